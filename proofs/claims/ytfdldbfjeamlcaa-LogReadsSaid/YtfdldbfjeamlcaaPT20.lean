/- Several texts joined: The reference's reader: what a job is asked for by. No conditions but those named. -/
import Derived.BigQuiet
import Derived.Deep.QuietTactic
import Derived.Deep.RegionLaw
import Derived.Deep.DeepCutAuto
import Derived.Lib.QuietBelow
import Derived.IntWalk
import Derived.WalkKit
import Derived.WalkLawsBesides
import Derived.Test.YtfdldbfjeamlcaaPT19
set_option linter.unusedVariables false
set_option linter.unusedSimpArgs false
namespace Go.Proofs.Ytfdldbfjeamlcaa.RfAsk
set_option maxRecDepth 100000
set_option maxHeartbeats 4000000
open Go.RowKit Mem RecMem RecByte RecNum RecEach RecMath RecCod RecCods RecPort RecCommand RecCmdJ RecVal RecSame RecOwn RecRd RecRByte RecRNum RecREach RecRFlat RecRClass RecRL0 RecRListI RecRAsk RecRState RecRCmd RecRRec RfRd RfByte RfNum RfMany RfFlat RfBox RfList
theorem pairDec_assoc {α β γ:Type} (d1:Bs→Option (α × Bs)) (d2:Bs→Option (β × Bs)) (d3:Bs→Option (γ × Bs)) (s:Bs) :
    pairDec d1 (pairDec d2 d3) s=(pairDec (pairDec d1 d2) d3 s).map fun p=>((p.1.1.1,(p.1.1.2,p.1.2)),p.2):=by
 unfold pairDec
 cases h1:d1 s with
 | none=>rfl
 | some p =>
  simp only [Option.bind_some]
  cases h2:d2 p.2 with
  | none=>rfl
  | some q =>
   simp only [Option.bind_some,Option.map_some]
   cases h3:d3 q.2 with
   | none=>rfl
   | some r=>rfl
section
variable {α β γ:Type} {R:Rep α} {S:Rep β} {U:Rep γ} {d1:Bs→Option (α × Bs)} {d2:Bs→Option (β × Bs)} {d3:Bs→Option (γ × Bs)} {gp:Nat} {t t1:Bs} {od od1:Bool} {w w1:World} {x:α} {y:β} {z:γ} {vs:List Value}
theorem RMid.assoc (h:RMid ((R.pair S).pair U) (pairDec (pairDec d1 d2) d3) gp gp t od w w1 ((x,y),z) vs t1 od1):RMid (R.pair (S.pair U)) (pairDec d1 (pairDec d2 d3)) gp gp t od w w1 (x,(y,z)) vs t1 od1 where
 at_:=by
  obtain ⟨a,b,rfl,⟨a1,a2,rfl,h1,h2⟩,h3⟩:=h.at_
  exact ⟨a1,a2 ++ b,by simp,h1,a2,b,rfl,h2,h3⟩
 fr:=h.fr
 le:=h.le
 ok e:=⟨(h.ok e).1,by rw [pairDec_assoc,(h.ok e).2];rfl⟩
 bad e e0:=by rw [pairDec_assoc,h.bad e e0];rfl
theorem RMid.cast (h:RMid R d1 gp gp t od w w1 x vs t1 od1) {R':Rep α} (hR:∀ w F vs,R.At w F x vs→R'.At w F x vs):RMid R' d1 gp gp t od w w1 x vs t1 od1:=⟨hR _ _ _ h.at_,h.fr,h.le,h.ok,h.bad⟩
theorem RMid.lay {b:Nat} {T:TypeId} {cs:Array Value} {w2 w3:World} {us:List Value} {t2:Bs} {od2:Bool} (h:RMid R d1 gp gp t od w w1 x vs t1 od1) (k:RMid S d2 gp gp t1 od1 w1 w2 y us t2 od2) (hg:gp < w.heap.size) (hN:KeepN T R) (hM:KeepN T S) (hb:w.heap.size≤b) (hk:Blk w2 b T cs) (ho:Only b w2 w3) :
    RMid (R.pair S) (pairDec d1 d2) gp gp t od w w3 (x,y) (vs ++ us) t2 od2:=RMid.over (h.pair k hg hg) (keepN_pair hN hM) hb hk ho
end
def QRet (B gp:Nat) (X:Option Addr) (t:Bs) (c k:Nat) (od:Bool) (w:World) (e:Ending) (w':World):Prop:=
 ∃ k' od' q V cv,e = .returned (.agg #[.int .i64 0,.int .i64 q.us,.int .i64 q.cl,.int .i64 q.a,.int .i64 q.b,.int .i64 q.c,.bool q.p,.bool q.q,.bool q.r,.bool q.tn,.int .i64 q.wa,.int .i64 q.pr,.bool q.he,.slice V q.af.length cv,.int .u8 0,.int .i64 0])∧RS B w' gp X t c k' od' ∧
  RMid askR askC.dec gp gp (t.drop k) od w w' q [.int .i64 q.us,.int .i64 q.cl,.int .i64 q.a,.int .i64 q.b,.int .i64 q.c,.bool q.p,.bool q.q,.bool q.r,.bool q.tn,.int .i64 q.wa,.int .i64 q.pr,.bool q.he,.slice V q.af.length cv] (t.drop k') od'
theorem QRet.mk {B gp:Nat} {X:Option Addr} {t:Bs} {c k:Nat} {od:Bool} {w w':World} (k':Nat) (od':Bool) (q:QV) (V:Option Addr) (cv:Nat) (h1:RS B w' gp X t c k' od')
    (h2:RMid askR askC.dec gp gp (t.drop k) od w w' q [.int .i64 q.us,.int .i64 q.cl,.int .i64 q.a,.int .i64 q.b,.int .i64 q.c,.bool q.p,.bool q.q,.bool q.r,.bool q.tn,.int .i64 q.wa,.int .i64 q.pr,.bool q.he,.slice V q.af.length cv] (t.drop k') od') :
    QRet B gp X t c k od w (.returned (.agg #[.int .i64 0,.int .i64 q.us,.int .i64 q.cl,.int .i64 q.a,.int .i64 q.b,.int .i64 q.c,.bool q.p,.bool q.q,.bool q.r,.bool q.tn,.int .i64 q.wa,.int .i64 q.pr,.bool q.he,.slice V q.af.length cv,.int .u8 0,.int .i64 0])) w':=⟨k',od',q,V,cv,rfl,h1,h2⟩
theorem rfasked (B gp:Nat) (X:Option Addr) (t:Bs) (c k:Nat) (od:Bool) (w:World) (hS:RS B w gp X t c k od) :
    Calls Try.prog 83 #[.pointer (some ⟨gp,0,none⟩)] w fun e w' => QRet B gp X t c k od w e w':=by
 have hlt:=hS.lt
 have hlow:=hS.low
 have HS:=Lib.hid ((hS.alloc (.cells Sq.zzJ 28)).alloc (.cells Sq.zzJ 28))
 have KR:=Lib.hid ((Blk.new w 28 Sq.zzJ).alloc (.cells Sq.zzJ 28))
 have K0:=Lib.hid (blk1 w 28 Sq.zzJ (o:=.cells Sq.zzJ 28))
 have HB:=Lib.hid (below_alloc (o:=.cells Sq.zzJ 28) (below_alloc (o:=.cells Sq.zzJ 28) (Below.refl w.heap.size w)))
 have hsz:w.heap.size+1 < ((w.alloc (.cells Sq.zzJ 28)).alloc (.cells Sq.zzJ 28)).heap.size:=by simp
 clear hS
 go_enter Try.func83,Try.ntmps83
 go_upto_region 2 with fail
 generalize (w.alloc (.cells Sq.zzJ 28)).alloc (.cells Sq.zzJ 28)=w0 at *
 go_wp2_with fail
 refine (rfnum B gp X t c k od w0 HS.out).mono ?_
 rintro e w1 hh
 obtain ⟨k1,od1,x1,rfl,hS,hM⟩:=hh
 have K1:=Lib.hid (hM.fr.blk K0.out (by omega) (by omega))
 have KR_1:=Lib.hid (hM.fr.blk KR.out (by omega) (by omega))
 have HMS1:=Lib.hid (And.intro hS hM)
 clear hS hM
 have c0:w1.cell? ⟨(w.heap.size+1),1,none⟩=some (.int .i64 0):=K1.out.cell 1
 have z0:=K1.out.frozen 1
 go_wp2_with fail
 have ho:Only (w.heap.size+1) w1 (w1.setCell ⟨(w.heap.size+1),1,none⟩ (.int .i64 x1)):=((Only.refl (w.heap.size+1) w1).set_ 1 (.int .i64 x1))
 have Kx:Blk (w1.setCell ⟨(w.heap.size+1),1,none⟩ (.int .i64 x1)) (w.heap.size+1) 28 #[.int .i64 0,.int .i64 x1,.int .i64 0,.int .i64 0,.int .i64 0,.int .i64 0,.bool false,.bool false,.bool false,.bool false,.int .i64 0,.int .i64 0,.bool false,.slice none 0 0,.int .u8 0,.int .i64 0]:=(K1.out.set_ 1 (.int .i64 x1))
 have KRx:=Lib.hid (ho.blk KR_1.out (by omega))
 have HA1:=Lib.hid (RMid.over (RMid.ahead HMS1.out.2 HB.out) (T:=28) keepN_flat (by omega) K1.out ho)
 have HS1:=Lib.hid (RS.only HMS1.out.1 ho (by omega) (by omega))
 have Kx1:=Lib.hid Kx
 have KR_1':=Lib.hid KRx.out
 clear ho Kx HMS1 K1 c0 z0 KRx KR_1 K0
 have KR_1:=Lib.hid KR_1'.out
 clear KR_1'
 generalize (w1.setCell ⟨(w.heap.size+1),1,none⟩ (.int .i64 x1))=v1 at *
 refine (rfnum B gp X t c k1 od1 v1 HS1.out).mono ?_
 rintro e w2 hh
 obtain ⟨k2,od2,x2,rfl,hS,hM⟩:=hh
 have K2:=Lib.hid (hM.fr.blk Kx1.out (by omega) (by omega))
 have KR_2:=Lib.hid (hM.fr.blk KR_1.out (by omega) (by omega))
 have HMS2:=Lib.hid (And.intro hS hM)
 clear hS hM
 have c0:w2.cell? ⟨(w.heap.size+1),2,none⟩=some (.int .i64 0):=K2.out.cell 2
 have z0:=K2.out.frozen 2
 go_wp2_with fail
 have ho:Only (w.heap.size+1) w2 (w2.setCell ⟨(w.heap.size+1),2,none⟩ (.int .i64 x2)):=((Only.refl (w.heap.size+1) w2).set_ 2 (.int .i64 x2))
 have Kx:Blk (w2.setCell ⟨(w.heap.size+1),2,none⟩ (.int .i64 x2)) (w.heap.size+1) 28 #[.int .i64 0,.int .i64 x1,.int .i64 x2,.int .i64 0,.int .i64 0,.int .i64 0,.bool false,.bool false,.bool false,.bool false,.int .i64 0,.int .i64 0,.bool false,.slice none 0 0,.int .u8 0,.int .i64 0]:=(K2.out.set_ 2 (.int .i64 x2))
 have KRx:=Lib.hid (ho.blk KR_2.out (by omega))
 have HA2:=Lib.hid (RMid.lay (T:=28) HA1.out HMS2.out.2 hlt keepN_flat keepN_flat (by omega) K2.out ho)
 have HS2:=Lib.hid (RS.only HMS2.out.1 ho (by omega) (by omega))
 have Kx2:=Lib.hid Kx
 have KR_2':=Lib.hid KRx.out
 clear ho Kx HMS2 K2 c0 z0 KRx KR_2
 have KR_2:=Lib.hid KR_2'.out
 clear KR_2'
 generalize (w2.setCell ⟨(w.heap.size+1),2,none⟩ (.int .i64 x2))=v2 at *
 refine (rfthree B gp X t c k2 od2 v2 HS2.out).mono ?_
 rintro e w3 hh
 obtain ⟨k3,od3,x3,rfl,hS,hM⟩:=hh
 simp only [aPk,boxL,spanL,n3L,t3L,numL,truthL,List.append_eq,List.cons_append,List.nil_append]
 have K3:=Lib.hid (hM.fr.blk Kx2.out (by omega) (by omega))
 have KR_3:=Lib.hid (hM.fr.blk KR_2.out (by omega) (by omega))
 have HMS3:=Lib.hid (And.intro hS hM)
 clear hS hM
 have c0:w3.cell? ⟨(w.heap.size+1),3,none⟩=some (.int .i64 0):=K3.out.cell 3
 have z0:=K3.out.frozen 3
 have c1:w3.cell? ⟨(w.heap.size+1),4,none⟩=some (.int .i64 0):=K3.out.cell 4
 have z1:=K3.out.frozen 4
 have c2:w3.cell? ⟨(w.heap.size+1),5,none⟩=some (.int .i64 0):=K3.out.cell 5
 have z2:=K3.out.frozen 5
 go_wp2_with fail
 have ho:Only (w.heap.size+1) w3 (((w3.setCell ⟨(w.heap.size+1),3,none⟩ (.int .i64 x3.1.1)).setCell ⟨(w.heap.size+1),4,none⟩ (.int .i64 x3.1.2)).setCell ⟨(w.heap.size+1),5,none⟩ (.int .i64 x3.2)):=((((Only.refl (w.heap.size+1) w3).set_ 3 (.int .i64 x3.1.1)).set_ 4 (.int .i64 x3.1.2)).set_ 5 (.int .i64 x3.2))
 have Kx:Blk (((w3.setCell ⟨(w.heap.size+1),3,none⟩ (.int .i64 x3.1.1)).setCell ⟨(w.heap.size+1),4,none⟩ (.int .i64 x3.1.2)).setCell ⟨(w.heap.size+1),5,none⟩ (.int .i64 x3.2)) (w.heap.size+1) 28 #[.int .i64 0,.int .i64 x1,.int .i64 x2,.int .i64 x3.1.1,.int .i64 x3.1.2,.int .i64 x3.2,.bool false,.bool false,.bool false,.bool false,.int .i64 0,.int .i64 0,.bool false,.slice none 0 0,.int .u8 0,.int .i64 0]:=(((K3.out.set_ 3 (.int .i64 x3.1.1)).set_ 4 (.int .i64 x3.1.2)).set_ 5 (.int .i64 x3.2))
 have KRx:=Lib.hid (ho.blk KR_3.out (by omega))
 have HA3:=Lib.hid (RMid.lay (T:=28) HA2.out HMS3.out.2 hlt (keepN_pair keepN_flat keepN_flat) keepN_flat (by omega) K3.out ho)
 have HS3:=Lib.hid (RS.only HMS3.out.1 ho (by omega) (by omega))
 have Kx3:=Lib.hid Kx
 have KR_3':=Lib.hid KRx.out
 clear ho Kx HMS3 K3 c0 z0 c1 z1 c2 z2 KRx KR_3
 have KR_3:=Lib.hid KR_3'.out
 clear KR_3'
 generalize (((w3.setCell ⟨(w.heap.size+1),3,none⟩ (.int .i64 x3.1.1)).setCell ⟨(w.heap.size+1),4,none⟩ (.int .i64 x3.1.2)).setCell ⟨(w.heap.size+1),5,none⟩ (.int .i64 x3.2))=v3 at *
 refine (rftruths B gp X t c k3 od3 v3 HS3.out).mono ?_
 rintro e w4 hh
 obtain ⟨k4,od4,x4,rfl,hS,hM⟩:=hh
 simp only [aPk,boxL,spanL,n3L,t3L,numL,truthL,List.append_eq,List.cons_append,List.nil_append]
 have K4:=Lib.hid (hM.fr.blk Kx3.out (by omega) (by omega))
 have KR_4:=Lib.hid (hM.fr.blk KR_3.out (by omega) (by omega))
 have HMS4:=Lib.hid (And.intro hS hM)
 clear hS hM
 have c0:w4.cell? ⟨(w.heap.size+1),6,none⟩=some (.bool false):=K4.out.cell 6
 have z0:=K4.out.frozen 6
 have c1:w4.cell? ⟨(w.heap.size+1),7,none⟩=some (.bool false):=K4.out.cell 7
 have z1:=K4.out.frozen 7
 have c2:w4.cell? ⟨(w.heap.size+1),8,none⟩=some (.bool false):=K4.out.cell 8
 have z2:=K4.out.frozen 8
 go_wp2_with fail
 have ho:Only (w.heap.size+1) w4 (((w4.setCell ⟨(w.heap.size+1),6,none⟩ (.bool x4.1.1)).setCell ⟨(w.heap.size+1),7,none⟩ (.bool x4.1.2)).setCell ⟨(w.heap.size+1),8,none⟩ (.bool x4.2)):=((((Only.refl (w.heap.size+1) w4).set_ 6 (.bool x4.1.1)).set_ 7 (.bool x4.1.2)).set_ 8 (.bool x4.2))
 have Kx:Blk (((w4.setCell ⟨(w.heap.size+1),6,none⟩ (.bool x4.1.1)).setCell ⟨(w.heap.size+1),7,none⟩ (.bool x4.1.2)).setCell ⟨(w.heap.size+1),8,none⟩ (.bool x4.2)) (w.heap.size+1) 28 #[.int .i64 0,.int .i64 x1,.int .i64 x2,.int .i64 x3.1.1,.int .i64 x3.1.2,.int .i64 x3.2,.bool x4.1.1,.bool x4.1.2,.bool x4.2,.bool false,.int .i64 0,.int .i64 0,.bool false,.slice none 0 0,.int .u8 0,.int .i64 0]:=(((K4.out.set_ 6 (.bool x4.1.1)).set_ 7 (.bool x4.1.2)).set_ 8 (.bool x4.2))
 have KRx:=Lib.hid (ho.blk KR_4.out (by omega))
 have HA4:=Lib.hid (RMid.lay (T:=28) HA3.out HMS4.out.2 hlt (keepN_pair (keepN_pair keepN_flat keepN_flat) keepN_flat) keepN_flat (by omega) K4.out ho)
 have HS4:=Lib.hid (RS.only HMS4.out.1 ho (by omega) (by omega))
 have Kx4:=Lib.hid Kx
 have KR_4':=Lib.hid KRx.out
 clear ho Kx HMS4 K4 c0 z0 c1 z1 c2 z2 KRx KR_4
 have KR_4:=Lib.hid KR_4'.out
 clear KR_4'
 generalize (((w4.setCell ⟨(w.heap.size+1),6,none⟩ (.bool x4.1.1)).setCell ⟨(w.heap.size+1),7,none⟩ (.bool x4.1.2)).setCell ⟨(w.heap.size+1),8,none⟩ (.bool x4.2))=v4 at *
 have HB_4:=Lib.hid (RMid.assoc HA4.out)
 refine (rftruth B gp X t c k4 od4 v4 HS4.out).mono ?_
 rintro e w5 hh
 obtain ⟨k5,od5,x5,rfl,hS,hM⟩:=hh
 have K5:=Lib.hid (hM.fr.blk Kx4.out (by omega) (by omega))
 have KR_5:=Lib.hid (hM.fr.blk KR_4.out (by omega) (by omega))
 have HMS5:=Lib.hid (And.intro hS hM)
 clear hS hM
 have c0:w5.cell? ⟨(w.heap.size+1),9,none⟩=some (.bool false):=K5.out.cell 9
 have z0:=K5.out.frozen 9
 go_wp2_with fail
 have ho:Only (w.heap.size+1) w5 (w5.setCell ⟨(w.heap.size+1),9,none⟩ (.bool x5)):=((Only.refl (w.heap.size+1) w5).set_ 9 (.bool x5))
 have Kx:Blk (w5.setCell ⟨(w.heap.size+1),9,none⟩ (.bool x5)) (w.heap.size+1) 28 #[.int .i64 0,.int .i64 x1,.int .i64 x2,.int .i64 x3.1.1,.int .i64 x3.1.2,.int .i64 x3.2,.bool x4.1.1,.bool x4.1.2,.bool x4.2,.bool x5,.int .i64 0,.int .i64 0,.bool false,.slice none 0 0,.int .u8 0,.int .i64 0]:=(K5.out.set_ 9 (.bool x5))
 have KRx:=Lib.hid (ho.blk KR_5.out (by omega))
 have HA5:=Lib.hid (RMid.lay (T:=28) HB_4.out HMS5.out.2 hlt (keepN_pair (keepN_pair keepN_flat keepN_flat) (keepN_pair keepN_flat keepN_flat)) keepN_flat (by omega) K5.out ho)
 have HS5:=Lib.hid (RS.only HMS5.out.1 ho (by omega) (by omega))
 have Kx5:=Lib.hid Kx
 have KR_5':=Lib.hid KRx.out
 clear ho Kx HMS5 K5 c0 z0 KRx KR_5
 have KR_5:=Lib.hid KR_5'.out
 clear KR_5'
 generalize (w5.setCell ⟨(w.heap.size+1),9,none⟩ (.bool x5))=v5 at *
 have HB_5:=Lib.hid (RMid.assoc HA5.out)
 have HC5:=Lib.hid (RMid.cast HB_5.out (R':=(numR.pair numR).pair wantsR) (fun w F vs h=>by
     obtain ⟨a,b,rfl,h1,⟨a1,b1,rfl,⟨a2,b2,rfl,h2,h3⟩,h4⟩⟩:=h
     obtain rfl:a2=n3L x3:=h2
     obtain rfl:b2=t3L x4:=h3
     obtain rfl:b1=truthL x5:=h4
     exact ⟨a,_,rfl,h1,rfl⟩))
 refine (rfnum B gp X t c k5 od5 v5 HS5.out).mono ?_
 rintro e w6 hh
 obtain ⟨k6,od6,x6,rfl,hS,hM⟩:=hh
 have K6:=Lib.hid (hM.fr.blk Kx5.out (by omega) (by omega))
 have KR_6:=Lib.hid (hM.fr.blk KR_5.out (by omega) (by omega))
 have HMS6:=Lib.hid (And.intro hS hM)
 clear hS hM
 have c0:w6.cell? ⟨(w.heap.size+1),10,none⟩=some (.int .i64 0):=K6.out.cell 10
 have z0:=K6.out.frozen 10
 go_wp2_with fail
 have ho:Only (w.heap.size+1) w6 (w6.setCell ⟨(w.heap.size+1),10,none⟩ (.int .i64 x6)):=((Only.refl (w.heap.size+1) w6).set_ 10 (.int .i64 x6))
 have Kx:Blk (w6.setCell ⟨(w.heap.size+1),10,none⟩ (.int .i64 x6)) (w.heap.size+1) 28 #[.int .i64 0,.int .i64 x1,.int .i64 x2,.int .i64 x3.1.1,.int .i64 x3.1.2,.int .i64 x3.2,.bool x4.1.1,.bool x4.1.2,.bool x4.2,.bool x5,.int .i64 x6,.int .i64 0,.bool false,.slice none 0 0,.int .u8 0,.int .i64 0]:=(K6.out.set_ 10 (.int .i64 x6))
 have KRx:=Lib.hid (ho.blk KR_6.out (by omega))
 have HA6:=Lib.hid (RMid.lay (T:=28) HC5.out HMS6.out.2 hlt (keepN_pair (keepN_pair keepN_flat keepN_flat) keepN_flat) keepN_flat (by omega) K6.out ho)
 have HS6:=Lib.hid (RS.only HMS6.out.1 ho (by omega) (by omega))
 have Kx6:=Lib.hid Kx
 have KR_6':=Lib.hid KRx.out
 clear ho Kx HMS6 K6 c0 z0 KRx KR_6
 have KR_6:=Lib.hid KR_6'.out
 clear KR_6'
 generalize (w6.setCell ⟨(w.heap.size+1),10,none⟩ (.int .i64 x6))=v6 at *
 refine (rfnum B gp X t c k6 od6 v6 HS6.out).mono ?_
 rintro e w7 hh
 obtain ⟨k7,od7,x7,rfl,hS,hM⟩:=hh
 have K7:=Lib.hid (hM.fr.blk Kx6.out (by omega) (by omega))
 have KR_7:=Lib.hid (hM.fr.blk KR_6.out (by omega) (by omega))
 have HMS7:=Lib.hid (And.intro hS hM)
 clear hS hM
 have c0:w7.cell? ⟨(w.heap.size+1),11,none⟩=some (.int .i64 0):=K7.out.cell 11
 have z0:=K7.out.frozen 11
 go_wp2_with fail
 have ho:Only (w.heap.size+1) w7 (w7.setCell ⟨(w.heap.size+1),11,none⟩ (.int .i64 x7)):=((Only.refl (w.heap.size+1) w7).set_ 11 (.int .i64 x7))
 have Kx:Blk (w7.setCell ⟨(w.heap.size+1),11,none⟩ (.int .i64 x7)) (w.heap.size+1) 28 #[.int .i64 0,.int .i64 x1,.int .i64 x2,.int .i64 x3.1.1,.int .i64 x3.1.2,.int .i64 x3.2,.bool x4.1.1,.bool x4.1.2,.bool x4.2,.bool x5,.int .i64 x6,.int .i64 x7,.bool false,.slice none 0 0,.int .u8 0,.int .i64 0]:=(K7.out.set_ 11 (.int .i64 x7))
 have KRx:=Lib.hid (ho.blk KR_7.out (by omega))
 have HA7:=Lib.hid (RMid.lay (T:=28) HA6.out HMS7.out.2 hlt (keepN_pair (keepN_pair (keepN_pair keepN_flat keepN_flat) keepN_flat) keepN_flat) keepN_flat (by omega) K7.out ho)
 have HS7:=Lib.hid (RS.only HMS7.out.1 ho (by omega) (by omega))
 have Kx7:=Lib.hid Kx
 have KR_7':=Lib.hid KRx.out
 clear ho Kx HMS7 K7 c0 z0 KRx KR_7
 have KR_7:=Lib.hid KR_7'.out
 clear KR_7'
 generalize (w7.setCell ⟨(w.heap.size+1),11,none⟩ (.int .i64 x7))=v7 at *
 refine (rftruth B gp X t c k7 od7 v7 HS7.out).mono ?_
 rintro e w8 hh
 obtain ⟨k8,od8,x8,rfl,hS,hM⟩:=hh
 have K8:=Lib.hid (hM.fr.blk Kx7.out (by omega) (by omega))
 have KR_8:=Lib.hid (hM.fr.blk KR_7.out (by omega) (by omega))
 have HMS8:=Lib.hid (And.intro hS hM)
 clear hS hM
 have c0:w8.cell? ⟨(w.heap.size+1),12,none⟩=some (.bool false):=K8.out.cell 12
 have z0:=K8.out.frozen 12
 go_wp2_with fail
 have ho:Only (w.heap.size+1) w8 (w8.setCell ⟨(w.heap.size+1),12,none⟩ (.bool x8)):=((Only.refl (w.heap.size+1) w8).set_ 12 (.bool x8))
 have Kx:Blk (w8.setCell ⟨(w.heap.size+1),12,none⟩ (.bool x8)) (w.heap.size+1) 28 #[.int .i64 0,.int .i64 x1,.int .i64 x2,.int .i64 x3.1.1,.int .i64 x3.1.2,.int .i64 x3.2,.bool x4.1.1,.bool x4.1.2,.bool x4.2,.bool x5,.int .i64 x6,.int .i64 x7,.bool x8,.slice none 0 0,.int .u8 0,.int .i64 0]:=(K8.out.set_ 12 (.bool x8))
 have KRx:=Lib.hid (ho.blk KR_8.out (by omega))
 have HA8:=Lib.hid (RMid.lay (T:=28) HA7.out HMS8.out.2 hlt (keepN_pair (keepN_pair (keepN_pair (keepN_pair keepN_flat keepN_flat) keepN_flat) keepN_flat) keepN_flat) keepN_flat (by omega) K8.out ho)
 have HS8:=Lib.hid (RS.only HMS8.out.1 ho (by omega) (by omega))
 have Kx8:=Lib.hid Kx
 have KR_8':=Lib.hid KRx.out
 clear ho Kx HMS8 K8 c0 z0 KRx KR_8
 have KR_8:=Lib.hid KR_8'.out
 clear KR_8'
 generalize (w8.setCell ⟨(w.heap.size+1),12,none⟩ (.bool x8))=v8 at *
 refine (rflist B gp X t c k8 od8 v8 HS8.out).mono ?_
 rintro e w9 hh
 obtain ⟨k9,od9,x9,V9,c9,rfl,hS,hM⟩:=hh
 have K9:=Lib.hid (hM.fr.blk Kx8.out (by omega) (by omega))
 have KR_9:=Lib.hid (hM.fr.blk KR_8.out (by omega) (by omega))
 have HMS9:=Lib.hid (And.intro hS hM)
 clear hS hM
 have c0:w9.cell? ⟨(w.heap.size+1),13,none⟩=some (.slice none 0 0):=K9.out.cell 13
 have z0:=K9.out.frozen 13
 go_upto_region 11 with fail
 have ho:Only (w.heap.size+1) w9 (w9.setCell ⟨(w.heap.size+1),13,none⟩ (.slice V9 x9.length c9)):=((Only.refl (w.heap.size+1) w9).set_ 13 (.slice V9 x9.length c9))
 have Kx:Blk (w9.setCell ⟨(w.heap.size+1),13,none⟩ (.slice V9 x9.length c9)) (w.heap.size+1) 28 #[.int .i64 0,.int .i64 x1,.int .i64 x2,.int .i64 x3.1.1,.int .i64 x3.1.2,.int .i64 x3.2,.bool x4.1.1,.bool x4.1.2,.bool x4.2,.bool x5,.int .i64 x6,.int .i64 x7,.bool x8,.slice V9 x9.length c9,.int .u8 0,.int .i64 0]:=(K9.out.set_ 13 (.slice V9 x9.length c9))
 have KRx:=Lib.hid (ho.blk KR_9.out (by omega))
 have HA9:=Lib.hid (RMid.lay (T:=28) HA8.out HMS9.out.2 hlt (keepN_pair (keepN_pair (keepN_pair (keepN_pair (keepN_pair keepN_flat keepN_flat) keepN_flat) keepN_flat) keepN_flat) keepN_flat) (keepN_ints (by decide)) (by omega) K9.out ho)
 have HS9:=Lib.hid (RS.only HMS9.out.1 ho (by omega) (by omega))
 have Kx9:=Lib.hid Kx
 have KR_9':=Lib.hid KRx.out
 clear ho Kx HMS9 K9 c0 z0 KRx KR_9
 have KR_9:=Lib.hid KR_9'.out
 clear KR_9'
 generalize (w9.setCell ⟨(w.heap.size+1),13,none⟩ (.slice V9 x9.length c9))=v9 at *
 have R9:=Lib.hid (show v9.rangeAt (w.heap.size+1) 0 [.int .i64 0,.int .i64 x1,.int .i64 x2,.int .i64 x3.1.1,.int .i64 x3.1.2,.int .i64 x3.2,.bool x4.1.1,.bool x4.1.2,.bool x4.2,.bool x5,.int .i64 x6,.int .i64 x7,.bool x8,.slice V9 x9.length c9,.int .u8 0,.int .i64 0] from range_part (n:=16) Kx9.out rfl)
 have ho:=Only.sets (Only.refl w.heap.size v9) [.int .i64 0,.int .i64 x1,.int .i64 x2,.int .i64 x3.1.1,.int .i64 x3.1.2,.int .i64 x3.2,.bool x4.1.1,.bool x4.1.2,.bool x4.2,.bool x5,.int .i64 x6,.int .i64 x7,.bool x8,.slice V9 x9.length c9,.int .u8 0,.int .i64 0] 0
 have Kz:Blk (World.setCells v9 w.heap.size 0 [.int .i64 0,.int .i64 x1,.int .i64 x2,.int .i64 x3.1.1,.int .i64 x3.1.2,.int .i64 x3.2,.bool x4.1.1,.bool x4.1.2,.bool x4.2,.bool x5,.int .i64 x6,.int .i64 x7,.bool x8,.slice V9 x9.length c9,.int .u8 0,.int .i64 0]) w.heap.size 28 (List.toArray [.int .i64 0,.int .i64 x1,.int .i64 x2,.int .i64 x3.1.1,.int .i64 x3.1.2,.int .i64 x3.2,.bool x4.1.1,.bool x4.1.2,.bool x4.2,.bool x5,.int .i64 x6,.int .i64 x7,.bool x8,.slice V9 x9.length c9,.int .u8 0,.int .i64 0]):=blk_all KR_9.out (setA_full rfl)
 have hM:=RMid.over HA9.out (T:=28) (keepN_pair (keepN_pair (keepN_pair (keepN_pair (keepN_pair (keepN_pair keepN_flat keepN_flat) keepN_flat) keepN_flat) keepN_flat) keepN_flat) (keepN_ints (by decide))) (Nat.le_refl _) KR_9.out ho
 have hS9:=RS.only HS9.out ho (by omega) (by omega)
 have HZ:=Lib.hid (And.intro Kz (And.intro hM hS9))
 clear ho Kz hM hS9
 go_wp2_with (first | (refine wpList_load_mid rfl 28 _ rfl _ _ rfl _ _ R9.out Try.underlying28 rfl (by kernel_rfl) ?_) | (refine wpList_store_mid rfl 28 _ _ rfl w.heap.size 0 (List.toArray [.int .i64 0,.int .i64 x1,.int .i64 x2,.int .i64 x3.1.1,.int .i64 x3.1.2,.int .i64 x3.2,.bool x4.1.1,.bool x4.1.2,.bool x4.2,.bool x5,.int .i64 x6,.int .i64 x7,.bool x8,.slice V9 x9.length c9,.int .u8 0,.int .i64 0]) rfl rfl (there_of KR_9.out (Nat.le_of_ble_eq_true rfl)) (by kernel_rfl) (by kernel_rfl) ?_;simp only [List.toList_toArray];generalize World.setCells _ _ _ _=w99 at *;(try simp only [Act.put])))
 refine bodyPost_ret (v:=.agg (List.toArray [.int .i64 0,.int .i64 x1,.int .i64 x2,.int .i64 x3.1.1,.int .i64 x3.1.2,.int .i64 x3.2,.bool x4.1.1,.bool x4.1.2,.bool x4.2,.bool x5,.int .i64 x6,.int .i64 x7,.bool x8,.slice V9 x9.length c9,.int .u8 0,.int .i64 0])) ?_ rfl ?_
 ·exact results_cell_row rfl _ _ w.heap.size 28 (List.toArray [.int .i64 0,.int .i64 x1,.int .i64 x2,.int .i64 x3.1.1,.int .i64 x3.1.2,.int .i64 x3.2,.bool x4.1.1,.bool x4.1.2,.bool x4.2,.bool x5,.int .i64 x6,.int .i64 x7,.bool x8,.slice V9 x9.length c9,.int .u8 0,.int .i64 0]) (0,0) _ rfl HZ.out.1 Try.underlying28 rfl (by kernel_rfl)
 ·have hq:=RMid.iso (f:=qOf) (g:=ofQ) (fun _=>rfl) HZ.out.2.1
  exact QRet.mk k9 od9 (qOf ((((((x1,x2),((x3,x4),x5)),x6),x7),x8),x9)) V9 c9 HZ.out.2.2 hq
end Go.Proofs.Ytfdldbfjeamlcaa.RfAsk
namespace Go.Proofs.Ytfdldbfjeamlcaa.RfCmd
set_option maxRecDepth 100000
set_option maxHeartbeats 4000000
open Go.RowKit Mem RecMem RecByte RecNum RecEach RecMath RecCod RecCods RecPort RecCommand RecCmdJ RecVal RecSame RecOwn RecRd RecRByte RecRNum RecREach RecRFlat RecRClass RecRL0 RecRListI RecRAsk RecRState RecRCmd RecRRec RfRd RfByte RfNum RfMany RfFlat RfBox RfList RfAsk
def CRet (B gp:Nat) (X:Option Addr) (t:Bs) (c k:Nat) (od:Bool) (w:World) (e:Ending) (w':World):Prop:=
 ∃ k' od' cm V cv,e = .returned (.agg (cL cm V cv).toArray)∧RS B w' gp X t c k' od'∧RMid cmdR cmdDec gp gp (t.drop k) od w w' cm (cL cm V cv) (t.drop k') od'
section
variable {α:Type} {S:Rep α} {d:Bs→Option (α × Bs)} {f:α→CV} {gp:Nat} {s u1 t1:Bs} {od od0 od1:Bool} {w w1:World} {x:Int} {y:α} {vs ws:List Value}
theorem RMid.cmd (hx:od0=false→od=false∧byteDec s=some (x,u1)) (hx2:od0=true→od=false→byteDec s=none) (h:RMid (byteR.pair S) (pairDec byteDec d) gp gp s od w w1 (x,y) vs t1 od1)
    (hd:∀ u,cmdDec (x :: u)=(d u).map fun p=>(f p.1,p.2)) (hat:cmdR.At w1 w.heap.size (f y) ws):RMid cmdR cmdDec gp gp s od w w1 (f y) ws t1 od1:=by
 refine ⟨hat,h.fr,h.le,fun e=>?_,fun e e0=>?_⟩
 ·obtain ⟨e0,hp⟩:=h.ok e
  refine ⟨e0,?_⟩
  cases s with
  | nil=>cases hp
  | cons b u =>
   unfold pairDec at hp
   rw [show byteDec (b :: u)=some (b,u) from rfl,Option.bind_some] at hp
   simp only at hp
   cases hdu:d u with
   | none=>rw [hdu] at hp;cases hp
   | some q =>
    obtain ⟨y',r⟩:=q
    rw [hdu] at hp
    simp only [Option.map_some,Option.some.injEq,Prod.mk.injEq] at hp
    obtain ⟨⟨rfl,rfl⟩,rfl⟩:=hp
    rw [hd,hdu];rfl
 ·have hp:=h.bad e e0
  cases s with
  | nil=>rfl
  | cons b u =>
   cases od0 with
   | true=>cases hx2 rfl e0
   | false =>
    have:=(hx rfl).2
    cases this
    unfold pairDec at hp
    rw [show byteDec (x :: u1)=some (x,u1) from rfl,Option.bind_some] at hp
    simp only at hp
    cases hdu:d u1 with
    | none=>rw [hd,hdu];rfl
    | some q=>rw [hdu] at hp;cases hp
end
section
variable {B gp:Nat} {X:Option Addr} {t:Bs} {c k k':Nat} {od od0 od':Bool} {w w':World} {u1:Bs}
theorem CRet.mk (cm:CV) (V:Option Addr) (cv:Nat) (h1:RS B w' gp X t c k' od') (h2:RMid cmdR cmdDec gp gp (t.drop k) od w w' cm (cL cm V cv) (t.drop k') od'):CRet B gp X t c k od w (.returned (.agg (cL cm V cv).toArray)) w':=⟨k',od',cm,V,cv,rfl,h1,h2⟩
def KIn (t:Bs) (k:Nat) (od od0:Bool) (x:Int) (u1:Bs):Prop:=(od0=false→od=false∧byteDec (t.drop k)=some (x,u1))∧(od0=true→od=false→byteDec (t.drop k)=none)
theorem mkId (kd:Int) {n:Int} {vs:List Value} (hk:isId kd) (hx:KIn t k od od0 kd u1) (h1:RS B w' gp X t c k' od') (h2:RMid (byteR.pair numR) (pairDec byteDec numDec) gp gp (t.drop k) od w w' (kd,n) vs (t.drop k') od'):CRet B gp X t c k od w (.returned (.agg (cL { CV.z with kd:=kd,ci:=n } none 0).toArray)) w':=
 CRet.mk _ none 0 h1 (RMid.cmd (f:=fun n=>{ CV.z with kd:=kd,ci:=n }) hx.1 hx.2 h2 (fun u=>dec_id hk) (cmdR_nil rfl))
theorem mkN (kd:Int) {n:Int} {vs:List Value} (hk:isN kd) (hx:KIn t k od od0 kd u1) (h1:RS B w' gp X t c k' od') (h2:RMid (byteR.pair numR) (pairDec byteDec numDec) gp gp (t.drop k) od w w' (kd,n) vs (t.drop k') od'):CRet B gp X t c k od w (.returned (.agg (cL { CV.z with kd:=kd,n:=n } none 0).toArray)) w':=
 CRet.mk _ none 0 h1 (RMid.cmd (f:=fun n=>{ CV.z with kd:=kd,n:=n }) hx.1 hx.2 h2 (fun u=>dec_n hk) (cmdR_nil rfl))
theorem mkWell (kd:Int) {n:Int} {b:Bool} {vs:List Value} (hk:isWell kd) (hx:KIn t k od od0 kd u1) (h1:RS B w' gp X t c k' od') (h2:RMid ((byteR.pair numR).pair truthR) (pairDec (pairDec byteDec numDec) truthDec) gp gp (t.drop k) od w w' ((kd,n),b) vs (t.drop k') od'):CRet B gp X t c k od w (.returned (.agg (cL { CV.z with kd:=kd,ci:=n,we:=b } none 0).toArray)) w':=
 CRet.mk _ none 0 h1 (RMid.cmd (f:=fun p:Int × Bool=>{ CV.z with kd:=kd,ci:=p.1,we:=p.2 }) hx.1 hx.2 (RMid.assoc h2) (fun u=>dec_well hk) (cmdR_nil rfl))
theorem mkKeep (kd:Int) {b:I3 × I3} {p:Int × Int} {vs:List Value} (hk:isKeep kd) (hx:KIn t k od od0 kd u1) (h1:RS B w' gp X t c k' od') (h2:RMid ((byteR.pair boxR).pair spanR) (pairDec (pairDec byteDec boxC.dec) spanC.dec) gp gp (t.drop k) od w w' ((kd,b),p) vs (t.drop k') od'):CRet B gp X t c k od w (.returned (.agg (cL (setK kd (b,p)) none 0).toArray)) w':=
 CRet.mk _ none 0 h1 (RMid.cmd (f:=fun p=>setK kd p) hx.1 hx.2 (RMid.assoc h2) (fun u=>dec_keep hk) (cmdR_nil rfl))
theorem mkJob (kd:Int) {q:QV} {V:Option Addr} {cv:Nat} (hk:isJob kd) (hx:KIn t k od od0 kd u1) (h1:RS B w' gp X t c k' od') (h2:RMid (byteR.pair askR) (pairDec byteDec askC.dec) gp gp (t.drop k) od w w' (kd,q) ([.int .u8 kd] ++ qL q V cv) (t.drop k') od'):CRet B gp X t c k od w (.returned (.agg (cL (setQ kd q) V cv).toArray)) w':=
 CRet.mk _ V cv h1 (RMid.cmd (f:=fun q=>setQ kd q) hx.1 hx.2 h2 (fun u=>dec_job hk) (by
  obtain ⟨a,b,e,ha,hb⟩:=h2.at_
  obtain rfl:a=[.int .u8 kd]:=ha
  obtain rfl:qL q V cv=b:=by simpa using e
  obtain ⟨V2,c2,e2,h⟩:=ask_form hb
  simp only [qL,List.cons.injEq,Value.slice.injEq] at e2
  obtain ⟨_,_,_,_,_,_,_,_,_,_,_,_,⟨rfl,_,rfl⟩,_⟩:=e2
  exact ⟨V,cv,rfl,h⟩))
theorem mkBad {cm:CV} {V:Option Addr} {cv:Nat} {x:Int} {vs:List Value} (hk:¬ (1≤x∧x≤15)) (hx:KIn t k od od0 x u1) (h1:RS B w' gp X t c k' true) (h2:RMid byteR byteDec gp gp (t.drop k) od w w' x vs (t.drop k') od0) (hat:cmdR.At w' w.heap.size cm (cL cm V cv)):CRet B gp X t c k od w (.returned (.agg (cL cm V cv).toArray)) w':=
 CRet.mk cm V cv h1 ⟨hat,h2.fr,h2.le,(fun e=>by cases e),fun _ e0=>by
  cases od0 with
  | true => 
   have h:=hx.2 rfl e0
   cases hs:t.drop k with
   | nil=>rfl
   | cons b u=>rw [hs] at h;cases h
  | false =>
   have h:=(hx.1 rfl).2
   cases hs:t.drop k with
   | nil=>rfl
   | cons b u=>rw [hs] at h;cases h;exact dec_z hk⟩
end
theorem set_jobx (x:Int) (q:QV) (V:Option Addr) (c:Nat):setA #[.int .u8 x,.int .i64 0,.int .i64 0,.int .i64 0,.int .i64 0,.int .i64 0,.int .i64 0,.bool false,.bool false,.bool false,.bool false,.int .i64 0,.int .i64 0,.bool false,.slice none 0 0,.int .u8 0,.int .i64 0,.int .i64 0,.int .i64 0,.int .i64 0,.int .i64 0,.int .i64 0,.int .i64 0,.int .i64 0,.int .i64 0,.int .i64 0,.int .i64 0,.bool false] 1 [.int .i64 0,.int .i64 q.us,.int .i64 q.cl,.int .i64 q.a,.int .i64 q.b,.int .i64 q.c,.bool q.p,.bool q.q,.bool q.r,.bool q.tn,.int .i64 q.wa,.int .i64 q.pr,.bool q.he,.slice V q.af.length c,.int .u8 0,.int .i64 0]=#[.int .u8 x,.int .i64 0,.int .i64 q.us,.int .i64 q.cl,.int .i64 q.a,.int .i64 q.b,.int .i64 q.c,.bool q.p,.bool q.q,.bool q.r,.bool q.tn,.int .i64 q.wa,.int .i64 q.pr,.bool q.he,.slice V q.af.length c,.int .u8 0,.int .i64 0,.int .i64 0,.int .i64 0,.int .i64 0,.int .i64 0,.int .i64 0,.int .i64 0,.int .i64 0,.int .i64 0,.int .i64 0,.int .i64 0,.bool false]:=by
 simp only [setA,List.setIfInBounds_toArray,List.set_cons_zero,List.set_cons_succ]
theorem rfcommand (B gp:Nat) (X:Option Addr) (t:Bs) (c k:Nat) (od:Bool) (w:World) (hS:RS B w gp X t c k od) :
    Calls Try.prog 55 #[.pointer (some ⟨gp,0,none⟩)] w fun e w' => CRet B gp X t c k od w e w':=by
 have hlt:=hS.lt
 have hlow:=hS.low
 have HS:=Lib.hid (hS.alloc (.cells Sq.zzC 34))
 have KR9:=Lib.hid (Blk.new w 34 Sq.zzC)
 have HB:=Lib.hid (below_alloc (o:=.cells Sq.zzC 34) (Below.refl w.heap.size w))
 have hsz:w.heap.size < (w.alloc (.cells Sq.zzC 34)).heap.size:=by simp
 clear hS
 go_enter Try.func55,Try.ntmps55
 go_upto_region 1 with fail
 generalize w.alloc (.cells Sq.zzC 34)=w0 at *
 go_wp2_with fail
 refine (rfbyte B gp X t c k od w0 HS.out).mono ?_
 rintro e wb hh
 obtain ⟨k0,od0,x,rfl,hx0,hx1,hS,hM,_,_⟩:=hh
 have HX:=Lib.hid (show KIn t k od od0 x (t.drop k0) from ⟨fun e=>hM.ok e,fun e e0=>hM.bad e e0⟩)
 have KR8:=Lib.hid (hM.fr.blk KR9.out (by omega) (by omega))
 have hs0:=hM.fr.size
 have HM:=Lib.hid (And.intro hS hM)
 clear hS hM KR9 HS
 have xf:=box_full (W:=wb) 34 Sq.zzC (vs:=[.int .u8 x,.int .i64 0,.int .i64 0,.int .i64 0,.int .i64 0,.int .i64 0,.int .i64 0,.bool false,.bool false,.bool false,.bool false,.int .i64 0,.int .i64 0,.bool false,.slice none 0 0,.int .u8 0,.int .i64 0,.int .i64 0,.int .i64 0,.int .i64 0,.int .i64 0,.int .i64 0,.int .i64 0,.int .i64 0,.int .i64 0,.int .i64 0,.int .i64 0,.bool false]) rfl
 have hsx:wb.heap.size < (World.setCells (wb.alloc (.cells Sq.zzC 34)) wb.heap.size 0 [.int .u8 x,.int .i64 0,.int .i64 0,.int .i64 0,.int .i64 0,.int .i64 0,.int .i64 0,.bool false,.bool false,.bool false,.bool false,.int .i64 0,.int .i64 0,.bool false,.slice none 0 0,.int .u8 0,.int .i64 0,.int .i64 0,.int .i64 0,.int .i64 0,.int .i64 0,.int .i64 0,.int .i64 0,.int .i64 0,.int .i64 0,.int .i64 0,.int .i64 0,.bool false]).heap.size:=xf.1.lt
 have XF:=Lib.hid xf
 clear xf
 go_upto_region 2 with (refine wpList_store_mid rfl 34 _ _ rfl wb.heap.size 0 (List.toArray [.int .u8 x,.int .i64 0,.int .i64 0,.int .i64 0,.int .i64 0,.int .i64 0,.int .i64 0,.bool false,.bool false,.bool false,.bool false,.int .i64 0,.int .i64 0,.bool false,.slice none 0 0,.int .u8 0,.int .i64 0,.int .i64 0,.int .i64 0,.int .i64 0,.int .i64 0,.int .i64 0,.int .i64 0,.int .i64 0,.int .i64 0,.int .i64 0,.int .i64 0,.bool false]) rfl rfl (there_of (Blk.new wb 34 Sq.zzC) (Nat.le_of_ble_eq_true rfl)) (by kernel_rfl) (by kernel_rfl) ?_;simp only [List.toList_toArray];generalize World.setCells _ _ _ _=v0 at *;(try simp only [Act.put]))
 have KR:=Lib.hid (KR8.out.below XF.out.2 KR8.out.lt)
 have Kx0:=Lib.hid XF.out.1
 have HS0:=Lib.hid (HM.out.1.up XF.out.2)
 have HA0:=Lib.hid (RMid.ahead (RMid.up HM.out.2 XF.out.2) HB.out)
 clear XF
 have hg1:w.heap.size < wb.heap.size:=by omega
 generalize wb.heap.size=g1 at *
 clear KR8 HM hs0
 have y0:v0.cell? ⟨g1,0,none⟩=some (.int .u8 x):=Kx0.out.cell 0
 have hk:isJob x∨isId x∨isKeep x∨isWell x∨isN x∨¬ (1≤x∧x≤15):=by
  by_cases hm:1≤x∧x≤15
  ·rcases mayK_iff.1 (show mayK x=true by unfold mayK;simp [hm]) with h | h | h | h | h
   ·exact .inl h
   ·exact .inr (.inl h)
   ·exact .inr (.inr (.inl h))
   ·exact .inr (.inr (.inr (.inl h)))
   ·exact .inr (.inr (.inr (.inr (.inl h))))
  ·exact .inr (.inr (.inr (.inr (.inr hm))))
 rcases hk with hk | hk | hk | hk | hk | hk
 ·have hx:x=1:=hk
  have n1:=congrArg (fun a:Int=>a == 1) hx
  have n2:=congrArg (fun a:Int=>a == 2) hx
  have n3:=congrArg (fun a:Int=>a == 3) hx
  have n4:=congrArg (fun a:Int=>a == 4) hx
  have n5:=congrArg (fun a:Int=>a == 5) hx
  have n6:=congrArg (fun a:Int=>a == 6) hx
  have n7:=congrArg (fun a:Int=>a == 7) hx
  have n8:=congrArg (fun a:Int=>a == 8) hx
  have n9:=congrArg (fun a:Int=>a == 9) hx
  have n10:=congrArg (fun a:Int=>a == 10) hx
  have n11:=congrArg (fun a:Int=>a == 11) hx
  have n12:=congrArg (fun a:Int=>a == 12) hx
  have n13:=congrArg (fun a:Int=>a == 13) hx
  have n14:=congrArg (fun a:Int=>a == 14) hx
  have n15:=congrArg (fun a:Int=>a == 15) hx
  have HXX:=Lib.hid hx
  clear hx
  clear hk
  go_wp2_with fail
  clear n1 n2 n3 n4 n5 n6 n7 n8 n9 n10 n11 n12 n13 n14 n15
  refine (rfasked B gp X t c k0 od0 v0 HS0.out).mono ?_
  rintro e w1 hh
  obtain ⟨k1,od1,x1,V1,c1,rfl,hS,hM⟩:=hh
  have K1:=Lib.hid (hM.fr.blk Kx0.out (by omega) (by omega))
  have KR_0:=Lib.hid (hM.fr.blk KR.out (by omega) (by omega))
  have HMS1:=Lib.hid (And.intro hS hM)
  have ho:=Only.sets (Only.refl g1 w1) [.int .i64 0,.int .i64 x1.us,.int .i64 x1.cl,.int .i64 x1.a,.int .i64 x1.b,.int .i64 x1.c,.bool x1.p,.bool x1.q,.bool x1.r,.bool x1.tn,.int .i64 x1.wa,.int .i64 x1.pr,.bool x1.he,.slice V1 x1.af.length c1,.int .u8 0,.int .i64 0] 1
  have Kx:=blk_setA (i:=1) (vs:=[.int .i64 0,.int .i64 x1.us,.int .i64 x1.cl,.int .i64 x1.a,.int .i64 x1.b,.int .i64 x1.c,.bool x1.p,.bool x1.q,.bool x1.r,.bool x1.tn,.int .i64 x1.wa,.int .i64 x1.pr,.bool x1.he,.slice V1 x1.af.length c1,.int .u8 0,.int .i64 0]) K1.out
  rw [set_jobx] at Kx
  have XX:=Lib.hid (And.intro Kx (And.intro (RMid.lay (T:=34) HA0.out HMS1.out.2 hlt keepN_flat (keepN_ask (by decide)) (by omega) K1.out ho) (And.intro (RS.only HMS1.out.1 ho (by omega) (by omega)) (ho.blk KR_0.out (by omega)))))
  clear hS hM ho Kx
  go_upto_region 26 with (refine wpList_store_mid rfl 28 _ _ rfl g1 1 (List.toArray [.int .i64 0,.int .i64 x1.us,.int .i64 x1.cl,.int .i64 x1.a,.int .i64 x1.b,.int .i64 x1.c,.bool x1.p,.bool x1.q,.bool x1.r,.bool x1.tn,.int .i64 x1.wa,.int .i64 x1.pr,.bool x1.he,.slice V1 x1.af.length c1,.int .u8 0,.int .i64 0]) rfl rfl (there_of K1.out (Nat.le_of_ble_eq_true rfl)) (by kernel_rfl) (by kernel_rfl) ?_;simp only [List.toList_toArray];generalize World.setCells _ _ _ _=v1 at *;(try simp only [Act.put]))
  have Kx1:=Lib.hid XX.out.1
  have HA1:=Lib.hid XX.out.2.1
  have HS1:=Lib.hid XX.out.2.2.1
  have KR_1:=Lib.hid XX.out.2.2.2
  clear XX K1 KR_0 HMS1
  have R9:=Lib.hid (show v1.rangeAt g1 0 [.int .u8 x,.int .i64 0,.int .i64 x1.us,.int .i64 x1.cl,.int .i64 x1.a,.int .i64 x1.b,.int .i64 x1.c,.bool x1.p,.bool x1.q,.bool x1.r,.bool x1.tn,.int .i64 x1.wa,.int .i64 x1.pr,.bool x1.he,.slice V1 x1.af.length c1,.int .u8 0,.int .i64 0,.int .i64 0,.int .i64 0,.int .i64 0,.int .i64 0,.int .i64 0,.int .i64 0,.int .i64 0,.int .i64 0,.int .i64 0,.int .i64 0,.bool false] from range_part (n:=28) Kx1.out rfl)
  have ho:=Only.sets (Only.refl w.heap.size v1) [.int .u8 x,.int .i64 0,.int .i64 x1.us,.int .i64 x1.cl,.int .i64 x1.a,.int .i64 x1.b,.int .i64 x1.c,.bool x1.p,.bool x1.q,.bool x1.r,.bool x1.tn,.int .i64 x1.wa,.int .i64 x1.pr,.bool x1.he,.slice V1 x1.af.length c1,.int .u8 0,.int .i64 0,.int .i64 0,.int .i64 0,.int .i64 0,.int .i64 0,.int .i64 0,.int .i64 0,.int .i64 0,.int .i64 0,.int .i64 0,.int .i64 0,.bool false] 0
  have Kz:Blk (World.setCells v1 w.heap.size 0 [.int .u8 x,.int .i64 0,.int .i64 x1.us,.int .i64 x1.cl,.int .i64 x1.a,.int .i64 x1.b,.int .i64 x1.c,.bool x1.p,.bool x1.q,.bool x1.r,.bool x1.tn,.int .i64 x1.wa,.int .i64 x1.pr,.bool x1.he,.slice V1 x1.af.length c1,.int .u8 0,.int .i64 0,.int .i64 0,.int .i64 0,.int .i64 0,.int .i64 0,.int .i64 0,.int .i64 0,.int .i64 0,.int .i64 0,.int .i64 0,.int .i64 0,.bool false]) w.heap.size 34 (List.toArray [.int .u8 x,.int .i64 0,.int .i64 x1.us,.int .i64 x1.cl,.int .i64 x1.a,.int .i64 x1.b,.int .i64 x1.c,.bool x1.p,.bool x1.q,.bool x1.r,.bool x1.tn,.int .i64 x1.wa,.int .i64 x1.pr,.bool x1.he,.slice V1 x1.af.length c1,.int .u8 0,.int .i64 0,.int .i64 0,.int .i64 0,.int .i64 0,.int .i64 0,.int .i64 0,.int .i64 0,.int .i64 0,.int .i64 0,.int .i64 0,.int .i64 0,.bool false]):=blk_all KR_1.out (setA_full rfl)
  have hM:=RMid.over HA1.out (T:=34) (keepN_pair keepN_flat (keepN_ask (by decide))) (Nat.le_refl _) KR_1.out ho
  have hS9:=RS.only HS1.out ho (by omega) (by omega)
  have HZ:=Lib.hid (And.intro Kz (And.intro hM hS9))
  clear ho Kz hM hS9
  go_wp2_with (first | (refine wpList_load_mid rfl 34 _ rfl _ _ rfl _ _ R9.out Try.underlying34 rfl (by kernel_rfl) ?_) | (refine wpList_store_mid rfl 34 _ _ rfl w.heap.size 0 (List.toArray [.int .u8 x,.int .i64 0,.int .i64 x1.us,.int .i64 x1.cl,.int .i64 x1.a,.int .i64 x1.b,.int .i64 x1.c,.bool x1.p,.bool x1.q,.bool x1.r,.bool x1.tn,.int .i64 x1.wa,.int .i64 x1.pr,.bool x1.he,.slice V1 x1.af.length c1,.int .u8 0,.int .i64 0,.int .i64 0,.int .i64 0,.int .i64 0,.int .i64 0,.int .i64 0,.int .i64 0,.int .i64 0,.int .i64 0,.int .i64 0,.int .i64 0,.bool false]) rfl rfl (there_of KR_1.out (Nat.le_of_ble_eq_true rfl)) (by kernel_rfl) (by kernel_rfl) ?_;simp only [List.toList_toArray];generalize World.setCells _ _ _ _=w99 at *;(try simp only [Act.put])))
  refine bodyPost_ret (v:=.agg (List.toArray [.int .u8 x,.int .i64 0,.int .i64 x1.us,.int .i64 x1.cl,.int .i64 x1.a,.int .i64 x1.b,.int .i64 x1.c,.bool x1.p,.bool x1.q,.bool x1.r,.bool x1.tn,.int .i64 x1.wa,.int .i64 x1.pr,.bool x1.he,.slice V1 x1.af.length c1,.int .u8 0,.int .i64 0,.int .i64 0,.int .i64 0,.int .i64 0,.int .i64 0,.int .i64 0,.int .i64 0,.int .i64 0,.int .i64 0,.int .i64 0,.int .i64 0,.bool false])) ?_ rfl ?_
  ·exact results_cell_row rfl _ _ w.heap.size 34 (List.toArray [.int .u8 x,.int .i64 0,.int .i64 x1.us,.int .i64 x1.cl,.int .i64 x1.a,.int .i64 x1.b,.int .i64 x1.c,.bool x1.p,.bool x1.q,.bool x1.r,.bool x1.tn,.int .i64 x1.wa,.int .i64 x1.pr,.bool x1.he,.slice V1 x1.af.length c1,.int .u8 0,.int .i64 0,.int .i64 0,.int .i64 0,.int .i64 0,.int .i64 0,.int .i64 0,.int .i64 0,.int .i64 0,.int .i64 0,.int .i64 0,.int .i64 0,.bool false]) (0,0) _ rfl HZ.out.1 Try.underlying34 rfl (by kernel_rfl)
  ·exact mkJob x (by have:=HXX.out;unfold isJob;omega) HX.out HZ.out.2.2 HZ.out.2.1
 ·unfold isId at hk
  rcases hk with hx | hx | hx | hx
  all_goals
   have n1:=congrArg (fun a:Int=>a == 1) hx
   have n2:=congrArg (fun a:Int=>a == 2) hx
   have n3:=congrArg (fun a:Int=>a == 3) hx
   have n4:=congrArg (fun a:Int=>a == 4) hx
   have n5:=congrArg (fun a:Int=>a == 5) hx
   have n6:=congrArg (fun a:Int=>a == 6) hx
   have n7:=congrArg (fun a:Int=>a == 7) hx
   have n8:=congrArg (fun a:Int=>a == 8) hx
   have n9:=congrArg (fun a:Int=>a == 9) hx
   have n10:=congrArg (fun a:Int=>a == 10) hx
   have n11:=congrArg (fun a:Int=>a == 11) hx
   have n12:=congrArg (fun a:Int=>a == 12) hx
   have n13:=congrArg (fun a:Int=>a == 13) hx
   have n14:=congrArg (fun a:Int=>a == 14) hx
   have n15:=congrArg (fun a:Int=>a == 15) hx
   have HXX:=Lib.hid hx
   clear hx
   go_wp2_with fail
   clear n1 n2 n3 n4 n5 n6 n7 n8 n9 n10 n11 n12 n13 n14 n15
   refine (rfnum B gp X t c k0 od0 v0 HS0.out).mono ?_
   rintro e w1 hh
   obtain ⟨k1,od1,x1,rfl,hS,hM⟩:=hh
   have K1:=Lib.hid (hM.fr.blk Kx0.out (by omega) (by omega))
   have KR_1:=Lib.hid (hM.fr.blk KR.out (by omega) (by omega))
   have HMS1:=Lib.hid (And.intro hS hM)
   clear hS hM
   have c0:w1.cell? ⟨g1,17,none⟩=some (.int .i64 0):=K1.out.cell 17
   have z0:=K1.out.frozen 17
   go_upto_region 26 with fail
   have ho:Only g1 w1 (w1.setCell ⟨g1,17,none⟩ (.int .i64 x1)):=((Only.refl g1 w1).set_ 17 (.int .i64 x1))
   have Kx:Blk (w1.setCell ⟨g1,17,none⟩ (.int .i64 x1)) g1 34 #[.int .u8 x,.int .i64 0,.int .i64 0,.int .i64 0,.int .i64 0,.int .i64 0,.int .i64 0,.bool false,.bool false,.bool false,.bool false,.int .i64 0,.int .i64 0,.bool false,.slice none 0 0,.int .u8 0,.int .i64 0,.int .i64 x1,.int .i64 0,.int .i64 0,.int .i64 0,.int .i64 0,.int .i64 0,.int .i64 0,.int .i64 0,.int .i64 0,.int .i64 0,.bool false]:=(K1.out.set_ 17 (.int .i64 x1))
   have KRx:=Lib.hid (ho.blk KR_1.out (by omega))
   have HA1:=Lib.hid (RMid.lay (T:=34) HA0.out HMS1.out.2 hlt keepN_flat keepN_flat (by omega) K1.out ho)
   have HS1:=Lib.hid (RS.only HMS1.out.1 ho (by omega) (by omega))
   have Kx1:=Lib.hid Kx
   have KR_1':=Lib.hid KRx.out
   clear ho Kx HMS1 K1 c0 z0 KRx KR_1 Kx0
   have KR_1:=Lib.hid KR_1'.out
   clear KR_1'
   generalize (w1.setCell ⟨g1,17,none⟩ (.int .i64 x1))=v1 at *
   have R9:=Lib.hid (show v1.rangeAt g1 0 [.int .u8 x,.int .i64 0,.int .i64 0,.int .i64 0,.int .i64 0,.int .i64 0,.int .i64 0,.bool false,.bool false,.bool false,.bool false,.int .i64 0,.int .i64 0,.bool false,.slice none 0 0,.int .u8 0,.int .i64 0,.int .i64 x1,.int .i64 0,.int .i64 0,.int .i64 0,.int .i64 0,.int .i64 0,.int .i64 0,.int .i64 0,.int .i64 0,.int .i64 0,.bool false] from range_part (n:=28) Kx1.out rfl)
   have ho:=Only.sets (Only.refl w.heap.size v1) [.int .u8 x,.int .i64 0,.int .i64 0,.int .i64 0,.int .i64 0,.int .i64 0,.int .i64 0,.bool false,.bool false,.bool false,.bool false,.int .i64 0,.int .i64 0,.bool false,.slice none 0 0,.int .u8 0,.int .i64 0,.int .i64 x1,.int .i64 0,.int .i64 0,.int .i64 0,.int .i64 0,.int .i64 0,.int .i64 0,.int .i64 0,.int .i64 0,.int .i64 0,.bool false] 0
   have Kz:Blk (World.setCells v1 w.heap.size 0 [.int .u8 x,.int .i64 0,.int .i64 0,.int .i64 0,.int .i64 0,.int .i64 0,.int .i64 0,.bool false,.bool false,.bool false,.bool false,.int .i64 0,.int .i64 0,.bool false,.slice none 0 0,.int .u8 0,.int .i64 0,.int .i64 x1,.int .i64 0,.int .i64 0,.int .i64 0,.int .i64 0,.int .i64 0,.int .i64 0,.int .i64 0,.int .i64 0,.int .i64 0,.bool false]) w.heap.size 34 (List.toArray [.int .u8 x,.int .i64 0,.int .i64 0,.int .i64 0,.int .i64 0,.int .i64 0,.int .i64 0,.bool false,.bool false,.bool false,.bool false,.int .i64 0,.int .i64 0,.bool false,.slice none 0 0,.int .u8 0,.int .i64 0,.int .i64 x1,.int .i64 0,.int .i64 0,.int .i64 0,.int .i64 0,.int .i64 0,.int .i64 0,.int .i64 0,.int .i64 0,.int .i64 0,.bool false]):=blk_all KR_1.out (setA_full rfl)
   have hM:=RMid.over HA1.out (T:=34) (keepN_pair keepN_flat keepN_flat) (Nat.le_refl _) KR_1.out ho
   have hS9:=RS.only HS1.out ho (by omega) (by omega)
   have HZ:=Lib.hid (And.intro Kz (And.intro hM hS9))
   clear ho Kz hM hS9
   go_wp2_with (first | (refine wpList_load_mid rfl 34 _ rfl _ _ rfl _ _ R9.out Try.underlying34 rfl (by kernel_rfl) ?_) | (refine wpList_store_mid rfl 34 _ _ rfl w.heap.size 0 (List.toArray [.int .u8 x,.int .i64 0,.int .i64 0,.int .i64 0,.int .i64 0,.int .i64 0,.int .i64 0,.bool false,.bool false,.bool false,.bool false,.int .i64 0,.int .i64 0,.bool false,.slice none 0 0,.int .u8 0,.int .i64 0,.int .i64 x1,.int .i64 0,.int .i64 0,.int .i64 0,.int .i64 0,.int .i64 0,.int .i64 0,.int .i64 0,.int .i64 0,.int .i64 0,.bool false]) rfl rfl (there_of KR_1.out (Nat.le_of_ble_eq_true rfl)) (by kernel_rfl) (by kernel_rfl) ?_;simp only [List.toList_toArray];generalize World.setCells _ _ _ _=w99 at *;(try simp only [Act.put])))
   refine bodyPost_ret (v:=.agg (List.toArray [.int .u8 x,.int .i64 0,.int .i64 0,.int .i64 0,.int .i64 0,.int .i64 0,.int .i64 0,.bool false,.bool false,.bool false,.bool false,.int .i64 0,.int .i64 0,.bool false,.slice none 0 0,.int .u8 0,.int .i64 0,.int .i64 x1,.int .i64 0,.int .i64 0,.int .i64 0,.int .i64 0,.int .i64 0,.int .i64 0,.int .i64 0,.int .i64 0,.int .i64 0,.bool false])) ?_ rfl ?_
   ·exact results_cell_row rfl _ _ w.heap.size 34 (List.toArray [.int .u8 x,.int .i64 0,.int .i64 0,.int .i64 0,.int .i64 0,.int .i64 0,.int .i64 0,.bool false,.bool false,.bool false,.bool false,.int .i64 0,.int .i64 0,.bool false,.slice none 0 0,.int .u8 0,.int .i64 0,.int .i64 x1,.int .i64 0,.int .i64 0,.int .i64 0,.int .i64 0,.int .i64 0,.int .i64 0,.int .i64 0,.int .i64 0,.int .i64 0,.bool false]) (0,0) _ rfl HZ.out.1 Try.underlying34 rfl (by kernel_rfl)
   ·exact mkId x (by have:=HXX.out;unfold isId;omega) HX.out HZ.out.2.2 HZ.out.2.1
 ·have hx:x=5:=hk
  have n1:=congrArg (fun a:Int=>a == 1) hx
  have n2:=congrArg (fun a:Int=>a == 2) hx
  have n3:=congrArg (fun a:Int=>a == 3) hx
  have n4:=congrArg (fun a:Int=>a == 4) hx
  have n5:=congrArg (fun a:Int=>a == 5) hx
  have n6:=congrArg (fun a:Int=>a == 6) hx
  have n7:=congrArg (fun a:Int=>a == 7) hx
  have n8:=congrArg (fun a:Int=>a == 8) hx
  have n9:=congrArg (fun a:Int=>a == 9) hx
  have n10:=congrArg (fun a:Int=>a == 10) hx
  have n11:=congrArg (fun a:Int=>a == 11) hx
  have n12:=congrArg (fun a:Int=>a == 12) hx
  have n13:=congrArg (fun a:Int=>a == 13) hx
  have n14:=congrArg (fun a:Int=>a == 14) hx
  have n15:=congrArg (fun a:Int=>a == 15) hx
  have HXX:=Lib.hid hx
  clear hx
  clear hk
  go_wp2_with fail
  clear n1 n2 n3 n4 n5 n6 n7 n8 n9 n10 n11 n12 n13 n14 n15
  refine (rfbox B gp X t c k0 od0 v0 HS0.out).mono ?_
  rintro e w1 hh
  obtain ⟨k1,od1,x1,rfl,hS,hM⟩:=hh
  simp only [aPk,boxL,spanL,n3L,t3L,numL,truthL,List.append_eq,List.cons_append,List.nil_append]
  have K1:=Lib.hid (hM.fr.blk Kx0.out (by omega) (by omega))
  have KR_1:=Lib.hid (hM.fr.blk KR.out (by omega) (by omega))
  have HMS1:=Lib.hid (And.intro hS hM)
  clear hS hM
  have c0:w1.cell? ⟨g1,18,none⟩=some (.int .i64 0):=K1.out.cell 18
  have z0:=K1.out.frozen 18
  have c1:w1.cell? ⟨g1,19,none⟩=some (.int .i64 0):=K1.out.cell 19
  have z1:=K1.out.frozen 19
  have c2:w1.cell? ⟨g1,20,none⟩=some (.int .i64 0):=K1.out.cell 20
  have z2:=K1.out.frozen 20
  have c3:w1.cell? ⟨g1,21,none⟩=some (.int .i64 0):=K1.out.cell 21
  have z3:=K1.out.frozen 21
  have c4:w1.cell? ⟨g1,22,none⟩=some (.int .i64 0):=K1.out.cell 22
  have z4:=K1.out.frozen 22
  have c5:w1.cell? ⟨g1,23,none⟩=some (.int .i64 0):=K1.out.cell 23
  have z5:=K1.out.frozen 23
  go_wp2_with fail
  have ho:Only g1 w1 ((((((w1.setCell ⟨g1,18,none⟩ (.int .i64 x1.1.1.1)).setCell ⟨g1,19,none⟩ (.int .i64 x1.1.1.2)).setCell ⟨g1,20,none⟩ (.int .i64 x1.1.2)).setCell ⟨g1,21,none⟩ (.int .i64 x1.2.1.1)).setCell ⟨g1,22,none⟩ (.int .i64 x1.2.1.2)).setCell ⟨g1,23,none⟩ (.int .i64 x1.2.2)):=(((((((Only.refl g1 w1).set_ 18 (.int .i64 x1.1.1.1)).set_ 19 (.int .i64 x1.1.1.2)).set_ 20 (.int .i64 x1.1.2)).set_ 21 (.int .i64 x1.2.1.1)).set_ 22 (.int .i64 x1.2.1.2)).set_ 23 (.int .i64 x1.2.2))
  have Kx:Blk ((((((w1.setCell ⟨g1,18,none⟩ (.int .i64 x1.1.1.1)).setCell ⟨g1,19,none⟩ (.int .i64 x1.1.1.2)).setCell ⟨g1,20,none⟩ (.int .i64 x1.1.2)).setCell ⟨g1,21,none⟩ (.int .i64 x1.2.1.1)).setCell ⟨g1,22,none⟩ (.int .i64 x1.2.1.2)).setCell ⟨g1,23,none⟩ (.int .i64 x1.2.2)) g1 34 #[.int .u8 x,.int .i64 0,.int .i64 0,.int .i64 0,.int .i64 0,.int .i64 0,.int .i64 0,.bool false,.bool false,.bool false,.bool false,.int .i64 0,.int .i64 0,.bool false,.slice none 0 0,.int .u8 0,.int .i64 0,.int .i64 0,.int .i64 x1.1.1.1,.int .i64 x1.1.1.2,.int .i64 x1.1.2,.int .i64 x1.2.1.1,.int .i64 x1.2.1.2,.int .i64 x1.2.2,.int .i64 0,.int .i64 0,.int .i64 0,.bool false]:=((((((K1.out.set_ 18 (.int .i64 x1.1.1.1)).set_ 19 (.int .i64 x1.1.1.2)).set_ 20 (.int .i64 x1.1.2)).set_ 21 (.int .i64 x1.2.1.1)).set_ 22 (.int .i64 x1.2.1.2)).set_ 23 (.int .i64 x1.2.2))
  have KRx:=Lib.hid (ho.blk KR_1.out (by omega))
  have HA1:=Lib.hid (RMid.lay (T:=34) HA0.out HMS1.out.2 hlt keepN_flat keepN_flat (by omega) K1.out ho)
  have HS1:=Lib.hid (RS.only HMS1.out.1 ho (by omega) (by omega))
  have Kx1:=Lib.hid Kx
  have KR_1':=Lib.hid KRx.out
  clear ho Kx HMS1 K1 c0 z0 c1 z1 c2 z2 c3 z3 c4 z4 c5 z5 KRx KR_1 Kx0
  have KR_1:=Lib.hid KR_1'.out
  clear KR_1'
  generalize ((((((w1.setCell ⟨g1,18,none⟩ (.int .i64 x1.1.1.1)).setCell ⟨g1,19,none⟩ (.int .i64 x1.1.1.2)).setCell ⟨g1,20,none⟩ (.int .i64 x1.1.2)).setCell ⟨g1,21,none⟩ (.int .i64 x1.2.1.1)).setCell ⟨g1,22,none⟩ (.int .i64 x1.2.1.2)).setCell ⟨g1,23,none⟩ (.int .i64 x1.2.2))=v1 at *
  refine (rfspan B gp X t c k1 od1 v1 HS1.out).mono ?_
  rintro e w2 hh
  obtain ⟨k2,od2,x2,rfl,hS,hM⟩:=hh
  simp only [aPk,boxL,spanL,n3L,t3L,numL,truthL,List.append_eq,List.cons_append,List.nil_append]
  have K2:=Lib.hid (hM.fr.blk Kx1.out (by omega) (by omega))
  have KR_2:=Lib.hid (hM.fr.blk KR_1.out (by omega) (by omega))
  have HMS2:=Lib.hid (And.intro hS hM)
  clear hS hM
  have c0:w2.cell? ⟨g1,24,none⟩=some (.int .i64 0):=K2.out.cell 24
  have z0:=K2.out.frozen 24
  have c1:w2.cell? ⟨g1,25,none⟩=some (.int .i64 0):=K2.out.cell 25
  have z1:=K2.out.frozen 25
  go_upto_region 26 with fail
  have ho:Only g1 w2 ((w2.setCell ⟨g1,24,none⟩ (.int .i64 x2.1)).setCell ⟨g1,25,none⟩ (.int .i64 x2.2)):=(((Only.refl g1 w2).set_ 24 (.int .i64 x2.1)).set_ 25 (.int .i64 x2.2))
  have Kx:Blk ((w2.setCell ⟨g1,24,none⟩ (.int .i64 x2.1)).setCell ⟨g1,25,none⟩ (.int .i64 x2.2)) g1 34 #[.int .u8 x,.int .i64 0,.int .i64 0,.int .i64 0,.int .i64 0,.int .i64 0,.int .i64 0,.bool false,.bool false,.bool false,.bool false,.int .i64 0,.int .i64 0,.bool false,.slice none 0 0,.int .u8 0,.int .i64 0,.int .i64 0,.int .i64 x1.1.1.1,.int .i64 x1.1.1.2,.int .i64 x1.1.2,.int .i64 x1.2.1.1,.int .i64 x1.2.1.2,.int .i64 x1.2.2,.int .i64 x2.1,.int .i64 x2.2,.int .i64 0,.bool false]:=((K2.out.set_ 24 (.int .i64 x2.1)).set_ 25 (.int .i64 x2.2))
  have KRx:=Lib.hid (ho.blk KR_2.out (by omega))
  have HA2:=Lib.hid (RMid.lay (T:=34) HA1.out HMS2.out.2 hlt (keepN_pair keepN_flat keepN_flat) keepN_flat (by omega) K2.out ho)
  have HS2:=Lib.hid (RS.only HMS2.out.1 ho (by omega) (by omega))
  have Kx2:=Lib.hid Kx
  have KR_2':=Lib.hid KRx.out
  clear ho Kx HMS2 K2 c0 z0 c1 z1 KRx KR_2
  have KR_2:=Lib.hid KR_2'.out
  clear KR_2'
  generalize ((w2.setCell ⟨g1,24,none⟩ (.int .i64 x2.1)).setCell ⟨g1,25,none⟩ (.int .i64 x2.2))=v2 at *
  have R9:=Lib.hid (show v2.rangeAt g1 0 [.int .u8 x,.int .i64 0,.int .i64 0,.int .i64 0,.int .i64 0,.int .i64 0,.int .i64 0,.bool false,.bool false,.bool false,.bool false,.int .i64 0,.int .i64 0,.bool false,.slice none 0 0,.int .u8 0,.int .i64 0,.int .i64 0,.int .i64 x1.1.1.1,.int .i64 x1.1.1.2,.int .i64 x1.1.2,.int .i64 x1.2.1.1,.int .i64 x1.2.1.2,.int .i64 x1.2.2,.int .i64 x2.1,.int .i64 x2.2,.int .i64 0,.bool false] from range_part (n:=28) Kx2.out rfl)
  have ho:=Only.sets (Only.refl w.heap.size v2) [.int .u8 x,.int .i64 0,.int .i64 0,.int .i64 0,.int .i64 0,.int .i64 0,.int .i64 0,.bool false,.bool false,.bool false,.bool false,.int .i64 0,.int .i64 0,.bool false,.slice none 0 0,.int .u8 0,.int .i64 0,.int .i64 0,.int .i64 x1.1.1.1,.int .i64 x1.1.1.2,.int .i64 x1.1.2,.int .i64 x1.2.1.1,.int .i64 x1.2.1.2,.int .i64 x1.2.2,.int .i64 x2.1,.int .i64 x2.2,.int .i64 0,.bool false] 0
  have Kz:Blk (World.setCells v2 w.heap.size 0 [.int .u8 x,.int .i64 0,.int .i64 0,.int .i64 0,.int .i64 0,.int .i64 0,.int .i64 0,.bool false,.bool false,.bool false,.bool false,.int .i64 0,.int .i64 0,.bool false,.slice none 0 0,.int .u8 0,.int .i64 0,.int .i64 0,.int .i64 x1.1.1.1,.int .i64 x1.1.1.2,.int .i64 x1.1.2,.int .i64 x1.2.1.1,.int .i64 x1.2.1.2,.int .i64 x1.2.2,.int .i64 x2.1,.int .i64 x2.2,.int .i64 0,.bool false]) w.heap.size 34 (List.toArray [.int .u8 x,.int .i64 0,.int .i64 0,.int .i64 0,.int .i64 0,.int .i64 0,.int .i64 0,.bool false,.bool false,.bool false,.bool false,.int .i64 0,.int .i64 0,.bool false,.slice none 0 0,.int .u8 0,.int .i64 0,.int .i64 0,.int .i64 x1.1.1.1,.int .i64 x1.1.1.2,.int .i64 x1.1.2,.int .i64 x1.2.1.1,.int .i64 x1.2.1.2,.int .i64 x1.2.2,.int .i64 x2.1,.int .i64 x2.2,.int .i64 0,.bool false]):=blk_all KR_2.out (setA_full rfl)
  have hM:=RMid.over HA2.out (T:=34) (keepN_pair (keepN_pair keepN_flat keepN_flat) keepN_flat) (Nat.le_refl _) KR_2.out ho
  have hS9:=RS.only HS2.out ho (by omega) (by omega)
  have HZ:=Lib.hid (And.intro Kz (And.intro hM hS9))
  clear ho Kz hM hS9
  go_wp2_with (first | (refine wpList_load_mid rfl 34 _ rfl _ _ rfl _ _ R9.out Try.underlying34 rfl (by kernel_rfl) ?_) | (refine wpList_store_mid rfl 34 _ _ rfl w.heap.size 0 (List.toArray [.int .u8 x,.int .i64 0,.int .i64 0,.int .i64 0,.int .i64 0,.int .i64 0,.int .i64 0,.bool false,.bool false,.bool false,.bool false,.int .i64 0,.int .i64 0,.bool false,.slice none 0 0,.int .u8 0,.int .i64 0,.int .i64 0,.int .i64 x1.1.1.1,.int .i64 x1.1.1.2,.int .i64 x1.1.2,.int .i64 x1.2.1.1,.int .i64 x1.2.1.2,.int .i64 x1.2.2,.int .i64 x2.1,.int .i64 x2.2,.int .i64 0,.bool false]) rfl rfl (there_of KR_2.out (Nat.le_of_ble_eq_true rfl)) (by kernel_rfl) (by kernel_rfl) ?_;simp only [List.toList_toArray];generalize World.setCells _ _ _ _=w99 at *;(try simp only [Act.put])))
  refine bodyPost_ret (v:=.agg (List.toArray [.int .u8 x,.int .i64 0,.int .i64 0,.int .i64 0,.int .i64 0,.int .i64 0,.int .i64 0,.bool false,.bool false,.bool false,.bool false,.int .i64 0,.int .i64 0,.bool false,.slice none 0 0,.int .u8 0,.int .i64 0,.int .i64 0,.int .i64 x1.1.1.1,.int .i64 x1.1.1.2,.int .i64 x1.1.2,.int .i64 x1.2.1.1,.int .i64 x1.2.1.2,.int .i64 x1.2.2,.int .i64 x2.1,.int .i64 x2.2,.int .i64 0,.bool false])) ?_ rfl ?_
  ·exact results_cell_row rfl _ _ w.heap.size 34 (List.toArray [.int .u8 x,.int .i64 0,.int .i64 0,.int .i64 0,.int .i64 0,.int .i64 0,.int .i64 0,.bool false,.bool false,.bool false,.bool false,.int .i64 0,.int .i64 0,.bool false,.slice none 0 0,.int .u8 0,.int .i64 0,.int .i64 0,.int .i64 x1.1.1.1,.int .i64 x1.1.1.2,.int .i64 x1.1.2,.int .i64 x1.2.1.1,.int .i64 x1.2.1.2,.int .i64 x1.2.2,.int .i64 x2.1,.int .i64 x2.2,.int .i64 0,.bool false]) (0,0) _ rfl HZ.out.1 Try.underlying34 rfl (by kernel_rfl)
  ·exact mkKeep x (by have:=HXX.out;unfold isKeep;omega) HX.out HZ.out.2.2 HZ.out.2.1
 ·unfold isWell at hk
  rcases hk with hx | hx
  all_goals
   have n1:=congrArg (fun a:Int=>a == 1) hx
   have n2:=congrArg (fun a:Int=>a == 2) hx
   have n3:=congrArg (fun a:Int=>a == 3) hx
   have n4:=congrArg (fun a:Int=>a == 4) hx
   have n5:=congrArg (fun a:Int=>a == 5) hx
   have n6:=congrArg (fun a:Int=>a == 6) hx
   have n7:=congrArg (fun a:Int=>a == 7) hx
   have n8:=congrArg (fun a:Int=>a == 8) hx
   have n9:=congrArg (fun a:Int=>a == 9) hx
   have n10:=congrArg (fun a:Int=>a == 10) hx
   have n11:=congrArg (fun a:Int=>a == 11) hx
   have n12:=congrArg (fun a:Int=>a == 12) hx
   have n13:=congrArg (fun a:Int=>a == 13) hx
   have n14:=congrArg (fun a:Int=>a == 14) hx
   have n15:=congrArg (fun a:Int=>a == 15) hx
   have HXX:=Lib.hid hx
   clear hx
   go_wp2_with fail
   clear n1 n2 n3 n4 n5 n6 n7 n8 n9 n10 n11 n12 n13 n14 n15
   refine (rfnum B gp X t c k0 od0 v0 HS0.out).mono ?_
   rintro e w1 hh
   obtain ⟨k1,od1,x1,rfl,hS,hM⟩:=hh
   have K1:=Lib.hid (hM.fr.blk Kx0.out (by omega) (by omega))
   have KR_1:=Lib.hid (hM.fr.blk KR.out (by omega) (by omega))
   have HMS1:=Lib.hid (And.intro hS hM)
   clear hS hM
   have c0:w1.cell? ⟨g1,17,none⟩=some (.int .i64 0):=K1.out.cell 17
   have z0:=K1.out.frozen 17
   go_wp2_with fail
   have ho:Only g1 w1 (w1.setCell ⟨g1,17,none⟩ (.int .i64 x1)):=((Only.refl g1 w1).set_ 17 (.int .i64 x1))
   have Kx:Blk (w1.setCell ⟨g1,17,none⟩ (.int .i64 x1)) g1 34 #[.int .u8 x,.int .i64 0,.int .i64 0,.int .i64 0,.int .i64 0,.int .i64 0,.int .i64 0,.bool false,.bool false,.bool false,.bool false,.int .i64 0,.int .i64 0,.bool false,.slice none 0 0,.int .u8 0,.int .i64 0,.int .i64 x1,.int .i64 0,.int .i64 0,.int .i64 0,.int .i64 0,.int .i64 0,.int .i64 0,.int .i64 0,.int .i64 0,.int .i64 0,.bool false]:=(K1.out.set_ 17 (.int .i64 x1))
   have KRx:=Lib.hid (ho.blk KR_1.out (by omega))
   have HA1:=Lib.hid (RMid.lay (T:=34) HA0.out HMS1.out.2 hlt keepN_flat keepN_flat (by omega) K1.out ho)
   have HS1:=Lib.hid (RS.only HMS1.out.1 ho (by omega) (by omega))
   have Kx1:=Lib.hid Kx
   have KR_1':=Lib.hid KRx.out
   clear ho Kx HMS1 K1 c0 z0 KRx KR_1 Kx0
   have KR_1:=Lib.hid KR_1'.out
   clear KR_1'
   generalize (w1.setCell ⟨g1,17,none⟩ (.int .i64 x1))=v1 at *
   refine (rftruth B gp X t c k1 od1 v1 HS1.out).mono ?_
   rintro e w2 hh
   obtain ⟨k2,od2,x2,rfl,hS,hM⟩:=hh
   have K2:=Lib.hid (hM.fr.blk Kx1.out (by omega) (by omega))
   have KR_2:=Lib.hid (hM.fr.blk KR_1.out (by omega) (by omega))
   have HMS2:=Lib.hid (And.intro hS hM)
   clear hS hM
   have c0:w2.cell? ⟨g1,27,none⟩=some (.bool false):=K2.out.cell 27
   have z0:=K2.out.frozen 27
   go_upto_region 26 with fail
   have ho:Only g1 w2 (w2.setCell ⟨g1,27,none⟩ (.bool x2)):=((Only.refl g1 w2).set_ 27 (.bool x2))
   have Kx:Blk (w2.setCell ⟨g1,27,none⟩ (.bool x2)) g1 34 #[.int .u8 x,.int .i64 0,.int .i64 0,.int .i64 0,.int .i64 0,.int .i64 0,.int .i64 0,.bool false,.bool false,.bool false,.bool false,.int .i64 0,.int .i64 0,.bool false,.slice none 0 0,.int .u8 0,.int .i64 0,.int .i64 x1,.int .i64 0,.int .i64 0,.int .i64 0,.int .i64 0,.int .i64 0,.int .i64 0,.int .i64 0,.int .i64 0,.int .i64 0,.bool x2]:=(K2.out.set_ 27 (.bool x2))
   have KRx:=Lib.hid (ho.blk KR_2.out (by omega))
   have HA2:=Lib.hid (RMid.lay (T:=34) HA1.out HMS2.out.2 hlt (keepN_pair keepN_flat keepN_flat) keepN_flat (by omega) K2.out ho)
   have HS2:=Lib.hid (RS.only HMS2.out.1 ho (by omega) (by omega))
   have Kx2:=Lib.hid Kx
   have KR_2':=Lib.hid KRx.out
   clear ho Kx HMS2 K2 c0 z0 KRx KR_2
   have KR_2:=Lib.hid KR_2'.out
   clear KR_2'
   generalize (w2.setCell ⟨g1,27,none⟩ (.bool x2))=v2 at *
   have R9:=Lib.hid (show v2.rangeAt g1 0 [.int .u8 x,.int .i64 0,.int .i64 0,.int .i64 0,.int .i64 0,.int .i64 0,.int .i64 0,.bool false,.bool false,.bool false,.bool false,.int .i64 0,.int .i64 0,.bool false,.slice none 0 0,.int .u8 0,.int .i64 0,.int .i64 x1,.int .i64 0,.int .i64 0,.int .i64 0,.int .i64 0,.int .i64 0,.int .i64 0,.int .i64 0,.int .i64 0,.int .i64 0,.bool x2] from range_part (n:=28) Kx2.out rfl)
   have ho:=Only.sets (Only.refl w.heap.size v2) [.int .u8 x,.int .i64 0,.int .i64 0,.int .i64 0,.int .i64 0,.int .i64 0,.int .i64 0,.bool false,.bool false,.bool false,.bool false,.int .i64 0,.int .i64 0,.bool false,.slice none 0 0,.int .u8 0,.int .i64 0,.int .i64 x1,.int .i64 0,.int .i64 0,.int .i64 0,.int .i64 0,.int .i64 0,.int .i64 0,.int .i64 0,.int .i64 0,.int .i64 0,.bool x2] 0
   have Kz:Blk (World.setCells v2 w.heap.size 0 [.int .u8 x,.int .i64 0,.int .i64 0,.int .i64 0,.int .i64 0,.int .i64 0,.int .i64 0,.bool false,.bool false,.bool false,.bool false,.int .i64 0,.int .i64 0,.bool false,.slice none 0 0,.int .u8 0,.int .i64 0,.int .i64 x1,.int .i64 0,.int .i64 0,.int .i64 0,.int .i64 0,.int .i64 0,.int .i64 0,.int .i64 0,.int .i64 0,.int .i64 0,.bool x2]) w.heap.size 34 (List.toArray [.int .u8 x,.int .i64 0,.int .i64 0,.int .i64 0,.int .i64 0,.int .i64 0,.int .i64 0,.bool false,.bool false,.bool false,.bool false,.int .i64 0,.int .i64 0,.bool false,.slice none 0 0,.int .u8 0,.int .i64 0,.int .i64 x1,.int .i64 0,.int .i64 0,.int .i64 0,.int .i64 0,.int .i64 0,.int .i64 0,.int .i64 0,.int .i64 0,.int .i64 0,.bool x2]):=blk_all KR_2.out (setA_full rfl)
   have hM:=RMid.over HA2.out (T:=34) (keepN_pair (keepN_pair keepN_flat keepN_flat) keepN_flat) (Nat.le_refl _) KR_2.out ho
   have hS9:=RS.only HS2.out ho (by omega) (by omega)
   have HZ:=Lib.hid (And.intro Kz (And.intro hM hS9))
   clear ho Kz hM hS9
   go_wp2_with (first | (refine wpList_load_mid rfl 34 _ rfl _ _ rfl _ _ R9.out Try.underlying34 rfl (by kernel_rfl) ?_) | (refine wpList_store_mid rfl 34 _ _ rfl w.heap.size 0 (List.toArray [.int .u8 x,.int .i64 0,.int .i64 0,.int .i64 0,.int .i64 0,.int .i64 0,.int .i64 0,.bool false,.bool false,.bool false,.bool false,.int .i64 0,.int .i64 0,.bool false,.slice none 0 0,.int .u8 0,.int .i64 0,.int .i64 x1,.int .i64 0,.int .i64 0,.int .i64 0,.int .i64 0,.int .i64 0,.int .i64 0,.int .i64 0,.int .i64 0,.int .i64 0,.bool x2]) rfl rfl (there_of KR_2.out (Nat.le_of_ble_eq_true rfl)) (by kernel_rfl) (by kernel_rfl) ?_;simp only [List.toList_toArray];generalize World.setCells _ _ _ _=w99 at *;(try simp only [Act.put])))
   refine bodyPost_ret (v:=.agg (List.toArray [.int .u8 x,.int .i64 0,.int .i64 0,.int .i64 0,.int .i64 0,.int .i64 0,.int .i64 0,.bool false,.bool false,.bool false,.bool false,.int .i64 0,.int .i64 0,.bool false,.slice none 0 0,.int .u8 0,.int .i64 0,.int .i64 x1,.int .i64 0,.int .i64 0,.int .i64 0,.int .i64 0,.int .i64 0,.int .i64 0,.int .i64 0,.int .i64 0,.int .i64 0,.bool x2])) ?_ rfl ?_
   ·exact results_cell_row rfl _ _ w.heap.size 34 (List.toArray [.int .u8 x,.int .i64 0,.int .i64 0,.int .i64 0,.int .i64 0,.int .i64 0,.int .i64 0,.bool false,.bool false,.bool false,.bool false,.int .i64 0,.int .i64 0,.bool false,.slice none 0 0,.int .u8 0,.int .i64 0,.int .i64 x1,.int .i64 0,.int .i64 0,.int .i64 0,.int .i64 0,.int .i64 0,.int .i64 0,.int .i64 0,.int .i64 0,.int .i64 0,.bool x2]) (0,0) _ rfl HZ.out.1 Try.underlying34 rfl (by kernel_rfl)
   ·exact mkWell x (by have:=HXX.out;unfold isWell;omega) HX.out HZ.out.2.2 HZ.out.2.1
 ·unfold isN at hk
  rcases hk with hx | hx | hx | hx | hx | hx | hx
  all_goals
   have n1:=congrArg (fun a:Int=>a == 1) hx
   have n2:=congrArg (fun a:Int=>a == 2) hx
   have n3:=congrArg (fun a:Int=>a == 3) hx
   have n4:=congrArg (fun a:Int=>a == 4) hx
   have n5:=congrArg (fun a:Int=>a == 5) hx
   have n6:=congrArg (fun a:Int=>a == 6) hx
   have n7:=congrArg (fun a:Int=>a == 7) hx
   have n8:=congrArg (fun a:Int=>a == 8) hx
   have n9:=congrArg (fun a:Int=>a == 9) hx
   have n10:=congrArg (fun a:Int=>a == 10) hx
   have n11:=congrArg (fun a:Int=>a == 11) hx
   have n12:=congrArg (fun a:Int=>a == 12) hx
   have n13:=congrArg (fun a:Int=>a == 13) hx
   have n14:=congrArg (fun a:Int=>a == 14) hx
   have n15:=congrArg (fun a:Int=>a == 15) hx
   have HXX:=Lib.hid hx
   clear hx
   go_wp2_with fail
   clear n1 n2 n3 n4 n5 n6 n7 n8 n9 n10 n11 n12 n13 n14 n15
   refine (rfnum B gp X t c k0 od0 v0 HS0.out).mono ?_
   rintro e w1 hh
   obtain ⟨k1,od1,x1,rfl,hS,hM⟩:=hh
   have K1:=Lib.hid (hM.fr.blk Kx0.out (by omega) (by omega))
   have KR_1:=Lib.hid (hM.fr.blk KR.out (by omega) (by omega))
   have HMS1:=Lib.hid (And.intro hS hM)
   clear hS hM
   have c0:w1.cell? ⟨g1,26,none⟩=some (.int .i64 0):=K1.out.cell 26
   have z0:=K1.out.frozen 26
   go_upto_region 26 with fail
   have ho:Only g1 w1 (w1.setCell ⟨g1,26,none⟩ (.int .i64 x1)):=((Only.refl g1 w1).set_ 26 (.int .i64 x1))
   have Kx:Blk (w1.setCell ⟨g1,26,none⟩ (.int .i64 x1)) g1 34 #[.int .u8 x,.int .i64 0,.int .i64 0,.int .i64 0,.int .i64 0,.int .i64 0,.int .i64 0,.bool false,.bool false,.bool false,.bool false,.int .i64 0,.int .i64 0,.bool false,.slice none 0 0,.int .u8 0,.int .i64 0,.int .i64 0,.int .i64 0,.int .i64 0,.int .i64 0,.int .i64 0,.int .i64 0,.int .i64 0,.int .i64 0,.int .i64 0,.int .i64 x1,.bool false]:=(K1.out.set_ 26 (.int .i64 x1))
   have KRx:=Lib.hid (ho.blk KR_1.out (by omega))
   have HA1:=Lib.hid (RMid.lay (T:=34) HA0.out HMS1.out.2 hlt keepN_flat keepN_flat (by omega) K1.out ho)
   have HS1:=Lib.hid (RS.only HMS1.out.1 ho (by omega) (by omega))
   have Kx1:=Lib.hid Kx
   have KR_1':=Lib.hid KRx.out
   clear ho Kx HMS1 K1 c0 z0 KRx KR_1 Kx0
   have KR_1:=Lib.hid KR_1'.out
   clear KR_1'
   generalize (w1.setCell ⟨g1,26,none⟩ (.int .i64 x1))=v1 at *
   have R9:=Lib.hid (show v1.rangeAt g1 0 [.int .u8 x,.int .i64 0,.int .i64 0,.int .i64 0,.int .i64 0,.int .i64 0,.int .i64 0,.bool false,.bool false,.bool false,.bool false,.int .i64 0,.int .i64 0,.bool false,.slice none 0 0,.int .u8 0,.int .i64 0,.int .i64 0,.int .i64 0,.int .i64 0,.int .i64 0,.int .i64 0,.int .i64 0,.int .i64 0,.int .i64 0,.int .i64 0,.int .i64 x1,.bool false] from range_part (n:=28) Kx1.out rfl)
   have ho:=Only.sets (Only.refl w.heap.size v1) [.int .u8 x,.int .i64 0,.int .i64 0,.int .i64 0,.int .i64 0,.int .i64 0,.int .i64 0,.bool false,.bool false,.bool false,.bool false,.int .i64 0,.int .i64 0,.bool false,.slice none 0 0,.int .u8 0,.int .i64 0,.int .i64 0,.int .i64 0,.int .i64 0,.int .i64 0,.int .i64 0,.int .i64 0,.int .i64 0,.int .i64 0,.int .i64 0,.int .i64 x1,.bool false] 0
   have Kz:Blk (World.setCells v1 w.heap.size 0 [.int .u8 x,.int .i64 0,.int .i64 0,.int .i64 0,.int .i64 0,.int .i64 0,.int .i64 0,.bool false,.bool false,.bool false,.bool false,.int .i64 0,.int .i64 0,.bool false,.slice none 0 0,.int .u8 0,.int .i64 0,.int .i64 0,.int .i64 0,.int .i64 0,.int .i64 0,.int .i64 0,.int .i64 0,.int .i64 0,.int .i64 0,.int .i64 0,.int .i64 x1,.bool false]) w.heap.size 34 (List.toArray [.int .u8 x,.int .i64 0,.int .i64 0,.int .i64 0,.int .i64 0,.int .i64 0,.int .i64 0,.bool false,.bool false,.bool false,.bool false,.int .i64 0,.int .i64 0,.bool false,.slice none 0 0,.int .u8 0,.int .i64 0,.int .i64 0,.int .i64 0,.int .i64 0,.int .i64 0,.int .i64 0,.int .i64 0,.int .i64 0,.int .i64 0,.int .i64 0,.int .i64 x1,.bool false]):=blk_all KR_1.out (setA_full rfl)
   have hM:=RMid.over HA1.out (T:=34) (keepN_pair keepN_flat keepN_flat) (Nat.le_refl _) KR_1.out ho
   have hS9:=RS.only HS1.out ho (by omega) (by omega)
   have HZ:=Lib.hid (And.intro Kz (And.intro hM hS9))
   clear ho Kz hM hS9
   go_wp2_with (first | (refine wpList_load_mid rfl 34 _ rfl _ _ rfl _ _ R9.out Try.underlying34 rfl (by kernel_rfl) ?_) | (refine wpList_store_mid rfl 34 _ _ rfl w.heap.size 0 (List.toArray [.int .u8 x,.int .i64 0,.int .i64 0,.int .i64 0,.int .i64 0,.int .i64 0,.int .i64 0,.bool false,.bool false,.bool false,.bool false,.int .i64 0,.int .i64 0,.bool false,.slice none 0 0,.int .u8 0,.int .i64 0,.int .i64 0,.int .i64 0,.int .i64 0,.int .i64 0,.int .i64 0,.int .i64 0,.int .i64 0,.int .i64 0,.int .i64 0,.int .i64 x1,.bool false]) rfl rfl (there_of KR_1.out (Nat.le_of_ble_eq_true rfl)) (by kernel_rfl) (by kernel_rfl) ?_;simp only [List.toList_toArray];generalize World.setCells _ _ _ _=w99 at *;(try simp only [Act.put])))
   refine bodyPost_ret (v:=.agg (List.toArray [.int .u8 x,.int .i64 0,.int .i64 0,.int .i64 0,.int .i64 0,.int .i64 0,.int .i64 0,.bool false,.bool false,.bool false,.bool false,.int .i64 0,.int .i64 0,.bool false,.slice none 0 0,.int .u8 0,.int .i64 0,.int .i64 0,.int .i64 0,.int .i64 0,.int .i64 0,.int .i64 0,.int .i64 0,.int .i64 0,.int .i64 0,.int .i64 0,.int .i64 x1,.bool false])) ?_ rfl ?_
   ·exact results_cell_row rfl _ _ w.heap.size 34 (List.toArray [.int .u8 x,.int .i64 0,.int .i64 0,.int .i64 0,.int .i64 0,.int .i64 0,.int .i64 0,.bool false,.bool false,.bool false,.bool false,.int .i64 0,.int .i64 0,.bool false,.slice none 0 0,.int .u8 0,.int .i64 0,.int .i64 0,.int .i64 0,.int .i64 0,.int .i64 0,.int .i64 0,.int .i64 0,.int .i64 0,.int .i64 0,.int .i64 0,.int .i64 x1,.bool false]) (0,0) _ rfl HZ.out.1 Try.underlying34 rfl (by kernel_rfl)
   ·exact mkN x (by have:=HXX.out;unfold isN;omega) HX.out HZ.out.2.2 HZ.out.2.1
 ·have p2:v0.cell? ⟨gp,2,none⟩=some (.bool od0):=HS0.out.blk.cell 2
  have z2:=HS0.out.blk.frozen 2
  have n1:(x == 1)=false:=by simp;omega
  have n2:(x == 2)=false:=by simp;omega
  have n3:(x == 3)=false:=by simp;omega
  have n4:(x == 4)=false:=by simp;omega
  have n5:(x == 5)=false:=by simp;omega
  have n6:(x == 6)=false:=by simp;omega
  have n7:(x == 7)=false:=by simp;omega
  have n8:(x == 8)=false:=by simp;omega
  have n9:(x == 9)=false:=by simp;omega
  have n10:(x == 10)=false:=by simp;omega
  have n11:(x == 11)=false:=by simp;omega
  have n12:(x == 12)=false:=by simp;omega
  have n13:(x == 13)=false:=by simp;omega
  have n14:(x == 14)=false:=by simp;omega
  have n15:(x == 15)=false:=by simp;omega
  have HK:=Lib.hid hk
  clear hk
  go_upto_region 26 with fail
  have ho:FrR gp gp v0 (v0.setCell ⟨gp,2,none⟩ (.bool true)):=(FrR.refl gp gp v0).set_ (p:=⟨gp,2,none⟩) (.inl rfl) _
  have Kx1:=Lib.hid (ho.blk Kx0.out (by omega) (by omega))
  have KR_1:=Lib.hid (ho.blk KR.out (by omega) (by omega))
  have HS1:=Lib.hid HS0.out.odd
  have HA1:=Lib.hid (show RMid byteR byteDec gp gp (t.drop k) od w (v0.setCell ⟨gp,2,none⟩ (.bool true)) x [.int .u8 x] (t.drop k0) od0 from ⟨rfl,HA0.out.fr.trans ho,HA0.out.le,HA0.out.ok,HA0.out.bad⟩)
  clear ho n1 n2 n3 n4 n5 n6 n7 n8 n9 n10 n11 n12 n13 n14 n15 p2 z2
  generalize v0.setCell ⟨gp,2,none⟩ (.bool true)=v1 at *
  have R9:=Lib.hid (show v1.rangeAt g1 0 [.int .u8 x,.int .i64 0,.int .i64 0,.int .i64 0,.int .i64 0,.int .i64 0,.int .i64 0,.bool false,.bool false,.bool false,.bool false,.int .i64 0,.int .i64 0,.bool false,.slice none 0 0,.int .u8 0,.int .i64 0,.int .i64 0,.int .i64 0,.int .i64 0,.int .i64 0,.int .i64 0,.int .i64 0,.int .i64 0,.int .i64 0,.int .i64 0,.int .i64 0,.bool false] from range_part (n:=28) Kx1.out rfl)
  have ho:=Only.sets (Only.refl w.heap.size v1) [.int .u8 x,.int .i64 0,.int .i64 0,.int .i64 0,.int .i64 0,.int .i64 0,.int .i64 0,.bool false,.bool false,.bool false,.bool false,.int .i64 0,.int .i64 0,.bool false,.slice none 0 0,.int .u8 0,.int .i64 0,.int .i64 0,.int .i64 0,.int .i64 0,.int .i64 0,.int .i64 0,.int .i64 0,.int .i64 0,.int .i64 0,.int .i64 0,.int .i64 0,.bool false] 0
  have Kz:Blk (World.setCells v1 w.heap.size 0 [.int .u8 x,.int .i64 0,.int .i64 0,.int .i64 0,.int .i64 0,.int .i64 0,.int .i64 0,.bool false,.bool false,.bool false,.bool false,.int .i64 0,.int .i64 0,.bool false,.slice none 0 0,.int .u8 0,.int .i64 0,.int .i64 0,.int .i64 0,.int .i64 0,.int .i64 0,.int .i64 0,.int .i64 0,.int .i64 0,.int .i64 0,.int .i64 0,.int .i64 0,.bool false]) w.heap.size 34 (List.toArray [.int .u8 x,.int .i64 0,.int .i64 0,.int .i64 0,.int .i64 0,.int .i64 0,.int .i64 0,.bool false,.bool false,.bool false,.bool false,.int .i64 0,.int .i64 0,.bool false,.slice none 0 0,.int .u8 0,.int .i64 0,.int .i64 0,.int .i64 0,.int .i64 0,.int .i64 0,.int .i64 0,.int .i64 0,.int .i64 0,.int .i64 0,.int .i64 0,.int .i64 0,.bool false]):=blk_all KR_1.out (setA_full rfl)
  have hM:=RMid.over HA1.out (T:=34) keepN_flat (Nat.le_refl _) KR_1.out ho
  have hS9:=RS.only HS1.out ho (by omega) (by omega)
  have HZ:=Lib.hid (And.intro Kz (And.intro hM hS9))
  clear ho Kz hM hS9
  go_wp2_with (first | (refine wpList_load_mid rfl 34 _ rfl _ _ rfl _ _ R9.out Try.underlying34 rfl (by kernel_rfl) ?_) | (refine wpList_store_mid rfl 34 _ _ rfl w.heap.size 0 (List.toArray [.int .u8 x,.int .i64 0,.int .i64 0,.int .i64 0,.int .i64 0,.int .i64 0,.int .i64 0,.bool false,.bool false,.bool false,.bool false,.int .i64 0,.int .i64 0,.bool false,.slice none 0 0,.int .u8 0,.int .i64 0,.int .i64 0,.int .i64 0,.int .i64 0,.int .i64 0,.int .i64 0,.int .i64 0,.int .i64 0,.int .i64 0,.int .i64 0,.int .i64 0,.bool false]) rfl rfl (there_of KR_1.out (Nat.le_of_ble_eq_true rfl)) (by kernel_rfl) (by kernel_rfl) ?_;simp only [List.toList_toArray];generalize World.setCells _ _ _ _=w99 at *;(try simp only [Act.put])))
  refine bodyPost_ret (v:=.agg (List.toArray [.int .u8 x,.int .i64 0,.int .i64 0,.int .i64 0,.int .i64 0,.int .i64 0,.int .i64 0,.bool false,.bool false,.bool false,.bool false,.int .i64 0,.int .i64 0,.bool false,.slice none 0 0,.int .u8 0,.int .i64 0,.int .i64 0,.int .i64 0,.int .i64 0,.int .i64 0,.int .i64 0,.int .i64 0,.int .i64 0,.int .i64 0,.int .i64 0,.int .i64 0,.bool false])) ?_ rfl ?_
  ·exact results_cell_row rfl _ _ w.heap.size 34 (List.toArray [.int .u8 x,.int .i64 0,.int .i64 0,.int .i64 0,.int .i64 0,.int .i64 0,.int .i64 0,.bool false,.bool false,.bool false,.bool false,.int .i64 0,.int .i64 0,.bool false,.slice none 0 0,.int .u8 0,.int .i64 0,.int .i64 0,.int .i64 0,.int .i64 0,.int .i64 0,.int .i64 0,.int .i64 0,.int .i64 0,.int .i64 0,.int .i64 0,.int .i64 0,.bool false]) (0,0) _ rfl HZ.out.1 Try.underlying34 rfl (by kernel_rfl)
  ·exact mkBad (cm:={ CV.z with kd:=x }) (V:=none) (cv:=0) HK.out HX.out HZ.out.2.2 HZ.out.2.1 (cmdR_nil rfl)
end Go.Proofs.Ytfdldbfjeamlcaa.RfCmd
namespace Go.Proofs.Ytfdldbfjeamlcaa.RfState
set_option maxRecDepth 100000
set_option maxHeartbeats 4000000
open Go.RowKit Mem RecMem RecByte RecNum RecEach RecMath RecCod RecCods RecPort RecCommand RecCmdJ RecVal RecSame RecOwn RecRd RecRByte RecRNum RecREach RecRFlat RecRClass RecRL0 RecRListI RecRAsk RecRState RecRCmd RecRRec RfRd RfByte RfNum RfMany RfFlat RfBox RfList RfAsk RfCmd RecRList RecRListE RecRListP RecRListJ RecRJob
theorem keepN_lst {α:Type} {R:Rep α} {e e0:TypeId} (he:e0≠e) (hR:KeepN e R):KeepN e (listR R e0):=by
 rintro w w' F l vs ⟨V,c,xs,rfl,h1,h2⟩ hk
 exact ⟨V,c,xs,rfl,ownsRow_agree h1 (fun g cur hg hh=>hk g cur e0 he hg hh),fun i x hi=>hR _ _ _ _ _ (h2 i x hi) hk⟩
theorem RMid.join {α β:Type} {R:Rep α} {S:Rep β} {d1:Bs→Option (α × Bs)} {d2:Bs→Option (β × Bs)} {gp b:Nat} {t t1 t2:Bs} {od od1 od2:Bool} {w v wr:World} {x:α} {y:β} {vs us:List Value} {T:TypeId} {cs:Array Value}
    (h:RMid R d1 gp gp t od w v x vs t1 od1) (hN:KeepN T R) (hb:w.heap.size≤b) (hk:Blk v b T cs) (hg:gp < w.heap.size) (hf:FrR gp b v wr) (hat:S.At wr w.heap.size y us) (hle:t2.length≤t1.length)
    (hd:(od2=false→od1=false∧d2 t1=some (y,t2))∧(od2=true→od1=false→d2 t1=none)):RMid (R.pair S) (pairDec d1 d2) gp gp t od w wr (x,y) (vs ++ us) t2 od2 where
 at_:=⟨vs,us,rfl,hN _ _ _ _ _ h.at_ fun k c e he hF hc=>hf.block k (Array.getElem?_eq_some_iff.1 hc).1 (by omega) (fun e1=>by
  subst e1
  rw [show v.heap[k]? = _ from hk] at hc
  injection hc with hc
  injection hc with _ hc
  exact he hc.symm),hat⟩
 fr:=⟨hf.os.trans h.fr.os,hf.tape.trans h.fr.tape,hf.output.trans h.fr.output,Nat.le_trans h.fr.size hf.size,fun k hk1 h1 h2=>(hf.block k (Nat.lt_of_lt_of_le hk1 h.fr.size) h1 (by omega)).trans (h.fr.block k hk1 h1 h2),shape_trans h.fr.shape hf.shape⟩
 le:=Nat.le_trans hle h.le
 ok e:=⟨(h.ok (hd.1 e).1).1,pairDec_some (h.ok (hd.1 e).1).2 (hd.1 e).2⟩
 bad e e0:=by
  cases od1 with
  | true=>exact pairDec_none1 (h.bad rfl e0)
  | false=>exact pairDec_none2 (h.ok rfl).2 (hd.2 e rfl)
def SLt {α:Type} (R:Rep α) (c:Cod α) (e:TypeId) (B gp:Nat) (X:Option Addr) (t:Bs) (cX b0 b1:Nat) (Z:Array Value) (mk:Value→Array Value) (v:World) (F k1:Nat) (od1:Bool) (j:Nat) (wr:World):Prop:=
 ∃ l V cv xs k2 od2,Blk wr b1 49 (mk (.slice V j cv))∧Blk wr b0 49 Z∧RS B wr gp X t cX k2 od2∧FrR gp b1 v wr∧RLt R c e F (t.drop k1) od1 j l (t.drop k2) od2 V cv xs wr∧F≤wr.heap.size
theorem SLt.push {α:Type} {R:Rep α} {c:Cod α} {e:TypeId} {B gp:Nat} {X:Option Addr} {t:Bs} {cX b0 b1 fld:Nat} {Z:Array Value} {mk:Value→Array Value} {v:World} {F k1:Nat} {od1:Bool} {j:Nat} {wr vN w7:World} {l:List α} {V:Option Addr} {cv:Nat} {xs vs:List Value} {k2 k3:Nat} {od2 od3:Bool} {x:α}
    (hfr:FrR gp b1 v wr) (hL:RLt R c e F (t.drop k1) od1 j l (t.drop k2) od2 V cv xs wr) (hN:KeepN e R) (hg:gp < F) (hF:F≤wr.heap.size) (hM:RMid R c.dec gp gp (t.drop k2) od2 wr vN x vs (t.drop k3) od3) (hS:RS B vN gp X t cX k3 od3)
    (hK:Blk vN b1 49 (mk (.slice V j cv))) (hR:Blk vN b0 49 Z) (hb1:b1 < F) (hb0:b0 < b1) (hgb:gp < b0) {ob:Obj} {V7:Option Addr} {c7:Nat} (ho:w7.ownsRow F e R.n (.slice V7 (j+1) c7) (j+1) (xs ++ vs)) (hgr:(vN.alloc ob).grownBy w7 (Value.slice V j cv).ownBlock)
    (hmk:∀ a b,(mk a).setIfInBounds fld b=mk b) (hv:v.heap.size≤F):SLt R c e B gp X t cX b0 b1 Z mk v F k1 od1 (j+1) (w7.setCell ⟨b1,fld,none⟩ (.slice V7 (j+1) c7)):=by
 have hP:=hL.push hN hg hF hM ho hgr
 have hown:∀ i,(Value.slice V j cv).ownBlock=some i→F≤i:=fun i hi=>(own_ge hL.own hi).1
 refine ⟨l ++ [x],V7,c7,xs ++ vs,k3,od3,?_,?_,?_,?_,?_,by have h1:=hM.fr.size;have h2:=hgr.size;simp at h2;rw [World.size_setCell];omega⟩
 ·have:=((hK.alloc ob).grown hgr (fun e1=>by have:=hown b1 e1.symm;omega)).set_ fld (.slice V7 (j+1) c7)
  rwa [hmk] at this
 ·exact ((hR.alloc ob).grown hgr (fun e1=>by have:=hown b0 e1.symm;omega)).far (p:=⟨b1,fld,none⟩) (by show b0≠b1;omega) _
 ·exact (RS.grown (hS.alloc ob) hgr (fun i hi=>by have:=hown i hi;omega)).set_ (p:=⟨b1,fld,none⟩) (by show b1≠gp;omega) (by have:=hS.low;show B≤b1;omega) _
 ·exact ((((hfr.trans hM.fr.weak).alloc ob).grown hgr (fun i hi=>Nat.le_trans hv (hown i hi))).set_ (p:=⟨b1,fld,none⟩) (.inr (.inl rfl)) _)
 ·exact hP.keep (fun k hk hl=>Below.heap_setCell _ _ _ k (by show k≠b1;omega)) (by simp)
theorem keepN_job2 {e:TypeId} (he:INT≠e):KeepN e jobR:=keepN_iso (keepN_pair (keepN_pair (keepN_pair keepN_flat (keepN_ask he)) keepN_flat) keepN_flat)
def SRet (B gp:Nat) (X:Option Addr) (t:Bs) (c k:Nat) (od:Bool) (w:World) (e:Ending) (w':World):Prop:=
 ∃ k' od' s x,e = .returned (.agg (sL s x).toArray)∧RS B w' gp X t c k' od'∧RMid stateR stateC.dec gp gp (t.drop k) od w w' s (sL s x) (t.drop k') od'
theorem SRet.mk {B gp:Nat} {X:Option Addr} {t:Bs} {c k:Nat} {od:Bool} {w w':World} (k':Nat) (od':Bool) (s:SV) (x:SA) (h1:RS B w' gp X t c k' od') (h2:RMid stateR stateC.dec gp gp (t.drop k) od w w' s (sL s x) (t.drop k') od') :
    SRet B gp X t c k od w (.returned (.agg (sL s x).toArray)) w':=⟨k',od',s,x,rfl,h1,h2⟩
theorem rfstate (B gp:Nat) (X:Option Addr) (t:Bs) (c k:Nat) (od:Bool) (w:World) (hS:RS B w gp X t c k od) :
    Calls Try.prog 56 #[.pointer (some ⟨gp,0,none⟩)] w fun e w' => SRet B gp X t c k od w e w':=by
 have hlt:=hS.lt
 have hlow:=hS.low
 have HS:=Lib.hid ((hS.alloc (.cells Sq.zzS 49)).alloc (.cells Sq.zzS 49))
 have KR:=Lib.hid ((Blk.new w 49 Sq.zzS).alloc (.cells Sq.zzS 49))
 have K0:=Lib.hid (blk1 w 49 Sq.zzS (o:=.cells Sq.zzS 49))
 have HB:=Lib.hid (below_alloc (o:=.cells Sq.zzS 49) (below_alloc (o:=.cells Sq.zzS 49) (Below.refl w.heap.size w)))
 have hsz:w.heap.size+1 < ((w.alloc (.cells Sq.zzS 49)).alloc (.cells Sq.zzS 49)).heap.size:=by simp
 clear hS
 go_enter Try.func56,Try.ntmps56
 go_upto_region 2 with fail
 generalize (w.alloc (.cells Sq.zzS 49)).alloc (.cells Sq.zzS 49)=w0 at *
 go_wp2_with fail
 refine (rfthree B gp X t c k od w0 HS.out).mono ?_
 rintro e w1 hh
 obtain ⟨k1,od1,x1,rfl,hS,hM⟩:=hh
 simp only [aPk,boxL,spanL,n3L,t3L,numL,truthL,List.append_eq,List.cons_append,List.nil_append]
 have K1:=Lib.hid (hM.fr.blk K0.out (by omega) (by omega))
 have KR_1:=Lib.hid (hM.fr.blk KR.out (by omega) (by omega))
 have HMS1:=Lib.hid (And.intro hS hM)
 clear hS hM
 have c0:w1.cell? ⟨(w.heap.size+1),0,none⟩=some (.int .i64 0):=K1.out.cell 0
 have z0:=K1.out.frozen 0
 have c1:w1.cell? ⟨(w.heap.size+1),1,none⟩=some (.int .i64 0):=K1.out.cell 1
 have z1:=K1.out.frozen 1
 have c2:w1.cell? ⟨(w.heap.size+1),2,none⟩=some (.int .i64 0):=K1.out.cell 2
 have z2:=K1.out.frozen 2
 go_wp2_with fail
 have ho:Only (w.heap.size+1) w1 (((w1.setCell ⟨(w.heap.size+1),0,none⟩ (.int .i64 x1.1.1)).setCell ⟨(w.heap.size+1),1,none⟩ (.int .i64 x1.1.2)).setCell ⟨(w.heap.size+1),2,none⟩ (.int .i64 x1.2)):=((((Only.refl (w.heap.size+1) w1).set_ 0 (.int .i64 x1.1.1)).set_ 1 (.int .i64 x1.1.2)).set_ 2 (.int .i64 x1.2))
 have Kx:Blk (((w1.setCell ⟨(w.heap.size+1),0,none⟩ (.int .i64 x1.1.1)).setCell ⟨(w.heap.size+1),1,none⟩ (.int .i64 x1.1.2)).setCell ⟨(w.heap.size+1),2,none⟩ (.int .i64 x1.2)) (w.heap.size+1) 49 #[.int .i64 x1.1.1,.int .i64 x1.1.2,.int .i64 x1.2,.int .i64 0,.int .i64 0,.int .i64 0,.int .i64 0,.slice none 0 0,.int .i64 0,.int .i64 0,.slice none 0 0,.slice none 0 0,.slice none 0 0,.slice none 0 0,.slice none 0 0,.slice none 0 0]:=(((K1.out.set_ 0 (.int .i64 x1.1.1)).set_ 1 (.int .i64 x1.1.2)).set_ 2 (.int .i64 x1.2))
 have KRx:=Lib.hid (ho.blk KR_1.out (by omega))
 have HA1:=Lib.hid (RMid.over (RMid.ahead HMS1.out.2 HB.out) (T:=49) keepN_flat (by omega) K1.out ho)
 have HS1:=Lib.hid (RS.only HMS1.out.1 ho (by omega) (by omega))
 have Kx1:=Lib.hid Kx
 have KR_1':=Lib.hid KRx.out
 clear ho Kx HMS1 K1 c0 z0 c1 z1 c2 z2 KRx KR_1 K0
 have KR_1:=Lib.hid KR_1'.out
 clear KR_1'
 generalize (((w1.setCell ⟨(w.heap.size+1),0,none⟩ (.int .i64 x1.1.1)).setCell ⟨(w.heap.size+1),1,none⟩ (.int .i64 x1.1.2)).setCell ⟨(w.heap.size+1),2,none⟩ (.int .i64 x1.2))=v1 at *
 refine (rfnum B gp X t c k1 od1 v1 HS1.out).mono ?_
 rintro e w2 hh
 obtain ⟨k2,od2,x2,rfl,hS,hM⟩:=hh
 have K2:=Lib.hid (hM.fr.blk Kx1.out (by omega) (by omega))
 have KR_2:=Lib.hid (hM.fr.blk KR_1.out (by omega) (by omega))
 have HMS2:=Lib.hid (And.intro hS hM)
 clear hS hM
 have c0:w2.cell? ⟨(w.heap.size+1),3,none⟩=some (.int .i64 0):=K2.out.cell 3
 have z0:=K2.out.frozen 3
 go_wp2_with fail
 have ho:Only (w.heap.size+1) w2 (w2.setCell ⟨(w.heap.size+1),3,none⟩ (.int .i64 x2)):=((Only.refl (w.heap.size+1) w2).set_ 3 (.int .i64 x2))
 have Kx:Blk (w2.setCell ⟨(w.heap.size+1),3,none⟩ (.int .i64 x2)) (w.heap.size+1) 49 #[.int .i64 x1.1.1,.int .i64 x1.1.2,.int .i64 x1.2,.int .i64 x2,.int .i64 0,.int .i64 0,.int .i64 0,.slice none 0 0,.int .i64 0,.int .i64 0,.slice none 0 0,.slice none 0 0,.slice none 0 0,.slice none 0 0,.slice none 0 0,.slice none 0 0]:=(K2.out.set_ 3 (.int .i64 x2))
 have KRx:=Lib.hid (ho.blk KR_2.out (by omega))
 have HA2:=Lib.hid (RMid.lay (T:=49) HA1.out HMS2.out.2 hlt keepN_flat keepN_flat (by omega) K2.out ho)
 have HS2:=Lib.hid (RS.only HMS2.out.1 ho (by omega) (by omega))
 have Kx2:=Lib.hid Kx
 have KR_2':=Lib.hid KRx.out
 clear ho Kx HMS2 K2 c0 z0 KRx KR_2
 have KR_2:=Lib.hid KR_2'.out
 clear KR_2'
 generalize (w2.setCell ⟨(w.heap.size+1),3,none⟩ (.int .i64 x2))=v2 at *
 refine (rfnum B gp X t c k2 od2 v2 HS2.out).mono ?_
 rintro e w3 hh
 obtain ⟨k3,od3,x3,rfl,hS,hM⟩:=hh
 have K3:=Lib.hid (hM.fr.blk Kx2.out (by omega) (by omega))
 have KR_3:=Lib.hid (hM.fr.blk KR_2.out (by omega) (by omega))
 have HMS3:=Lib.hid (And.intro hS hM)
 clear hS hM
 have c0:w3.cell? ⟨(w.heap.size+1),4,none⟩=some (.int .i64 0):=K3.out.cell 4
 have z0:=K3.out.frozen 4
 go_wp2_with fail
 have ho:Only (w.heap.size+1) w3 (w3.setCell ⟨(w.heap.size+1),4,none⟩ (.int .i64 x3)):=((Only.refl (w.heap.size+1) w3).set_ 4 (.int .i64 x3))
 have Kx:Blk (w3.setCell ⟨(w.heap.size+1),4,none⟩ (.int .i64 x3)) (w.heap.size+1) 49 #[.int .i64 x1.1.1,.int .i64 x1.1.2,.int .i64 x1.2,.int .i64 x2,.int .i64 x3,.int .i64 0,.int .i64 0,.slice none 0 0,.int .i64 0,.int .i64 0,.slice none 0 0,.slice none 0 0,.slice none 0 0,.slice none 0 0,.slice none 0 0,.slice none 0 0]:=(K3.out.set_ 4 (.int .i64 x3))
 have KRx:=Lib.hid (ho.blk KR_3.out (by omega))
 have HA3:=Lib.hid (RMid.lay (T:=49) HA2.out HMS3.out.2 hlt (keepN_pair keepN_flat keepN_flat) keepN_flat (by omega) K3.out ho)
 have HS3:=Lib.hid (RS.only HMS3.out.1 ho (by omega) (by omega))
 have Kx3:=Lib.hid Kx
 have KR_3':=Lib.hid KRx.out
 clear ho Kx HMS3 K3 c0 z0 KRx KR_3
 have KR_3:=Lib.hid KR_3'.out
 clear KR_3'
 generalize (w3.setCell ⟨(w.heap.size+1),4,none⟩ (.int .i64 x3))=v3 at *
 refine (rfnum B gp X t c k3 od3 v3 HS3.out).mono ?_
 rintro e w4 hh
 obtain ⟨k4,od4,x4,rfl,hS,hM⟩:=hh
 have K4:=Lib.hid (hM.fr.blk Kx3.out (by omega) (by omega))
 have KR_4:=Lib.hid (hM.fr.blk KR_3.out (by omega) (by omega))
 have HMS4:=Lib.hid (And.intro hS hM)
 clear hS hM
 have c0:w4.cell? ⟨(w.heap.size+1),5,none⟩=some (.int .i64 0):=K4.out.cell 5
 have z0:=K4.out.frozen 5
 go_wp2_with fail
 have ho:Only (w.heap.size+1) w4 (w4.setCell ⟨(w.heap.size+1),5,none⟩ (.int .i64 x4)):=((Only.refl (w.heap.size+1) w4).set_ 5 (.int .i64 x4))
 have Kx:Blk (w4.setCell ⟨(w.heap.size+1),5,none⟩ (.int .i64 x4)) (w.heap.size+1) 49 #[.int .i64 x1.1.1,.int .i64 x1.1.2,.int .i64 x1.2,.int .i64 x2,.int .i64 x3,.int .i64 x4,.int .i64 0,.slice none 0 0,.int .i64 0,.int .i64 0,.slice none 0 0,.slice none 0 0,.slice none 0 0,.slice none 0 0,.slice none 0 0,.slice none 0 0]:=(K4.out.set_ 5 (.int .i64 x4))
 have KRx:=Lib.hid (ho.blk KR_4.out (by omega))
 have HA4:=Lib.hid (RMid.lay (T:=49) HA3.out HMS4.out.2 hlt (keepN_pair (keepN_pair keepN_flat keepN_flat) keepN_flat) keepN_flat (by omega) K4.out ho)
 have HS4:=Lib.hid (RS.only HMS4.out.1 ho (by omega) (by omega))
 have Kx4:=Lib.hid Kx
 have KR_4':=Lib.hid KRx.out
 clear ho Kx HMS4 K4 c0 z0 KRx KR_4
 have KR_4:=Lib.hid KR_4'.out
 clear KR_4'
 generalize (w4.setCell ⟨(w.heap.size+1),5,none⟩ (.int .i64 x4))=v4 at *
 refine (rfnum B gp X t c k4 od4 v4 HS4.out).mono ?_
 rintro e w5 hh
 obtain ⟨k5,od5,x5,rfl,hS,hM⟩:=hh
 have K5:=Lib.hid (hM.fr.blk Kx4.out (by omega) (by omega))
 have KR_5:=Lib.hid (hM.fr.blk KR_4.out (by omega) (by omega))
 have HMS5:=Lib.hid (And.intro hS hM)
 clear hS hM
 have c0:w5.cell? ⟨(w.heap.size+1),6,none⟩=some (.int .i64 0):=K5.out.cell 6
 have z0:=K5.out.frozen 6
 go_wp2_with fail
 have ho:Only (w.heap.size+1) w5 (w5.setCell ⟨(w.heap.size+1),6,none⟩ (.int .i64 x5)):=((Only.refl (w.heap.size+1) w5).set_ 6 (.int .i64 x5))
 have Kx:Blk (w5.setCell ⟨(w.heap.size+1),6,none⟩ (.int .i64 x5)) (w.heap.size+1) 49 #[.int .i64 x1.1.1,.int .i64 x1.1.2,.int .i64 x1.2,.int .i64 x2,.int .i64 x3,.int .i64 x4,.int .i64 x5,.slice none 0 0,.int .i64 0,.int .i64 0,.slice none 0 0,.slice none 0 0,.slice none 0 0,.slice none 0 0,.slice none 0 0,.slice none 0 0]:=(K5.out.set_ 6 (.int .i64 x5))
 have KRx:=Lib.hid (ho.blk KR_5.out (by omega))
 have HA5:=Lib.hid (RMid.lay (T:=49) HA4.out HMS5.out.2 hlt (keepN_pair (keepN_pair (keepN_pair keepN_flat keepN_flat) keepN_flat) keepN_flat) keepN_flat (by omega) K5.out ho)
 have HS5:=Lib.hid (RS.only HMS5.out.1 ho (by omega) (by omega))
 have Kx5:=Lib.hid Kx
 have KR_5':=Lib.hid KRx.out
 clear ho Kx HMS5 K5 c0 z0 KRx KR_5
 have KR_5:=Lib.hid KR_5'.out
 clear KR_5'
 generalize (w5.setCell ⟨(w.heap.size+1),6,none⟩ (.int .i64 x5))=v5 at *
 refine (rfmany B gp X t c k5 od5 v5 HS5.out).mono ?_
 rintro e mL1 hh
 obtain ⟨kL1,odL1,nL1,rfl,hS,hn0,hn1,hz,hM⟩:=hh
 obtain ⟨NL1,rfl⟩:=Int.eq_ofNat_of_zero_le hn0
 have HNL1:=Lib.hid (show NL1≤1000 by omega)
 have HML1:=Lib.hid (And.intro hM (And.intro hz hS))
 have KSL1:=Lib.hid (hM.fr.blk Kx5.out (by omega) (by omega))
 have KRL1:=Lib.hid (hM.fr.blk KR_5.out (by omega) (by omega))
 have hsvL1:v5.heap.size≤mL1.heap.size:=hM.fr.size
 have hswL1:w.heap.size+1 < mL1.heap.size:=KSL1.out.lt
 clear hS hn0 hn1 hz hM
 go_wp2_with fail
 go_loopw [4,5] (fun nn q0 wr=>∃ (j:Nat),j≤NL1∧nn = .int .i64 ((NL1 - j:Nat):Int)∧Hid (SLt classR classC 154 B gp X t c w.heap.size (w.heap.size+1) Sq.zzS (fun a=>#[.int .i64 x1.1.1,.int .i64 x1.1.2,.int .i64 x1.2,.int .i64 x2,.int .i64 x3,.int .i64 x4,.int .i64 x5,a,.int .i64 0,.int .i64 0,.slice none 0 0,.slice none 0 0,.slice none 0 0,.slice none 0 0,.slice none 0 0,.slice none 0 0]) v5 mL1.heap.size kL1 odL1 j wr))
  (fun nn q0 _=>(intOf nn).toNat)
 case atStart=>exact ⟨0,Nat.zero_le _,rfl,⟨[],none,0,[],kL1,odL1,KSL1.out,KRL1.out,HML1.out.2.2,(HML1.out.1.fr).weak,RLt.nil _ _ _ _ _ _ _,Nat.le_refl _⟩⟩
 case round =>
  obtain ⟨j,hj,rfl,hL⟩:=hrel
  obtain ⟨lL1,VL1,cvL1,xsL1,k2L1,od2L1,hKs,hKr,hS2,hF2,hR2,hFwL1⟩:=hL.out
  have KSrL1:=Lib.hid (show Blk wr (w.heap.size+1) 49 #[.int .i64 x1.1.1,.int .i64 x1.1.2,.int .i64 x1.2,.int .i64 x2,.int .i64 x3,.int .i64 x4,.int .i64 x5,.slice VL1 j cvL1,.int .i64 0,.int .i64 0,.slice none 0 0,.slice none 0 0,.slice none 0 0,.slice none 0 0,.slice none 0 0,.slice none 0 0] from hKs)
  have KRrL1:=Lib.hid hKr
  have H2L1:=Lib.hid (And.intro hS2 (And.intro hF2 hR2))
  clear hKs hKr hS2 hF2 hR2 hL
  by_cases hx:j < NL1∧od2L1=false
  ·obtain ⟨hjN,rfl⟩:=hx
   have hpos:(0:Int) < ((NL1 - j:Nat):Int):=by omega
   have hN9:((NL1 - j:Nat):Int)≤1000:=by have:=HNL1.out;omega
   have hj9:j≤1000:=by have:=HNL1.out;omega
   have p2:wr.cell? ⟨gp,2,none⟩=some (.bool false):=H2L1.out.1.blk.cell 2
   have hgrL1:w.heap.size+1 < wr.heap.size:=KSrL1.out.lt
   have hltrL1:gp < wr.heap.size:=by omega
   go_upto_region 11 with fail
   have KE0L1:=Lib.hid (Blk.new wr 154 #[.int .i64 0,.int .i64 0,.int .i64 0,.int .i64 0])
   have KSqL1:=Lib.hid (KSrL1.out.alloc (.cells #[.int .i64 0,.int .i64 0,.int .i64 0,.int .i64 0] 154))
   have KRqL1:=Lib.hid (KRrL1.out.alloc (.cells #[.int .i64 0,.int .i64 0,.int .i64 0,.int .i64 0] 154))
   have HSqL1:=Lib.hid (H2L1.out.1.alloc (.cells #[.int .i64 0,.int .i64 0,.int .i64 0,.int .i64 0] 154))
   have HBeL1:=Lib.hid (below_alloc (o:=.cells #[.int .i64 0,.int .i64 0,.int .i64 0,.int .i64 0] 154) (Below.refl wr.heap.size wr))
   have hseL1:wr.heap.size < (wr.alloc (.cells #[.int .i64 0,.int .i64 0,.int .i64 0,.int .i64 0] 154)).heap.size:=by simp
   generalize wr.alloc (.cells #[.int .i64 0,.int .i64 0,.int .i64 0,.int .i64 0] 154)=uL1 at *
   go_wp2_with fail
   refine (rfnum B gp X t c k2L1 false uL1 HSqL1.out).mono ?_
   rintro e weL11 hh
   obtain ⟨keL11,odeL11,xeL11,rfl,hS,hM⟩:=hh
   have KeL11:=Lib.hid (hM.fr.blk KE0L1.out (by omega) (by omega))
   have KSrL1_eL11:=Lib.hid (hM.fr.blk KSqL1.out (by omega) (by omega))
   have KRrL1_eL11:=Lib.hid (hM.fr.blk KRqL1.out (by omega) (by omega))
   have HMSeL11:=Lib.hid (And.intro hS hM)
   clear hS hM
   have c0:weL11.cell? ⟨wr.heap.size,0,none⟩=some (.int .i64 0):=KeL11.out.cell 0
   have z0:=KeL11.out.frozen 0
   go_wp2_with fail
   have ho:Only wr.heap.size weL11 (weL11.setCell ⟨wr.heap.size,0,none⟩ (.int .i64 xeL11)):=((Only.refl wr.heap.size weL11).set_ 0 (.int .i64 xeL11))
   have Kx:Blk (weL11.setCell ⟨wr.heap.size,0,none⟩ (.int .i64 xeL11)) wr.heap.size 154 #[.int .i64 xeL11,.int .i64 0,.int .i64 0,.int .i64 0]:=(KeL11.out.set_ 0 (.int .i64 xeL11))
   have KSrL1x:=Lib.hid (ho.blk KSrL1_eL11.out (by omega))
   have KRrL1x:=Lib.hid (ho.blk KRrL1_eL11.out (by omega))
   have HAeL11:=Lib.hid (RMid.over (RMid.ahead HMSeL11.out.2 HBeL1.out) (T:=154) keepN_flat (Nat.le_refl _) KeL11.out ho)
   have HSeL11:=Lib.hid (RS.only HMSeL11.out.1 ho (by omega) (by omega))
   have KxeL11:=Lib.hid Kx
   have KSrL1_eL11':=Lib.hid KSrL1x.out
   have KRrL1_eL11':=Lib.hid KRrL1x.out
   clear ho Kx HMSeL11 KeL11 c0 z0 KSrL1x KSrL1_eL11 KRrL1x KRrL1_eL11
   have KSrL1_eL11:=Lib.hid KSrL1_eL11'.out
   clear KSrL1_eL11'
   have KRrL1_eL11:=Lib.hid KRrL1_eL11'.out
   clear KRrL1_eL11'
   generalize (weL11.setCell ⟨wr.heap.size,0,none⟩ (.int .i64 xeL11))=veL11 at *
   refine (rfnum B gp X t c keL11 odeL11 veL11 HSeL11.out).mono ?_
   rintro e weL12 hh
   obtain ⟨keL12,odeL12,xeL12,rfl,hS,hM⟩:=hh
   have KeL12:=Lib.hid (hM.fr.blk KxeL11.out (by omega) (by omega))
   have KSrL1_eL12:=Lib.hid (hM.fr.blk KSrL1_eL11.out (by omega) (by omega))
   have KRrL1_eL12:=Lib.hid (hM.fr.blk KRrL1_eL11.out (by omega) (by omega))
   have HMSeL12:=Lib.hid (And.intro hS hM)
   clear hS hM
   have c0:weL12.cell? ⟨wr.heap.size,1,none⟩=some (.int .i64 0):=KeL12.out.cell 1
   have z0:=KeL12.out.frozen 1
   go_wp2_with fail
   have ho:Only wr.heap.size weL12 (weL12.setCell ⟨wr.heap.size,1,none⟩ (.int .i64 xeL12)):=((Only.refl wr.heap.size weL12).set_ 1 (.int .i64 xeL12))
   have Kx:Blk (weL12.setCell ⟨wr.heap.size,1,none⟩ (.int .i64 xeL12)) wr.heap.size 154 #[.int .i64 xeL11,.int .i64 xeL12,.int .i64 0,.int .i64 0]:=(KeL12.out.set_ 1 (.int .i64 xeL12))
   have KSrL1x:=Lib.hid (ho.blk KSrL1_eL12.out (by omega))
   have KRrL1x:=Lib.hid (ho.blk KRrL1_eL12.out (by omega))
   have HAeL12:=Lib.hid (RMid.lay (T:=154) HAeL11.out HMSeL12.out.2 hltrL1 keepN_flat keepN_flat (Nat.le_refl _) KeL12.out ho)
   have HSeL12:=Lib.hid (RS.only HMSeL12.out.1 ho (by omega) (by omega))
   have KxeL12:=Lib.hid Kx
   have KSrL1_eL12':=Lib.hid KSrL1x.out
   have KRrL1_eL12':=Lib.hid KRrL1x.out
   clear ho Kx HMSeL12 KeL12 c0 z0 KSrL1x KSrL1_eL12 KRrL1x KRrL1_eL12
   have KSrL1_eL12:=Lib.hid KSrL1_eL12'.out
   clear KSrL1_eL12'
   have KRrL1_eL12:=Lib.hid KRrL1_eL12'.out
   clear KRrL1_eL12'
   generalize (weL12.setCell ⟨wr.heap.size,1,none⟩ (.int .i64 xeL12))=veL12 at *
   refine (rfnum B gp X t c keL12 odeL12 veL12 HSeL12.out).mono ?_
   rintro e weL13 hh
   obtain ⟨keL13,odeL13,xeL13,rfl,hS,hM⟩:=hh
   have KeL13:=Lib.hid (hM.fr.blk KxeL12.out (by omega) (by omega))
   have KSrL1_eL13:=Lib.hid (hM.fr.blk KSrL1_eL12.out (by omega) (by omega))
   have KRrL1_eL13:=Lib.hid (hM.fr.blk KRrL1_eL12.out (by omega) (by omega))
   have HMSeL13:=Lib.hid (And.intro hS hM)
   clear hS hM
   have c0:weL13.cell? ⟨wr.heap.size,2,none⟩=some (.int .i64 0):=KeL13.out.cell 2
   have z0:=KeL13.out.frozen 2
   go_wp2_with fail
   have ho:Only wr.heap.size weL13 (weL13.setCell ⟨wr.heap.size,2,none⟩ (.int .i64 xeL13)):=((Only.refl wr.heap.size weL13).set_ 2 (.int .i64 xeL13))
   have Kx:Blk (weL13.setCell ⟨wr.heap.size,2,none⟩ (.int .i64 xeL13)) wr.heap.size 154 #[.int .i64 xeL11,.int .i64 xeL12,.int .i64 xeL13,.int .i64 0]:=(KeL13.out.set_ 2 (.int .i64 xeL13))
   have KSrL1x:=Lib.hid (ho.blk KSrL1_eL13.out (by omega))
   have KRrL1x:=Lib.hid (ho.blk KRrL1_eL13.out (by omega))
   have HAeL13:=Lib.hid (RMid.lay (T:=154) HAeL12.out HMSeL13.out.2 hltrL1 (keepN_pair keepN_flat keepN_flat) keepN_flat (Nat.le_refl _) KeL13.out ho)
   have HSeL13:=Lib.hid (RS.only HMSeL13.out.1 ho (by omega) (by omega))
   have KxeL13:=Lib.hid Kx
   have KSrL1_eL13':=Lib.hid KSrL1x.out
   have KRrL1_eL13':=Lib.hid KRrL1x.out
   clear ho Kx HMSeL13 KeL13 c0 z0 KSrL1x KSrL1_eL13 KRrL1x KRrL1_eL13
   have KSrL1_eL13:=Lib.hid KSrL1_eL13'.out
   clear KSrL1_eL13'
   have KRrL1_eL13:=Lib.hid KRrL1_eL13'.out
   clear KRrL1_eL13'
   generalize (weL13.setCell ⟨wr.heap.size,2,none⟩ (.int .i64 xeL13))=veL13 at *
   refine (rfnum B gp X t c keL13 odeL13 veL13 HSeL13.out).mono ?_
   rintro e weL14 hh
   obtain ⟨keL14,odeL14,xeL14,rfl,hS,hM⟩:=hh
   have KeL14:=Lib.hid (hM.fr.blk KxeL13.out (by omega) (by omega))
   have KSrL1_eL14:=Lib.hid (hM.fr.blk KSrL1_eL13.out (by omega) (by omega))
   have KRrL1_eL14:=Lib.hid (hM.fr.blk KRrL1_eL13.out (by omega) (by omega))
   have HMSeL14:=Lib.hid (And.intro hS hM)
   clear hS hM
   have c0:weL14.cell? ⟨wr.heap.size,3,none⟩=some (.int .i64 0):=KeL14.out.cell 3
   have z0:=KeL14.out.frozen 3
   go_upto_region 15 with fail
   have ho:Only wr.heap.size weL14 (weL14.setCell ⟨wr.heap.size,3,none⟩ (.int .i64 xeL14)):=((Only.refl wr.heap.size weL14).set_ 3 (.int .i64 xeL14))
   have Kx:Blk (weL14.setCell ⟨wr.heap.size,3,none⟩ (.int .i64 xeL14)) wr.heap.size 154 #[.int .i64 xeL11,.int .i64 xeL12,.int .i64 xeL13,.int .i64 xeL14]:=(KeL14.out.set_ 3 (.int .i64 xeL14))
   have KSrL1x:=Lib.hid (ho.blk KSrL1_eL14.out (by omega))
   have KRrL1x:=Lib.hid (ho.blk KRrL1_eL14.out (by omega))
   have HAeL14:=Lib.hid (RMid.lay (T:=154) HAeL13.out HMSeL14.out.2 hltrL1 (keepN_pair (keepN_pair keepN_flat keepN_flat) keepN_flat) keepN_flat (Nat.le_refl _) KeL14.out ho)
   have HSeL14:=Lib.hid (RS.only HMSeL14.out.1 ho (by omega) (by omega))
   have KxeL14:=Lib.hid Kx
   have KSrL1_eL14':=Lib.hid KSrL1x.out
   have KRrL1_eL14':=Lib.hid KRrL1x.out
   clear ho Kx HMSeL14 KeL14 c0 z0 KSrL1x KSrL1_eL14 KRrL1x KRrL1_eL14
   have KSrL1_eL14:=Lib.hid KSrL1_eL14'.out
   clear KSrL1_eL14'
   have KRrL1_eL14:=Lib.hid KRrL1_eL14'.out
   clear KRrL1_eL14'
   generalize (weL14.setCell ⟨wr.heap.size,3,none⟩ (.int .i64 xeL14))=veL14 at *
   have HE:=Lib.hid (show RMid classR classC.dec gp gp (t.drop k2L1) false wr veL14 (kOf (((xeL11,xeL12),xeL13),xeL14)) [.int .i64 xeL11,.int .i64 xeL12,.int .i64 xeL13,.int .i64 xeL14] (t.drop keL14) odeL14 from by
    have h:=RMid.iso (f:=kOf) (g:=ofK) (fun _=>rfl) HAeL14.out
    exact ⟨rfl,h.fr,h.le,h.ok,h.bad⟩)
   have R9:=Lib.hid (show veL14.rangeAt wr.heap.size 0 [.int .i64 xeL11,.int .i64 xeL12,.int .i64 xeL13,.int .i64 xeL14] from range_part (n:=4) KxeL14.out rfl)
   have f0:veL14.cell? ⟨w.heap.size+1,7,none⟩=some (.slice VL1 j cvL1):=KSrL1_eL14.out.cell 7
   have HO:=Lib.hid (own_up' (H2L1.out.2.2.keep (w2:=veL14) (fun i hi hl=>HE.out.fr.block i hl (by omega) (by omega)) HE.out.fr.size).own (below_alloc (o:=.cells (List.toArray [.int .i64 xeL11,.int .i64 xeL12,.int .i64 xeL13,.int .i64 xeL14]) 154) (Below.refl _ veL14)))
   obtain ⟨i0,hi0,hz0,hz1,hz2⟩:=info_parts rlistK_info
   have HI0:=Lib.hid (And.intro hi0 (And.intro hz0 (And.intro hz1 hz2)))
   clear hi0 hz0 hz1 hz2
   have hbase:mL1.heap.size≤(veL14.alloc (.cells (List.toArray [.int .i64 xeL11,.int .i64 xeL12,.int .i64 xeL13,.int .i64 xeL14]) 154)).heap.size:=by have h2:=HE.out.fr.size;simp;omega
   go_wp2_with (first | (refine wpList_load_mid rfl 154 _ rfl _ _ rfl _ _ R9.out Try.underlying154 rfl (by kernel_rfl) ?_) | (at_builtin;refine wpList_append_any _ rfl (.tmp 60) (.tmp 62) _ rfl mL1.heap.size 154 i0 (.agg #[.int .i64 0,.int .i64 0,.int .i64 0,.int .i64 0]) 4 32 Try.underlying42 HI0.out.1 HI0.out.2.1 HI0.out.2.2.1 HI0.out.2.2.2 rfl (by decide) _ _ _ rfl HO.out _ (some ⟨veL14.heap.size,0,none⟩) 1 1 [.int .i64 xeL11,.int .i64 xeL12,.int .i64 xeL13,.int .i64 xeL14] rfl (reads_box veL14 154 [.int .i64 xeL11,.int .i64 xeL12,.int .i64 xeL13,.int .i64 xeL14]) (fun u hu=>by simp only [List.mem_cons,List.not_mem_nil,or_false] at hu;rcases hu with rfl | rfl | rfl | rfl <;> rfl) (by simp only [maxLen];omega) (by omega) hbase ?_;intro v7 w7 hown hg hat;obtain ⟨V7,c7,rfl⟩:=own_form2 hown;have H7:=Lib.hid (And.intro hown hg);have kb:=(KSrL1_eL14.out.alloc (.cells (List.toArray [.int .i64 xeL11,.int .i64 xeL12,.int .i64 xeL13,.int .i64 xeL14]) 154)).grown hg (fun e1=>by have:=(HO.out.lt _ e1.symm).1;omega);have g0:w7.cell? ⟨w.heap.size+1,7,none⟩=some (.slice VL1 j cvL1):=kb.cell 7;have g1:=kb.frozen 7;clear hown hg hat kb))
   go_roundw
   case rel=>exact ⟨j+1,by omega,by congr 1;omega,SLt.push H2L1.out.2.1 H2L1.out.2.2 keepN_flat (by omega) hFwL1 HE.out HSeL14.out KSrL1_eL14.out KRrL1_eL14.out (by omega) (by omega) (by omega) H7.out.1 H7.out.2 (fun _ _=>rfl) hsvL1⟩
   case measure=>simp [intOf];omega
  ·have HXNL1:=Lib.hid hx
   go_upto_region 8 with fail
   go_cut [43] from 35 to 65 (fun s9 wx=>s9 = .bool false∧wx=wr)
   case first =>
    by_cases hjN:j < NL1
    ·obtain rfl:od2L1=true:=by
      cases od2L1 with
      | true=>rfl
      | false=>exact absurd ⟨hjN,rfl⟩ hx
     have hpos:(0:Int) < ((NL1 - j:Nat):Int):=by omega
     have p2:wr.cell? ⟨gp,2,none⟩=some (.bool true):=H2L1.out.1.blk.cell 2
     clear hx
     go_wp2_with fail
     go_meet
     exact ⟨rfl,rfl⟩
    ·have hz0:((NL1 - j:Nat):Int)=0:=by omega
     clear hx
     go_wp2_with fail
     go_meet
     exact ⟨rfl,rfl⟩
   case rest =>
    obtain ⟨rfl,e⟩:=hcut
    subst e
    clear hx
    have HDL1:=Lib.hid (RLt.done (n:=(NL1:Int)) (k:=0) (k1:=0) (fun e=>HML1.out.1.ok e) (fun e e0=>HML1.out.1.bad e e0) H2L1.out.2.2 (by omega) (fun e=>by
     have h1:=HXNL1.out
     have h2:¬ j < NL1:=fun h=>h1 ⟨h,e⟩
     omega))
    obtain rfl:j=lL1.length:=H2L1.out.2.2.len.symm
    have HAjL1:=Lib.hid (RMid.join (T:=49) HA5.out (keepN_pair (keepN_pair (keepN_pair (keepN_pair keepN_flat keepN_flat) keepN_flat) keepN_flat) keepN_flat) (by omega) Kx5.out hlt H2L1.out.2.1 ((listR classR 154).mono H2L1.out.2.2.at_ (by omega)) (Nat.le_trans H2L1.out.2.2.le HML1.out.1.le) HDL1.out)
    have HSjL1:=Lib.hid H2L1.out.1
    clear HXNL1 HDL1 H2L1 hj
    generalize wc=vL1 at *
    go_wp2_with fail
    refine (rfnum B gp X t c k2L1 od2L1 vL1 HSjL1.out).mono ?_
    rintro e w6 hh
    obtain ⟨k6,od6,x6,rfl,hS,hM⟩:=hh
    have K6:=Lib.hid (hM.fr.blk KSrL1.out (by omega) (by omega))
    have KR_6:=Lib.hid (hM.fr.blk KRrL1.out (by omega) (by omega))
    have HMS6:=Lib.hid (And.intro hS hM)
    clear hS hM
    have c0:w6.cell? ⟨(w.heap.size+1),8,none⟩=some (.int .i64 0):=K6.out.cell 8
    have z0:=K6.out.frozen 8
    go_wp2_with fail
    have ho:Only (w.heap.size+1) w6 (w6.setCell ⟨(w.heap.size+1),8,none⟩ (.int .i64 x6)):=((Only.refl (w.heap.size+1) w6).set_ 8 (.int .i64 x6))
    have Kx:Blk (w6.setCell ⟨(w.heap.size+1),8,none⟩ (.int .i64 x6)) (w.heap.size+1) 49 #[.int .i64 x1.1.1,.int .i64 x1.1.2,.int .i64 x1.2,.int .i64 x2,.int .i64 x3,.int .i64 x4,.int .i64 x5,.slice VL1 lL1.length cvL1,.int .i64 x6,.int .i64 0,.slice none 0 0,.slice none 0 0,.slice none 0 0,.slice none 0 0,.slice none 0 0,.slice none 0 0]:=(K6.out.set_ 8 (.int .i64 x6))
    have KRx:=Lib.hid (ho.blk KR_6.out (by omega))
    have HA6:=Lib.hid (RMid.lay (T:=49) HAjL1.out HMS6.out.2 hlt (keepN_pair (keepN_pair (keepN_pair (keepN_pair (keepN_pair keepN_flat keepN_flat) keepN_flat) keepN_flat) keepN_flat) (keepN_lst (by decide) keepN_flat)) keepN_flat (by omega) K6.out ho)
    have HS6:=Lib.hid (RS.only HMS6.out.1 ho (by omega) (by omega))
    have Kx6:=Lib.hid Kx
    have KR_6':=Lib.hid KRx.out
    clear ho Kx HMS6 K6 c0 z0 KRx KR_6
    have KR_6:=Lib.hid KR_6'.out
    clear KR_6'
    generalize (w6.setCell ⟨(w.heap.size+1),8,none⟩ (.int .i64 x6))=v6 at *
    refine (rfnum B gp X t c k6 od6 v6 HS6.out).mono ?_
    rintro e w7 hh
    obtain ⟨k7,od7,x7,rfl,hS,hM⟩:=hh
    have K7:=Lib.hid (hM.fr.blk Kx6.out (by omega) (by omega))
    have KR_7:=Lib.hid (hM.fr.blk KR_6.out (by omega) (by omega))
    have HMS7:=Lib.hid (And.intro hS hM)
    clear hS hM
    have c0:w7.cell? ⟨(w.heap.size+1),9,none⟩=some (.int .i64 0):=K7.out.cell 9
    have z0:=K7.out.frozen 9
    go_wp2_with fail
    have ho:Only (w.heap.size+1) w7 (w7.setCell ⟨(w.heap.size+1),9,none⟩ (.int .i64 x7)):=((Only.refl (w.heap.size+1) w7).set_ 9 (.int .i64 x7))
    have Kx:Blk (w7.setCell ⟨(w.heap.size+1),9,none⟩ (.int .i64 x7)) (w.heap.size+1) 49 #[.int .i64 x1.1.1,.int .i64 x1.1.2,.int .i64 x1.2,.int .i64 x2,.int .i64 x3,.int .i64 x4,.int .i64 x5,.slice VL1 lL1.length cvL1,.int .i64 x6,.int .i64 x7,.slice none 0 0,.slice none 0 0,.slice none 0 0,.slice none 0 0,.slice none 0 0,.slice none 0 0]:=(K7.out.set_ 9 (.int .i64 x7))
    have KRx:=Lib.hid (ho.blk KR_7.out (by omega))
    have HA7:=Lib.hid (RMid.lay (T:=49) HA6.out HMS7.out.2 hlt (keepN_pair (keepN_pair (keepN_pair (keepN_pair (keepN_pair (keepN_pair keepN_flat keepN_flat) keepN_flat) keepN_flat) keepN_flat) (keepN_lst (by decide) keepN_flat)) keepN_flat) keepN_flat (by omega) K7.out ho)
    have HS7:=Lib.hid (RS.only HMS7.out.1 ho (by omega) (by omega))
    have Kx7:=Lib.hid Kx
    have KR_7':=Lib.hid KRx.out
    clear ho Kx HMS7 K7 c0 z0 KRx KR_7
    have KR_7:=Lib.hid KR_7'.out
    clear KR_7'
    generalize (w7.setCell ⟨(w.heap.size+1),9,none⟩ (.int .i64 x7))=v7 at *
    refine (rfmany B gp X t c k7 od7 v7 HS7.out).mono ?_
    rintro e mL2 hh
    obtain ⟨kL2,odL2,nL2,rfl,hS,hn0,hn1,hz,hM⟩:=hh
    obtain ⟨NL2,rfl⟩:=Int.eq_ofNat_of_zero_le hn0
    have HNL2:=Lib.hid (show NL2≤1000 by omega)
    have HML2:=Lib.hid (And.intro hM (And.intro hz hS))
    have KSL2:=Lib.hid (hM.fr.blk Kx7.out (by omega) (by omega))
    have KRL2:=Lib.hid (hM.fr.blk KR_7.out (by omega) (by omega))
    have hsvL2:v7.heap.size≤mL2.heap.size:=hM.fr.size
    have hswL2:w.heap.size+1 < mL2.heap.size:=KSL2.out.lt
    clear hS hn0 hn1 hz hM
    go_wp2_with fail
    go_loopw [6,7,8] (fun nn q0 q1 wr=>∃ (j:Nat),j≤NL2∧nn = .int .i64 ((NL2 - j:Nat):Int)∧Hid (SLt jobR jobC 28 B gp X t c w.heap.size (w.heap.size+1) Sq.zzS (fun a=>#[.int .i64 x1.1.1,.int .i64 x1.1.2,.int .i64 x1.2,.int .i64 x2,.int .i64 x3,.int .i64 x4,.int .i64 x5,.slice VL1 lL1.length cvL1,.int .i64 x6,.int .i64 x7,a,.slice none 0 0,.slice none 0 0,.slice none 0 0,.slice none 0 0,.slice none 0 0]) v7 mL2.heap.size kL2 odL2 j wr))
     (fun nn q0 q1 _=>(intOf nn).toNat)
    case atStart=>exact ⟨0,Nat.zero_le _,rfl,⟨[],none,0,[],kL2,odL2,KSL2.out,KRL2.out,HML2.out.2.2,(HML2.out.1.fr).weak,RLt.nil _ _ _ _ _ _ _,Nat.le_refl _⟩⟩
    case round =>
     obtain ⟨j,hj,rfl,hL⟩:=hrel
     obtain ⟨lL2,VL2,cvL2,xsL2,k2L2,od2L2,hKs,hKr,hS2,hF2,hR2,hFwL2⟩:=hL.out
     have KSrL2:=Lib.hid (show Blk wr (w.heap.size+1) 49 #[.int .i64 x1.1.1,.int .i64 x1.1.2,.int .i64 x1.2,.int .i64 x2,.int .i64 x3,.int .i64 x4,.int .i64 x5,.slice VL1 lL1.length cvL1,.int .i64 x6,.int .i64 x7,.slice VL2 j cvL2,.slice none 0 0,.slice none 0 0,.slice none 0 0,.slice none 0 0,.slice none 0 0] from hKs)
     have KRrL2:=Lib.hid hKr
     have H2L2:=Lib.hid (And.intro hS2 (And.intro hF2 hR2))
     clear hKs hKr hS2 hF2 hR2 hL
     by_cases hx:j < NL2∧od2L2=false
     ·obtain ⟨hjN,rfl⟩:=hx
      have hpos:(0:Int) < ((NL2 - j:Nat):Int):=by omega
      have hN9:((NL2 - j:Nat):Int)≤1000:=by have:=HNL2.out;omega
      have hj9:j≤1000:=by have:=HNL2.out;omega
      have p2:wr.cell? ⟨gp,2,none⟩=some (.bool false):=H2L2.out.1.blk.cell 2
      have hgrL2:w.heap.size+1 < wr.heap.size:=KSrL2.out.lt
      have hltrL2:gp < wr.heap.size:=by omega
      go_wp2_with fail
      refine (rfnum B gp X t c k2L2 false wr H2L2.out.1).mono ?_
      rintro e wb1 hh
      obtain ⟨kb1,odb1,xb1,rfl,hS,hM⟩:=hh
      have KS1:=Lib.hid (hM.fr.blk KSrL2.out (by omega) (by omega))
      have KR1:=Lib.hid (hM.fr.blk KRrL2.out (by omega) (by omega))
      have HMb1:=Lib.hid (And.intro hS hM)
      clear hS hM
      go_wp2_with fail
      refine (rfasked B gp X t c kb1 odb1 wb1 HMb1.out.1).mono ?_
      rintro e wb2 hh
      obtain ⟨kb2,odb2,xb2,Vb2,cb2,rfl,hS,hM⟩:=hh
      have KS2:=Lib.hid (hM.fr.blk KS1.out (by omega) (by omega))
      have KR2:=Lib.hid (hM.fr.blk KR1.out (by omega) (by omega))
      have HP:=Lib.hid (RMid.pair HMb1.out.2 hM hltrL2 hltrL2)
      have HSb:=Lib.hid hS
      have hsb:wr.heap.size≤wb2.heap.size:=HP.out.fr.size
      clear hS hM KS1 KR1 HMb1
      have xf:=box_full (W:=wb2) 28 Sq.zzJ (vs:=[.int .i64 0,.int .i64 xb2.us,.int .i64 xb2.cl,.int .i64 xb2.a,.int .i64 xb2.b,.int .i64 xb2.c,.bool xb2.p,.bool xb2.q,.bool xb2.r,.bool xb2.tn,.int .i64 xb2.wa,.int .i64 xb2.pr,.bool xb2.he,.slice Vb2 xb2.af.length cb2,.int .u8 0,.int .i64 0]) rfl
      have XF:=Lib.hid xf
      have hsx:wb2.heap.size < (World.setCells (wb2.alloc (.cells Sq.zzJ 28)) wb2.heap.size 0 [.int .i64 0,.int .i64 xb2.us,.int .i64 xb2.cl,.int .i64 xb2.a,.int .i64 xb2.b,.int .i64 xb2.c,.bool xb2.p,.bool xb2.q,.bool xb2.r,.bool xb2.tn,.int .i64 xb2.wa,.int .i64 xb2.pr,.bool xb2.he,.slice Vb2 xb2.af.length cb2,.int .u8 0,.int .i64 0]).heap.size:=xf.1.lt
      clear xf
      go_upto_region 23 with (refine wpList_store_mid rfl 28 _ _ rfl wb2.heap.size 0 (List.toArray [.int .i64 0,.int .i64 xb2.us,.int .i64 xb2.cl,.int .i64 xb2.a,.int .i64 xb2.b,.int .i64 xb2.c,.bool xb2.p,.bool xb2.q,.bool xb2.r,.bool xb2.tn,.int .i64 xb2.wa,.int .i64 xb2.pr,.bool xb2.he,.slice Vb2 xb2.af.length cb2,.int .u8 0,.int .i64 0]) rfl rfl (there_of (Blk.new wb2 28 Sq.zzJ) (Nat.le_of_ble_eq_true rfl)) (by kernel_rfl) (by kernel_rfl) ?_;simp only [List.toList_toArray];generalize World.setCells _ _ _ _=u1 at *;(try simp only [Act.put]))
      have KE1:=Lib.hid XF.out.1
      have KS3:=Lib.hid (KS2.out.below XF.out.2 KS2.out.lt)
      have KR3:=Lib.hid (KR2.out.below XF.out.2 KR2.out.lt)
      have HSc:=Lib.hid (HSb.out.up XF.out.2)
      have HPu:=Lib.hid (RMid.up HP.out XF.out.2)
      clear XF HP HSb KS2 KR2
      have c0:u1.cell? ⟨wb2.heap.size,0,none⟩=some (.int .i64 0):=KE1.out.cell 0
      have z0:=KE1.out.frozen 0
      go_wp2_with fail
      have ho:Only wb2.heap.size u1 (u1.setCell ⟨wb2.heap.size,0,none⟩ (.int .i64 xb1)):=(Only.refl wb2.heap.size u1).set_ 0 (.int .i64 xb1)
      have KE2:=Lib.hid (show Blk (u1.setCell ⟨wb2.heap.size,0,none⟩ (.int .i64 xb1)) wb2.heap.size 28 #[.int .i64 xb1,.int .i64 xb2.us,.int .i64 xb2.cl,.int .i64 xb2.a,.int .i64 xb2.b,.int .i64 xb2.c,.bool xb2.p,.bool xb2.q,.bool xb2.r,.bool xb2.tn,.int .i64 xb2.wa,.int .i64 xb2.pr,.bool xb2.he,.slice Vb2 xb2.af.length cb2,.int .u8 0,.int .i64 0] from KE1.out.set_ 0 (.int .i64 xb1))
      have KS4:=Lib.hid (ho.blk KS3.out (by omega))
      have KR4:=Lib.hid (ho.blk KR3.out (by omega))
      have HAb:=Lib.hid (RMid.over HPu.out (T:=28) (keepN_pair keepN_flat (keepN_ask (by decide))) hsb KE1.out ho)
      have HSd:=Lib.hid (RS.only HSc.out ho (by omega) (by omega))
      clear ho c0 z0 KE1 KS3 KR3 HSc HPu
      generalize u1.setCell ⟨wb2.heap.size,0,none⟩ (.int .i64 xb1)=u2 at *
      refine (rfbyte B gp X t c kb2 odb2 u2 HSd.out).mono ?_
      rintro e weL21 hh
      obtain ⟨keL21,odeL21,xeL21,rfl,_,_,hS,hM,_,_⟩:=hh
      have KeL21:=Lib.hid (hM.fr.blk KE2.out (by omega) (by omega))
      have KSrL2_eL21:=Lib.hid (hM.fr.blk KS4.out (by omega) (by omega))
      have KRrL2_eL21:=Lib.hid (hM.fr.blk KR4.out (by omega) (by omega))
      have HMSeL21:=Lib.hid (And.intro hS hM)
      clear hS hM
      have c0:weL21.cell? ⟨wb2.heap.size,14,none⟩=some (.int .u8 0):=KeL21.out.cell 14
      have z0:=KeL21.out.frozen 14
      go_wp2_with fail
      have ho:Only wb2.heap.size weL21 (weL21.setCell ⟨wb2.heap.size,14,none⟩ (.int .u8 xeL21)):=((Only.refl wb2.heap.size weL21).set_ 14 (.int .u8 xeL21))
      have Kx:Blk (weL21.setCell ⟨wb2.heap.size,14,none⟩ (.int .u8 xeL21)) wb2.heap.size 28 #[.int .i64 xb1,.int .i64 xb2.us,.int .i64 xb2.cl,.int .i64 xb2.a,.int .i64 xb2.b,.int .i64 xb2.c,.bool xb2.p,.bool xb2.q,.bool xb2.r,.bool xb2.tn,.int .i64 xb2.wa,.int .i64 xb2.pr,.bool xb2.he,.slice Vb2 xb2.af.length cb2,.int .u8 xeL21,.int .i64 0]:=(KeL21.out.set_ 14 (.int .u8 xeL21))
      have KSrL2x:=Lib.hid (ho.blk KSrL2_eL21.out (by omega))
      have KRrL2x:=Lib.hid (ho.blk KRrL2_eL21.out (by omega))
      have HAeL21:=Lib.hid (RMid.lay (T:=28) HAb.out HMSeL21.out.2 hltrL2 (keepN_pair keepN_flat (keepN_ask (by decide))) keepN_flat hsb KeL21.out ho)
      have HSeL21:=Lib.hid (RS.only HMSeL21.out.1 ho (by omega) (by omega))
      have KxeL21:=Lib.hid Kx
      have KSrL2_eL21':=Lib.hid KSrL2x.out
      have KRrL2_eL21':=Lib.hid KRrL2x.out
      clear ho Kx HMSeL21 KeL21 c0 z0 KSrL2x KSrL2_eL21 KRrL2x KRrL2_eL21
      have KSrL2_eL21:=Lib.hid KSrL2_eL21'.out
      clear KSrL2_eL21'
      have KRrL2_eL21:=Lib.hid KRrL2_eL21'.out
      clear KRrL2_eL21'
      generalize (weL21.setCell ⟨wb2.heap.size,14,none⟩ (.int .u8 xeL21))=veL21 at *
      refine (rfnum B gp X t c keL21 odeL21 veL21 HSeL21.out).mono ?_
      rintro e weL22 hh
      obtain ⟨keL22,odeL22,xeL22,rfl,hS,hM⟩:=hh
      have KeL22:=Lib.hid (hM.fr.blk KxeL21.out (by omega) (by omega))
      have KSrL2_eL22:=Lib.hid (hM.fr.blk KSrL2_eL21.out (by omega) (by omega))
      have KRrL2_eL22:=Lib.hid (hM.fr.blk KRrL2_eL21.out (by omega) (by omega))
      have HMSeL22:=Lib.hid (And.intro hS hM)
      clear hS hM
      have c0:weL22.cell? ⟨wb2.heap.size,15,none⟩=some (.int .i64 0):=KeL22.out.cell 15
      have z0:=KeL22.out.frozen 15
      go_upto_region 26 with fail
      have ho:Only wb2.heap.size weL22 (weL22.setCell ⟨wb2.heap.size,15,none⟩ (.int .i64 xeL22)):=((Only.refl wb2.heap.size weL22).set_ 15 (.int .i64 xeL22))
      have Kx:Blk (weL22.setCell ⟨wb2.heap.size,15,none⟩ (.int .i64 xeL22)) wb2.heap.size 28 #[.int .i64 xb1,.int .i64 xb2.us,.int .i64 xb2.cl,.int .i64 xb2.a,.int .i64 xb2.b,.int .i64 xb2.c,.bool xb2.p,.bool xb2.q,.bool xb2.r,.bool xb2.tn,.int .i64 xb2.wa,.int .i64 xb2.pr,.bool xb2.he,.slice Vb2 xb2.af.length cb2,.int .u8 xeL21,.int .i64 xeL22]:=(KeL22.out.set_ 15 (.int .i64 xeL22))
      have KSrL2x:=Lib.hid (ho.blk KSrL2_eL22.out (by omega))
      have KRrL2x:=Lib.hid (ho.blk KRrL2_eL22.out (by omega))
      have HAeL22:=Lib.hid (RMid.lay (T:=28) HAeL21.out HMSeL22.out.2 hltrL2 (keepN_pair (keepN_pair keepN_flat (keepN_ask (by decide))) keepN_flat) keepN_flat hsb KeL22.out ho)
      have HSeL22:=Lib.hid (RS.only HMSeL22.out.1 ho (by omega) (by omega))
      have KxeL22:=Lib.hid Kx
      have KSrL2_eL22':=Lib.hid KSrL2x.out
      have KRrL2_eL22':=Lib.hid KRrL2x.out
      clear ho Kx HMSeL22 KeL22 c0 z0 KSrL2x KSrL2_eL22 KRrL2x KRrL2_eL22
      have KSrL2_eL22:=Lib.hid KSrL2_eL22'.out
      clear KSrL2_eL22'
      have KRrL2_eL22:=Lib.hid KRrL2_eL22'.out
      clear KRrL2_eL22'
      generalize (weL22.setCell ⟨wb2.heap.size,15,none⟩ (.int .i64 xeL22))=veL22 at *
      have HE:=Lib.hid (show RMid jobR jobC.dec gp gp (t.drop k2L2) false wr veL22 (jOf (((xb1,xb2),xeL21),xeL22)) [.int .i64 xb1,.int .i64 xb2.us,.int .i64 xb2.cl,.int .i64 xb2.a,.int .i64 xb2.b,.int .i64 xb2.c,.bool xb2.p,.bool xb2.q,.bool xb2.r,.bool xb2.tn,.int .i64 xb2.wa,.int .i64 xb2.pr,.bool xb2.he,.slice Vb2 xb2.af.length cb2,.int .u8 xeL21,.int .i64 xeL22] (t.drop keL22) odeL22 from RMid.iso (f:=jOf) (g:=ofJ) (fun _=>rfl) HAeL22.out)
      have R9:=Lib.hid (show veL22.rangeAt wb2.heap.size 0 [.int .i64 xb1,.int .i64 xb2.us,.int .i64 xb2.cl,.int .i64 xb2.a,.int .i64 xb2.b,.int .i64 xb2.c,.bool xb2.p,.bool xb2.q,.bool xb2.r,.bool xb2.tn,.int .i64 xb2.wa,.int .i64 xb2.pr,.bool xb2.he,.slice Vb2 xb2.af.length cb2,.int .u8 xeL21,.int .i64 xeL22] from range_part (n:=16) KxeL22.out rfl)
      have f0:veL22.cell? ⟨w.heap.size+1,10,none⟩=some (.slice VL2 j cvL2):=KSrL2_eL22.out.cell 10
      have HO:=Lib.hid (own_up' (H2L2.out.2.2.keep (w2:=veL22) (fun i hi hl=>HE.out.fr.block i hl (by omega) (by omega)) HE.out.fr.size).own (below_alloc (o:=.cells (List.toArray [.int .i64 xb1,.int .i64 xb2.us,.int .i64 xb2.cl,.int .i64 xb2.a,.int .i64 xb2.b,.int .i64 xb2.c,.bool xb2.p,.bool xb2.q,.bool xb2.r,.bool xb2.tn,.int .i64 xb2.wa,.int .i64 xb2.pr,.bool xb2.he,.slice Vb2 xb2.af.length cb2,.int .u8 xeL21,.int .i64 xeL22]) 28) (Below.refl _ veL22)))
      obtain ⟨i0,hi0,hz0,hz1,hz2⟩:=info_parts rlistJ_info
      have HI0:=Lib.hid (And.intro hi0 (And.intro hz0 (And.intro hz1 hz2)))
      clear hi0 hz0 hz1 hz2
      have hbase:mL2.heap.size≤(veL22.alloc (.cells (List.toArray [.int .i64 xb1,.int .i64 xb2.us,.int .i64 xb2.cl,.int .i64 xb2.a,.int .i64 xb2.b,.int .i64 xb2.c,.bool xb2.p,.bool xb2.q,.bool xb2.r,.bool xb2.tn,.int .i64 xb2.wa,.int .i64 xb2.pr,.bool xb2.he,.slice Vb2 xb2.af.length cb2,.int .u8 xeL21,.int .i64 xeL22]) 28)).heap.size:=by have h2:=HE.out.fr.size;simp;omega
      go_wp2_with (first | (refine wpList_load_mid rfl 28 _ rfl _ _ rfl _ _ R9.out Try.underlying28 rfl (by kernel_rfl) ?_) | (at_builtin;refine wpList_append_any _ rfl (.tmp 98) (.tmp 100) _ rfl mL2.heap.size 28 i0 (.agg Sq.zzJ) 16 120 Try.underlying45 HI0.out.1 HI0.out.2.1 HI0.out.2.2.1 HI0.out.2.2.2 rfl (by decide) _ _ _ rfl HO.out _ (some ⟨veL22.heap.size,0,none⟩) 1 1 [.int .i64 xb1,.int .i64 xb2.us,.int .i64 xb2.cl,.int .i64 xb2.a,.int .i64 xb2.b,.int .i64 xb2.c,.bool xb2.p,.bool xb2.q,.bool xb2.r,.bool xb2.tn,.int .i64 xb2.wa,.int .i64 xb2.pr,.bool xb2.he,.slice Vb2 xb2.af.length cb2,.int .u8 xeL21,.int .i64 xeL22] rfl (reads_box veL22 28 [.int .i64 xb1,.int .i64 xb2.us,.int .i64 xb2.cl,.int .i64 xb2.a,.int .i64 xb2.b,.int .i64 xb2.c,.bool xb2.p,.bool xb2.q,.bool xb2.r,.bool xb2.tn,.int .i64 xb2.wa,.int .i64 xb2.pr,.bool xb2.he,.slice Vb2 xb2.af.length cb2,.int .u8 xeL21,.int .i64 xeL22]) (fun u hu=>by simp only [List.mem_cons,List.not_mem_nil,or_false] at hu;rcases hu with rfl | rfl | rfl | rfl | rfl | rfl | rfl | rfl | rfl | rfl | rfl | rfl | rfl | rfl | rfl | rfl <;> rfl) (by simp only [maxLen];omega) (by omega) hbase ?_;intro v7 w7 hown hg hat;obtain ⟨V7,c7,rfl⟩:=own_form2 hown;have H7:=Lib.hid (And.intro hown hg);have kb:=(KSrL2_eL22.out.alloc (.cells (List.toArray [.int .i64 xb1,.int .i64 xb2.us,.int .i64 xb2.cl,.int .i64 xb2.a,.int .i64 xb2.b,.int .i64 xb2.c,.bool xb2.p,.bool xb2.q,.bool xb2.r,.bool xb2.tn,.int .i64 xb2.wa,.int .i64 xb2.pr,.bool xb2.he,.slice Vb2 xb2.af.length cb2,.int .u8 xeL21,.int .i64 xeL22]) 28)).grown hg (fun e1=>by have:=(HO.out.lt _ e1.symm).1;omega);have g0:w7.cell? ⟨w.heap.size+1,10,none⟩=some (.slice VL2 j cvL2):=kb.cell 10;have g1:=kb.frozen 10;clear hown hg hat kb))
      go_roundw
      case rel=>exact ⟨j+1,by omega,by congr 1;omega,SLt.push H2L2.out.2.1 H2L2.out.2.2 (keepN_job2 (by decide)) (by omega) hFwL2 HE.out HSeL22.out KSrL2_eL22.out KRrL2_eL22.out (by omega) (by omega) (by omega) H7.out.1 H7.out.2 (fun _ _=>rfl) hsvL2⟩
      case measure=>simp [intOf];omega
     ·have HXNL2:=Lib.hid hx
      go_upto_region 19 with fail
      go_cut [82] from 74 to 102 (fun s9 wx=>s9 = .bool false∧wx=wr)
      case first =>
       by_cases hjN:j < NL2
       ·obtain rfl:od2L2=true:=by
         cases od2L2 with
         | true=>rfl
         | false=>exact absurd ⟨hjN,rfl⟩ hx
        have hpos:(0:Int) < ((NL2 - j:Nat):Int):=by omega
        have p2:wr.cell? ⟨gp,2,none⟩=some (.bool true):=H2L2.out.1.blk.cell 2
        clear hx
        go_wp2_with fail
        go_meet
        exact ⟨rfl,rfl⟩
       ·have hz0:((NL2 - j:Nat):Int)=0:=by omega
        clear hx
        go_wp2_with fail
        go_meet
        exact ⟨rfl,rfl⟩
      case rest =>
       obtain ⟨rfl,e⟩:=hcut
       subst e
       clear hx
       have HDL2:=Lib.hid (RLt.done (n:=(NL2:Int)) (k:=0) (k1:=0) (fun e=>HML2.out.1.ok e) (fun e e0=>HML2.out.1.bad e e0) H2L2.out.2.2 (by omega) (fun e=>by
        have h1:=HXNL2.out
        have h2:¬ j < NL2:=fun h=>h1 ⟨h,e⟩
        omega))
       obtain rfl:j=lL2.length:=H2L2.out.2.2.len.symm
       have HAjL2:=Lib.hid (RMid.join (T:=49) HA7.out (keepN_pair (keepN_pair (keepN_pair (keepN_pair (keepN_pair (keepN_pair (keepN_pair keepN_flat keepN_flat) keepN_flat) keepN_flat) keepN_flat) (keepN_lst (by decide) keepN_flat)) keepN_flat) keepN_flat) (by omega) Kx7.out hlt H2L2.out.2.1 ((listR jobR 28).mono H2L2.out.2.2.at_ (by omega)) (Nat.le_trans H2L2.out.2.2.le HML2.out.1.le) HDL2.out)
       have HSjL2:=Lib.hid H2L2.out.1
       clear HXNL2 HDL2 H2L2 hj
       generalize wc=vL2 at *
       go_wp2_with fail
       refine (rfmany B gp X t c k2L2 od2L2 vL2 HSjL2.out).mono ?_
       rintro e mL3 hh
       obtain ⟨kL3,odL3,nL3,rfl,hS,hn0,hn1,hz,hM⟩:=hh
       obtain ⟨NL3,rfl⟩:=Int.eq_ofNat_of_zero_le hn0
       have HNL3:=Lib.hid (show NL3≤1000 by omega)
       have HML3:=Lib.hid (And.intro hM (And.intro hz hS))
       have KSL3:=Lib.hid (hM.fr.blk KSrL2.out (by omega) (by omega))
       have KRL3:=Lib.hid (hM.fr.blk KRrL2.out (by omega) (by omega))
       have hsvL3:vL2.heap.size≤mL3.heap.size:=hM.fr.size
       have hswL3:w.heap.size+1 < mL3.heap.size:=KSL3.out.lt
       clear hS hn0 hn1 hz hM
       go_wp2_with fail
       go_loopw [9,10] (fun nn q0 wr=>∃ (j:Nat),j≤NL3∧nn = .int .i64 ((NL3 - j:Nat):Int)∧Hid (SLt partR partC 109 B gp X t c w.heap.size (w.heap.size+1) Sq.zzS (fun a=>#[.int .i64 x1.1.1,.int .i64 x1.1.2,.int .i64 x1.2,.int .i64 x2,.int .i64 x3,.int .i64 x4,.int .i64 x5,.slice VL1 lL1.length cvL1,.int .i64 x6,.int .i64 x7,.slice VL2 lL2.length cvL2,a,.slice none 0 0,.slice none 0 0,.slice none 0 0,.slice none 0 0]) vL2 mL3.heap.size kL3 odL3 j wr))
        (fun nn q0 _=>(intOf nn).toNat)
       case atStart=>exact ⟨0,Nat.zero_le _,rfl,⟨[],none,0,[],kL3,odL3,KSL3.out,KRL3.out,HML3.out.2.2,(HML3.out.1.fr).weak,RLt.nil _ _ _ _ _ _ _,Nat.le_refl _⟩⟩
       case round =>
        obtain ⟨j,hj,rfl,hL⟩:=hrel
        obtain ⟨lL3,VL3,cvL3,xsL3,k2L3,od2L3,hKs,hKr,hS2,hF2,hR2,hFwL3⟩:=hL.out
        have KSrL3:=Lib.hid (show Blk wr (w.heap.size+1) 49 #[.int .i64 x1.1.1,.int .i64 x1.1.2,.int .i64 x1.2,.int .i64 x2,.int .i64 x3,.int .i64 x4,.int .i64 x5,.slice VL1 lL1.length cvL1,.int .i64 x6,.int .i64 x7,.slice VL2 lL2.length cvL2,.slice VL3 j cvL3,.slice none 0 0,.slice none 0 0,.slice none 0 0,.slice none 0 0] from hKs)
        have KRrL3:=Lib.hid hKr
        have H2L3:=Lib.hid (And.intro hS2 (And.intro hF2 hR2))
        clear hKs hKr hS2 hF2 hR2 hL
        by_cases hx:j < NL3∧od2L3=false
        ·obtain ⟨hjN,rfl⟩:=hx
         have hpos:(0:Int) < ((NL3 - j:Nat):Int):=by omega
         have hN9:((NL3 - j:Nat):Int)≤1000:=by have:=HNL3.out;omega
         have hj9:j≤1000:=by have:=HNL3.out;omega
         have p2:wr.cell? ⟨gp,2,none⟩=some (.bool false):=H2L3.out.1.blk.cell 2
         have hgrL3:w.heap.size+1 < wr.heap.size:=KSrL3.out.lt
         have hltrL3:gp < wr.heap.size:=by omega
         go_upto_region 31 with fail
         have KE0L3:=Lib.hid (Blk.new wr 109 Sq.zzP)
         have KSqL3:=Lib.hid (KSrL3.out.alloc (.cells Sq.zzP 109))
         have KRqL3:=Lib.hid (KRrL3.out.alloc (.cells Sq.zzP 109))
         have HSqL3:=Lib.hid (H2L3.out.1.alloc (.cells Sq.zzP 109))
         have HBeL3:=Lib.hid (below_alloc (o:=.cells Sq.zzP 109) (Below.refl wr.heap.size wr))
         have hseL3:wr.heap.size < (wr.alloc (.cells Sq.zzP 109)).heap.size:=by simp
         generalize wr.alloc (.cells Sq.zzP 109)=uL3 at *
         go_wp2_with fail
         refine (rfnum B gp X t c k2L3 false uL3 HSqL3.out).mono ?_
         rintro e weL31 hh
         obtain ⟨keL31,odeL31,xeL31,rfl,hS,hM⟩:=hh
         have KeL31:=Lib.hid (hM.fr.blk KE0L3.out (by omega) (by omega))
         have KSrL3_eL31:=Lib.hid (hM.fr.blk KSqL3.out (by omega) (by omega))
         have KRrL3_eL31:=Lib.hid (hM.fr.blk KRqL3.out (by omega) (by omega))
         have HMSeL31:=Lib.hid (And.intro hS hM)
         clear hS hM
         have c0:weL31.cell? ⟨wr.heap.size,0,none⟩=some (.int .i64 0):=KeL31.out.cell 0
         have z0:=KeL31.out.frozen 0
         go_wp2_with fail
         have ho:Only wr.heap.size weL31 (weL31.setCell ⟨wr.heap.size,0,none⟩ (.int .i64 xeL31)):=((Only.refl wr.heap.size weL31).set_ 0 (.int .i64 xeL31))
         have Kx:Blk (weL31.setCell ⟨wr.heap.size,0,none⟩ (.int .i64 xeL31)) wr.heap.size 109 #[.int .i64 xeL31,.int .i64 0,.int .i64 0,.int .i64 0,.int .i64 0,.int .i64 0,.int .i64 0,.bool false,.bool false,.bool false,.int .u8 0,.int .i64 0,.int .i64 0]:=(KeL31.out.set_ 0 (.int .i64 xeL31))
         have KSrL3x:=Lib.hid (ho.blk KSrL3_eL31.out (by omega))
         have KRrL3x:=Lib.hid (ho.blk KRrL3_eL31.out (by omega))
         have HAeL31:=Lib.hid (RMid.over (RMid.ahead HMSeL31.out.2 HBeL3.out) (T:=109) keepN_flat (Nat.le_refl _) KeL31.out ho)
         have HSeL31:=Lib.hid (RS.only HMSeL31.out.1 ho (by omega) (by omega))
         have KxeL31:=Lib.hid Kx
         have KSrL3_eL31':=Lib.hid KSrL3x.out
         have KRrL3_eL31':=Lib.hid KRrL3x.out
         clear ho Kx HMSeL31 KeL31 c0 z0 KSrL3x KSrL3_eL31 KRrL3x KRrL3_eL31
         have KSrL3_eL31:=Lib.hid KSrL3_eL31'.out
         clear KSrL3_eL31'
         have KRrL3_eL31:=Lib.hid KRrL3_eL31'.out
         clear KRrL3_eL31'
         generalize (weL31.setCell ⟨wr.heap.size,0,none⟩ (.int .i64 xeL31))=veL31 at *
         refine (rfbox B gp X t c keL31 odeL31 veL31 HSeL31.out).mono ?_
         rintro e weL32 hh
         obtain ⟨keL32,odeL32,xeL32,rfl,hS,hM⟩:=hh
         simp only [aPk,boxL,spanL,n3L,t3L,numL,truthL,List.append_eq,List.cons_append,List.nil_append]
         have KeL32:=Lib.hid (hM.fr.blk KxeL31.out (by omega) (by omega))
         have KSrL3_eL32:=Lib.hid (hM.fr.blk KSrL3_eL31.out (by omega) (by omega))
         have KRrL3_eL32:=Lib.hid (hM.fr.blk KRrL3_eL31.out (by omega) (by omega))
         have HMSeL32:=Lib.hid (And.intro hS hM)
         clear hS hM
         have c0:weL32.cell? ⟨wr.heap.size,1,none⟩=some (.int .i64 0):=KeL32.out.cell 1
         have z0:=KeL32.out.frozen 1
         have c1:weL32.cell? ⟨wr.heap.size,2,none⟩=some (.int .i64 0):=KeL32.out.cell 2
         have z1:=KeL32.out.frozen 2
         have c2:weL32.cell? ⟨wr.heap.size,3,none⟩=some (.int .i64 0):=KeL32.out.cell 3
         have z2:=KeL32.out.frozen 3
         have c3:weL32.cell? ⟨wr.heap.size,4,none⟩=some (.int .i64 0):=KeL32.out.cell 4
         have z3:=KeL32.out.frozen 4
         have c4:weL32.cell? ⟨wr.heap.size,5,none⟩=some (.int .i64 0):=KeL32.out.cell 5
         have z4:=KeL32.out.frozen 5
         have c5:weL32.cell? ⟨wr.heap.size,6,none⟩=some (.int .i64 0):=KeL32.out.cell 6
         have z5:=KeL32.out.frozen 6
         go_wp2_with fail
         have ho:Only wr.heap.size weL32 ((((((weL32.setCell ⟨wr.heap.size,1,none⟩ (.int .i64 xeL32.1.1.1)).setCell ⟨wr.heap.size,2,none⟩ (.int .i64 xeL32.1.1.2)).setCell ⟨wr.heap.size,3,none⟩ (.int .i64 xeL32.1.2)).setCell ⟨wr.heap.size,4,none⟩ (.int .i64 xeL32.2.1.1)).setCell ⟨wr.heap.size,5,none⟩ (.int .i64 xeL32.2.1.2)).setCell ⟨wr.heap.size,6,none⟩ (.int .i64 xeL32.2.2)):=(((((((Only.refl wr.heap.size weL32).set_ 1 (.int .i64 xeL32.1.1.1)).set_ 2 (.int .i64 xeL32.1.1.2)).set_ 3 (.int .i64 xeL32.1.2)).set_ 4 (.int .i64 xeL32.2.1.1)).set_ 5 (.int .i64 xeL32.2.1.2)).set_ 6 (.int .i64 xeL32.2.2))
         have Kx:Blk ((((((weL32.setCell ⟨wr.heap.size,1,none⟩ (.int .i64 xeL32.1.1.1)).setCell ⟨wr.heap.size,2,none⟩ (.int .i64 xeL32.1.1.2)).setCell ⟨wr.heap.size,3,none⟩ (.int .i64 xeL32.1.2)).setCell ⟨wr.heap.size,4,none⟩ (.int .i64 xeL32.2.1.1)).setCell ⟨wr.heap.size,5,none⟩ (.int .i64 xeL32.2.1.2)).setCell ⟨wr.heap.size,6,none⟩ (.int .i64 xeL32.2.2)) wr.heap.size 109 #[.int .i64 xeL31,.int .i64 xeL32.1.1.1,.int .i64 xeL32.1.1.2,.int .i64 xeL32.1.2,.int .i64 xeL32.2.1.1,.int .i64 xeL32.2.1.2,.int .i64 xeL32.2.2,.bool false,.bool false,.bool false,.int .u8 0,.int .i64 0,.int .i64 0]:=((((((KeL32.out.set_ 1 (.int .i64 xeL32.1.1.1)).set_ 2 (.int .i64 xeL32.1.1.2)).set_ 3 (.int .i64 xeL32.1.2)).set_ 4 (.int .i64 xeL32.2.1.1)).set_ 5 (.int .i64 xeL32.2.1.2)).set_ 6 (.int .i64 xeL32.2.2))
         have KSrL3x:=Lib.hid (ho.blk KSrL3_eL32.out (by omega))
         have KRrL3x:=Lib.hid (ho.blk KRrL3_eL32.out (by omega))
         have HAeL32:=Lib.hid (RMid.lay (T:=109) HAeL31.out HMSeL32.out.2 hltrL3 keepN_flat keepN_flat (Nat.le_refl _) KeL32.out ho)
         have HSeL32:=Lib.hid (RS.only HMSeL32.out.1 ho (by omega) (by omega))
         have KxeL32:=Lib.hid Kx
         have KSrL3_eL32':=Lib.hid KSrL3x.out
         have KRrL3_eL32':=Lib.hid KRrL3x.out
         clear ho Kx HMSeL32 KeL32 c0 z0 c1 z1 c2 z2 c3 z3 c4 z4 c5 z5 KSrL3x KSrL3_eL32 KRrL3x KRrL3_eL32
         have KSrL3_eL32:=Lib.hid KSrL3_eL32'.out
         clear KSrL3_eL32'
         have KRrL3_eL32:=Lib.hid KRrL3_eL32'.out
         clear KRrL3_eL32'
         generalize ((((((weL32.setCell ⟨wr.heap.size,1,none⟩ (.int .i64 xeL32.1.1.1)).setCell ⟨wr.heap.size,2,none⟩ (.int .i64 xeL32.1.1.2)).setCell ⟨wr.heap.size,3,none⟩ (.int .i64 xeL32.1.2)).setCell ⟨wr.heap.size,4,none⟩ (.int .i64 xeL32.2.1.1)).setCell ⟨wr.heap.size,5,none⟩ (.int .i64 xeL32.2.1.2)).setCell ⟨wr.heap.size,6,none⟩ (.int .i64 xeL32.2.2))=veL32 at *
         refine (rftruths B gp X t c keL32 odeL32 veL32 HSeL32.out).mono ?_
         rintro e weL33 hh
         obtain ⟨keL33,odeL33,xeL33,rfl,hS,hM⟩:=hh
         simp only [aPk,boxL,spanL,n3L,t3L,numL,truthL,List.append_eq,List.cons_append,List.nil_append]
         have KeL33:=Lib.hid (hM.fr.blk KxeL32.out (by omega) (by omega))
         have KSrL3_eL33:=Lib.hid (hM.fr.blk KSrL3_eL32.out (by omega) (by omega))
         have KRrL3_eL33:=Lib.hid (hM.fr.blk KRrL3_eL32.out (by omega) (by omega))
         have HMSeL33:=Lib.hid (And.intro hS hM)
         clear hS hM
         have c0:weL33.cell? ⟨wr.heap.size,7,none⟩=some (.bool false):=KeL33.out.cell 7
         have z0:=KeL33.out.frozen 7
         have c1:weL33.cell? ⟨wr.heap.size,8,none⟩=some (.bool false):=KeL33.out.cell 8
         have z1:=KeL33.out.frozen 8
         have c2:weL33.cell? ⟨wr.heap.size,9,none⟩=some (.bool false):=KeL33.out.cell 9
         have z2:=KeL33.out.frozen 9
         go_wp2_with fail
         have ho:Only wr.heap.size weL33 (((weL33.setCell ⟨wr.heap.size,7,none⟩ (.bool xeL33.1.1)).setCell ⟨wr.heap.size,8,none⟩ (.bool xeL33.1.2)).setCell ⟨wr.heap.size,9,none⟩ (.bool xeL33.2)):=((((Only.refl wr.heap.size weL33).set_ 7 (.bool xeL33.1.1)).set_ 8 (.bool xeL33.1.2)).set_ 9 (.bool xeL33.2))
         have Kx:Blk (((weL33.setCell ⟨wr.heap.size,7,none⟩ (.bool xeL33.1.1)).setCell ⟨wr.heap.size,8,none⟩ (.bool xeL33.1.2)).setCell ⟨wr.heap.size,9,none⟩ (.bool xeL33.2)) wr.heap.size 109 #[.int .i64 xeL31,.int .i64 xeL32.1.1.1,.int .i64 xeL32.1.1.2,.int .i64 xeL32.1.2,.int .i64 xeL32.2.1.1,.int .i64 xeL32.2.1.2,.int .i64 xeL32.2.2,.bool xeL33.1.1,.bool xeL33.1.2,.bool xeL33.2,.int .u8 0,.int .i64 0,.int .i64 0]:=(((KeL33.out.set_ 7 (.bool xeL33.1.1)).set_ 8 (.bool xeL33.1.2)).set_ 9 (.bool xeL33.2))
         have KSrL3x:=Lib.hid (ho.blk KSrL3_eL33.out (by omega))
         have KRrL3x:=Lib.hid (ho.blk KRrL3_eL33.out (by omega))
         have HAeL33:=Lib.hid (RMid.lay (T:=109) HAeL32.out HMSeL33.out.2 hltrL3 (keepN_pair keepN_flat keepN_flat) keepN_flat (Nat.le_refl _) KeL33.out ho)
         have HSeL33:=Lib.hid (RS.only HMSeL33.out.1 ho (by omega) (by omega))
         have KxeL33:=Lib.hid Kx
         have KSrL3_eL33':=Lib.hid KSrL3x.out
         have KRrL3_eL33':=Lib.hid KRrL3x.out
         clear ho Kx HMSeL33 KeL33 c0 z0 c1 z1 c2 z2 KSrL3x KSrL3_eL33 KRrL3x KRrL3_eL33
         have KSrL3_eL33:=Lib.hid KSrL3_eL33'.out
         clear KSrL3_eL33'
         have KRrL3_eL33:=Lib.hid KRrL3_eL33'.out
         clear KRrL3_eL33'
         generalize (((weL33.setCell ⟨wr.heap.size,7,none⟩ (.bool xeL33.1.1)).setCell ⟨wr.heap.size,8,none⟩ (.bool xeL33.1.2)).setCell ⟨wr.heap.size,9,none⟩ (.bool xeL33.2))=veL33 at *
         have HB_eL33:=Lib.hid (RMid.assoc HAeL33.out)
         refine (rfbyte B gp X t c keL33 odeL33 veL33 HSeL33.out).mono ?_
         rintro e weL34 hh
         obtain ⟨keL34,odeL34,xeL34,rfl,_,_,hS,hM,_,_⟩:=hh
         have KeL34:=Lib.hid (hM.fr.blk KxeL33.out (by omega) (by omega))
         have KSrL3_eL34:=Lib.hid (hM.fr.blk KSrL3_eL33.out (by omega) (by omega))
         have KRrL3_eL34:=Lib.hid (hM.fr.blk KRrL3_eL33.out (by omega) (by omega))
         have HMSeL34:=Lib.hid (And.intro hS hM)
         clear hS hM
         have c0:weL34.cell? ⟨wr.heap.size,10,none⟩=some (.int .u8 0):=KeL34.out.cell 10
         have z0:=KeL34.out.frozen 10
         go_wp2_with fail
         have ho:Only wr.heap.size weL34 (weL34.setCell ⟨wr.heap.size,10,none⟩ (.int .u8 xeL34)):=((Only.refl wr.heap.size weL34).set_ 10 (.int .u8 xeL34))
         have Kx:Blk (weL34.setCell ⟨wr.heap.size,10,none⟩ (.int .u8 xeL34)) wr.heap.size 109 #[.int .i64 xeL31,.int .i64 xeL32.1.1.1,.int .i64 xeL32.1.1.2,.int .i64 xeL32.1.2,.int .i64 xeL32.2.1.1,.int .i64 xeL32.2.1.2,.int .i64 xeL32.2.2,.bool xeL33.1.1,.bool xeL33.1.2,.bool xeL33.2,.int .u8 xeL34,.int .i64 0,.int .i64 0]:=(KeL34.out.set_ 10 (.int .u8 xeL34))
         have KSrL3x:=Lib.hid (ho.blk KSrL3_eL34.out (by omega))
         have KRrL3x:=Lib.hid (ho.blk KRrL3_eL34.out (by omega))
         have HAeL34:=Lib.hid (RMid.lay (T:=109) HB_eL33.out HMSeL34.out.2 hltrL3 (keepN_pair keepN_flat (keepN_pair keepN_flat keepN_flat)) keepN_flat (Nat.le_refl _) KeL34.out ho)
         have HSeL34:=Lib.hid (RS.only HMSeL34.out.1 ho (by omega) (by omega))
         have KxeL34:=Lib.hid Kx
         have KSrL3_eL34':=Lib.hid KSrL3x.out
         have KRrL3_eL34':=Lib.hid KRrL3x.out
         clear ho Kx HMSeL34 KeL34 c0 z0 KSrL3x KSrL3_eL34 KRrL3x KRrL3_eL34
         have KSrL3_eL34:=Lib.hid KSrL3_eL34'.out
         clear KSrL3_eL34'
         have KRrL3_eL34:=Lib.hid KRrL3_eL34'.out
         clear KRrL3_eL34'
         generalize (weL34.setCell ⟨wr.heap.size,10,none⟩ (.int .u8 xeL34))=veL34 at *
         refine (rfnum B gp X t c keL34 odeL34 veL34 HSeL34.out).mono ?_
         rintro e weL35 hh
         obtain ⟨keL35,odeL35,xeL35,rfl,hS,hM⟩:=hh
         have KeL35:=Lib.hid (hM.fr.blk KxeL34.out (by omega) (by omega))
         have KSrL3_eL35:=Lib.hid (hM.fr.blk KSrL3_eL34.out (by omega) (by omega))
         have KRrL3_eL35:=Lib.hid (hM.fr.blk KRrL3_eL34.out (by omega) (by omega))
         have HMSeL35:=Lib.hid (And.intro hS hM)
         clear hS hM
         have c0:weL35.cell? ⟨wr.heap.size,11,none⟩=some (.int .i64 0):=KeL35.out.cell 11
         have z0:=KeL35.out.frozen 11
         go_wp2_with fail
         have ho:Only wr.heap.size weL35 (weL35.setCell ⟨wr.heap.size,11,none⟩ (.int .i64 xeL35)):=((Only.refl wr.heap.size weL35).set_ 11 (.int .i64 xeL35))
         have Kx:Blk (weL35.setCell ⟨wr.heap.size,11,none⟩ (.int .i64 xeL35)) wr.heap.size 109 #[.int .i64 xeL31,.int .i64 xeL32.1.1.1,.int .i64 xeL32.1.1.2,.int .i64 xeL32.1.2,.int .i64 xeL32.2.1.1,.int .i64 xeL32.2.1.2,.int .i64 xeL32.2.2,.bool xeL33.1.1,.bool xeL33.1.2,.bool xeL33.2,.int .u8 xeL34,.int .i64 xeL35,.int .i64 0]:=(KeL35.out.set_ 11 (.int .i64 xeL35))
         have KSrL3x:=Lib.hid (ho.blk KSrL3_eL35.out (by omega))
         have KRrL3x:=Lib.hid (ho.blk KRrL3_eL35.out (by omega))
         have HAeL35:=Lib.hid (RMid.lay (T:=109) HAeL34.out HMSeL35.out.2 hltrL3 (keepN_pair (keepN_pair keepN_flat (keepN_pair keepN_flat keepN_flat)) keepN_flat) keepN_flat (Nat.le_refl _) KeL35.out ho)
         have HSeL35:=Lib.hid (RS.only HMSeL35.out.1 ho (by omega) (by omega))
         have KxeL35:=Lib.hid Kx
         have KSrL3_eL35':=Lib.hid KSrL3x.out
         have KRrL3_eL35':=Lib.hid KRrL3x.out
         clear ho Kx HMSeL35 KeL35 c0 z0 KSrL3x KSrL3_eL35 KRrL3x KRrL3_eL35
         have KSrL3_eL35:=Lib.hid KSrL3_eL35'.out
         clear KSrL3_eL35'
         have KRrL3_eL35:=Lib.hid KRrL3_eL35'.out
         clear KRrL3_eL35'
         generalize (weL35.setCell ⟨wr.heap.size,11,none⟩ (.int .i64 xeL35))=veL35 at *
         refine (rfnum B gp X t c keL35 odeL35 veL35 HSeL35.out).mono ?_
         rintro e weL36 hh
         obtain ⟨keL36,odeL36,xeL36,rfl,hS,hM⟩:=hh
         have KeL36:=Lib.hid (hM.fr.blk KxeL35.out (by omega) (by omega))
         have KSrL3_eL36:=Lib.hid (hM.fr.blk KSrL3_eL35.out (by omega) (by omega))
         have KRrL3_eL36:=Lib.hid (hM.fr.blk KRrL3_eL35.out (by omega) (by omega))
         have HMSeL36:=Lib.hid (And.intro hS hM)
         clear hS hM
         have c0:weL36.cell? ⟨wr.heap.size,12,none⟩=some (.int .i64 0):=KeL36.out.cell 12
         have z0:=KeL36.out.frozen 12
         go_upto_region 37 with fail
         have ho:Only wr.heap.size weL36 (weL36.setCell ⟨wr.heap.size,12,none⟩ (.int .i64 xeL36)):=((Only.refl wr.heap.size weL36).set_ 12 (.int .i64 xeL36))
         have Kx:Blk (weL36.setCell ⟨wr.heap.size,12,none⟩ (.int .i64 xeL36)) wr.heap.size 109 #[.int .i64 xeL31,.int .i64 xeL32.1.1.1,.int .i64 xeL32.1.1.2,.int .i64 xeL32.1.2,.int .i64 xeL32.2.1.1,.int .i64 xeL32.2.1.2,.int .i64 xeL32.2.2,.bool xeL33.1.1,.bool xeL33.1.2,.bool xeL33.2,.int .u8 xeL34,.int .i64 xeL35,.int .i64 xeL36]:=(KeL36.out.set_ 12 (.int .i64 xeL36))
         have KSrL3x:=Lib.hid (ho.blk KSrL3_eL36.out (by omega))
         have KRrL3x:=Lib.hid (ho.blk KRrL3_eL36.out (by omega))
         have HAeL36:=Lib.hid (RMid.lay (T:=109) HAeL35.out HMSeL36.out.2 hltrL3 (keepN_pair (keepN_pair (keepN_pair keepN_flat (keepN_pair keepN_flat keepN_flat)) keepN_flat) keepN_flat) keepN_flat (Nat.le_refl _) KeL36.out ho)
         have HSeL36:=Lib.hid (RS.only HMSeL36.out.1 ho (by omega) (by omega))
         have KxeL36:=Lib.hid Kx
         have KSrL3_eL36':=Lib.hid KSrL3x.out
         have KRrL3_eL36':=Lib.hid KRrL3x.out
         clear ho Kx HMSeL36 KeL36 c0 z0 KSrL3x KSrL3_eL36 KRrL3x KRrL3_eL36
         have KSrL3_eL36:=Lib.hid KSrL3_eL36'.out
         clear KSrL3_eL36'
         have KRrL3_eL36:=Lib.hid KRrL3_eL36'.out
         clear KRrL3_eL36'
         generalize (weL36.setCell ⟨wr.heap.size,12,none⟩ (.int .i64 xeL36))=veL36 at *
         have HE:=Lib.hid (show RMid partR partC.dec gp gp (t.drop k2L3) false wr veL36 (pOf ((((xeL31,(xeL32,xeL33)),xeL34),xeL35),xeL36)) [.int .i64 xeL31,.int .i64 xeL32.1.1.1,.int .i64 xeL32.1.1.2,.int .i64 xeL32.1.2,.int .i64 xeL32.2.1.1,.int .i64 xeL32.2.1.2,.int .i64 xeL32.2.2,.bool xeL33.1.1,.bool xeL33.1.2,.bool xeL33.2,.int .u8 xeL34,.int .i64 xeL35,.int .i64 xeL36] (t.drop keL36) odeL36 from by
          have h:=RMid.iso (f:=pOf) (g:=ofP) (fun _=>rfl) HAeL36.out
          exact ⟨rfl,h.fr,h.le,h.ok,h.bad⟩)
         have R9:=Lib.hid (show veL36.rangeAt wr.heap.size 0 [.int .i64 xeL31,.int .i64 xeL32.1.1.1,.int .i64 xeL32.1.1.2,.int .i64 xeL32.1.2,.int .i64 xeL32.2.1.1,.int .i64 xeL32.2.1.2,.int .i64 xeL32.2.2,.bool xeL33.1.1,.bool xeL33.1.2,.bool xeL33.2,.int .u8 xeL34,.int .i64 xeL35,.int .i64 xeL36] from range_part (n:=13) KxeL36.out rfl)
         have f0:veL36.cell? ⟨w.heap.size+1,11,none⟩=some (.slice VL3 j cvL3):=KSrL3_eL36.out.cell 11
         have HO:=Lib.hid (own_up' (H2L3.out.2.2.keep (w2:=veL36) (fun i hi hl=>HE.out.fr.block i hl (by omega) (by omega)) HE.out.fr.size).own (below_alloc (o:=.cells (List.toArray [.int .i64 xeL31,.int .i64 xeL32.1.1.1,.int .i64 xeL32.1.1.2,.int .i64 xeL32.1.2,.int .i64 xeL32.2.1.1,.int .i64 xeL32.2.1.2,.int .i64 xeL32.2.2,.bool xeL33.1.1,.bool xeL33.1.2,.bool xeL33.2,.int .u8 xeL34,.int .i64 xeL35,.int .i64 xeL36]) 109) (Below.refl _ veL36)))
         obtain ⟨i0,hi0,hz0,hz1,hz2⟩:=info_parts rlistP_info
         have HI0:=Lib.hid (And.intro hi0 (And.intro hz0 (And.intro hz1 hz2)))
         clear hi0 hz0 hz1 hz2
         have hbase:mL3.heap.size≤(veL36.alloc (.cells (List.toArray [.int .i64 xeL31,.int .i64 xeL32.1.1.1,.int .i64 xeL32.1.1.2,.int .i64 xeL32.1.2,.int .i64 xeL32.2.1.1,.int .i64 xeL32.2.1.2,.int .i64 xeL32.2.2,.bool xeL33.1.1,.bool xeL33.1.2,.bool xeL33.2,.int .u8 xeL34,.int .i64 xeL35,.int .i64 xeL36]) 109)).heap.size:=by have h2:=HE.out.fr.size;simp;omega
         go_wp2_with (first | (refine wpList_load_mid rfl 109 _ rfl _ _ rfl _ _ R9.out Try.underlying109 rfl (by kernel_rfl) ?_) | (at_builtin;refine wpList_append_any _ rfl (.tmp 137) (.tmp 139) _ rfl mL3.heap.size 109 i0 (.agg Sq.zzP) 13 88 Try.underlying46 HI0.out.1 HI0.out.2.1 HI0.out.2.2.1 HI0.out.2.2.2 rfl (by decide) _ _ _ rfl HO.out _ (some ⟨veL36.heap.size,0,none⟩) 1 1 [.int .i64 xeL31,.int .i64 xeL32.1.1.1,.int .i64 xeL32.1.1.2,.int .i64 xeL32.1.2,.int .i64 xeL32.2.1.1,.int .i64 xeL32.2.1.2,.int .i64 xeL32.2.2,.bool xeL33.1.1,.bool xeL33.1.2,.bool xeL33.2,.int .u8 xeL34,.int .i64 xeL35,.int .i64 xeL36] rfl (reads_box veL36 109 [.int .i64 xeL31,.int .i64 xeL32.1.1.1,.int .i64 xeL32.1.1.2,.int .i64 xeL32.1.2,.int .i64 xeL32.2.1.1,.int .i64 xeL32.2.1.2,.int .i64 xeL32.2.2,.bool xeL33.1.1,.bool xeL33.1.2,.bool xeL33.2,.int .u8 xeL34,.int .i64 xeL35,.int .i64 xeL36]) (fun u hu=>by simp only [List.mem_cons,List.not_mem_nil,or_false] at hu;rcases hu with rfl | rfl | rfl | rfl | rfl | rfl | rfl | rfl | rfl | rfl | rfl | rfl | rfl <;> rfl) (by simp only [maxLen];omega) (by omega) hbase ?_;intro v7 w7 hown hg hat;obtain ⟨V7,c7,rfl⟩:=own_form2 hown;have H7:=Lib.hid (And.intro hown hg);have kb:=(KSrL3_eL36.out.alloc (.cells (List.toArray [.int .i64 xeL31,.int .i64 xeL32.1.1.1,.int .i64 xeL32.1.1.2,.int .i64 xeL32.1.2,.int .i64 xeL32.2.1.1,.int .i64 xeL32.2.1.2,.int .i64 xeL32.2.2,.bool xeL33.1.1,.bool xeL33.1.2,.bool xeL33.2,.int .u8 xeL34,.int .i64 xeL35,.int .i64 xeL36]) 109)).grown hg (fun e1=>by have:=(HO.out.lt _ e1.symm).1;omega);have g0:w7.cell? ⟨w.heap.size+1,11,none⟩=some (.slice VL3 j cvL3):=kb.cell 11;have g1:=kb.frozen 11;clear hown hg hat kb))
         go_roundw
         case rel=>exact ⟨j+1,by omega,by congr 1;omega,SLt.push H2L3.out.2.1 H2L3.out.2.2 keepN_flat (by omega) hFwL3 HE.out HSeL36.out KSrL3_eL36.out KRrL3_eL36.out (by omega) (by omega) (by omega) H7.out.1 H7.out.2 (fun _ _=>rfl) hsvL3⟩
         case measure=>simp [intOf];omega
        ·have HXNL3:=Lib.hid hx
         go_upto_region 28 with fail
         go_cut [113] from 105 to 141 (fun s9 wx=>s9 = .bool false∧wx=wr)
         case first =>
          by_cases hjN:j < NL3
          ·obtain rfl:od2L3=true:=by
            cases od2L3 with
            | true=>rfl
            | false=>exact absurd ⟨hjN,rfl⟩ hx
           have hpos:(0:Int) < ((NL3 - j:Nat):Int):=by omega
           have p2:wr.cell? ⟨gp,2,none⟩=some (.bool true):=H2L3.out.1.blk.cell 2
           clear hx
           go_wp2_with fail
           go_meet
           exact ⟨rfl,rfl⟩
          ·have hz0:((NL3 - j:Nat):Int)=0:=by omega
           clear hx
           go_wp2_with fail
           go_meet
           exact ⟨rfl,rfl⟩
         case rest =>
          obtain ⟨rfl,e⟩:=hcut
          subst e
          clear hx
          have HDL3:=Lib.hid (RLt.done (n:=(NL3:Int)) (k:=0) (k1:=0) (fun e=>HML3.out.1.ok e) (fun e e0=>HML3.out.1.bad e e0) H2L3.out.2.2 (by omega) (fun e=>by
           have h1:=HXNL3.out
           have h2:¬ j < NL3:=fun h=>h1 ⟨h,e⟩
           omega))
          obtain rfl:j=lL3.length:=H2L3.out.2.2.len.symm
          have HAjL3:=Lib.hid (RMid.join (T:=49) HAjL2.out (keepN_pair (keepN_pair (keepN_pair (keepN_pair (keepN_pair (keepN_pair (keepN_pair (keepN_pair keepN_flat keepN_flat) keepN_flat) keepN_flat) keepN_flat) (keepN_lst (by decide) keepN_flat)) keepN_flat) keepN_flat) (keepN_lst (by decide) (keepN_job2 (by decide)))) (by omega) KSrL2.out hlt H2L3.out.2.1 ((listR partR 109).mono H2L3.out.2.2.at_ (by omega)) (Nat.le_trans H2L3.out.2.2.le HML3.out.1.le) HDL3.out)
          have HSjL3:=Lib.hid H2L3.out.1
          clear HXNL3 HDL3 H2L3 hj
          generalize wc=vL3 at *
          go_wp2_with fail
          refine (rfmany B gp X t c k2L3 od2L3 vL3 HSjL3.out).mono ?_
          rintro e mL4 hh
          obtain ⟨kL4,odL4,nL4,rfl,hS,hn0,hn1,hz,hM⟩:=hh
          obtain ⟨NL4,rfl⟩:=Int.eq_ofNat_of_zero_le hn0
          have HNL4:=Lib.hid (show NL4≤1000 by omega)
          have HML4:=Lib.hid (And.intro hM (And.intro hz hS))
          have KSL4:=Lib.hid (hM.fr.blk KSrL3.out (by omega) (by omega))
          have KRL4:=Lib.hid (hM.fr.blk KRrL3.out (by omega) (by omega))
          have hsvL4:vL3.heap.size≤mL4.heap.size:=hM.fr.size
          have hswL4:w.heap.size+1 < mL4.heap.size:=KSL4.out.lt
          clear hS hn0 hn1 hz hM
          go_wp2_with fail
          go_loopw [11,12] (fun nn q0 wr=>∃ (j:Nat),j≤NL4∧nn = .int .i64 ((NL4 - j:Nat):Int)∧Hid (SLt keepR keepC 112 B gp X t c w.heap.size (w.heap.size+1) Sq.zzS (fun a=>#[.int .i64 x1.1.1,.int .i64 x1.1.2,.int .i64 x1.2,.int .i64 x2,.int .i64 x3,.int .i64 x4,.int .i64 x5,.slice VL1 lL1.length cvL1,.int .i64 x6,.int .i64 x7,.slice VL2 lL2.length cvL2,.slice VL3 lL3.length cvL3,a,.slice none 0 0,.slice none 0 0,.slice none 0 0]) vL3 mL4.heap.size kL4 odL4 j wr))
           (fun nn q0 _=>(intOf nn).toNat)
          case atStart=>exact ⟨0,Nat.zero_le _,rfl,⟨[],none,0,[],kL4,odL4,KSL4.out,KRL4.out,HML4.out.2.2,(HML4.out.1.fr).weak,RLt.nil _ _ _ _ _ _ _,Nat.le_refl _⟩⟩
          case round =>
           obtain ⟨j,hj,rfl,hL⟩:=hrel
           obtain ⟨lL4,VL4,cvL4,xsL4,k2L4,od2L4,hKs,hKr,hS2,hF2,hR2,hFwL4⟩:=hL.out
           have KSrL4:=Lib.hid (show Blk wr (w.heap.size+1) 49 #[.int .i64 x1.1.1,.int .i64 x1.1.2,.int .i64 x1.2,.int .i64 x2,.int .i64 x3,.int .i64 x4,.int .i64 x5,.slice VL1 lL1.length cvL1,.int .i64 x6,.int .i64 x7,.slice VL2 lL2.length cvL2,.slice VL3 lL3.length cvL3,.slice VL4 j cvL4,.slice none 0 0,.slice none 0 0,.slice none 0 0] from hKs)
           have KRrL4:=Lib.hid hKr
           have H2L4:=Lib.hid (And.intro hS2 (And.intro hF2 hR2))
           clear hKs hKr hS2 hF2 hR2 hL
           by_cases hx:j < NL4∧od2L4=false
           ·obtain ⟨hjN,rfl⟩:=hx
            have hpos:(0:Int) < ((NL4 - j:Nat):Int):=by omega
            have hN9:((NL4 - j:Nat):Int)≤1000:=by have:=HNL4.out;omega
            have hj9:j≤1000:=by have:=HNL4.out;omega
            have p2:wr.cell? ⟨gp,2,none⟩=some (.bool false):=H2L4.out.1.blk.cell 2
            have hgrL4:w.heap.size+1 < wr.heap.size:=KSrL4.out.lt
            have hltrL4:gp < wr.heap.size:=by omega
            go_upto_region 42 with fail
            have KE0L4:=Lib.hid (Blk.new wr 112 Sq.zzE)
            have KSqL4:=Lib.hid (KSrL4.out.alloc (.cells Sq.zzE 112))
            have KRqL4:=Lib.hid (KRrL4.out.alloc (.cells Sq.zzE 112))
            have HSqL4:=Lib.hid (H2L4.out.1.alloc (.cells Sq.zzE 112))
            have HBeL4:=Lib.hid (below_alloc (o:=.cells Sq.zzE 112) (Below.refl wr.heap.size wr))
            have hseL4:wr.heap.size < (wr.alloc (.cells Sq.zzE 112)).heap.size:=by simp
            generalize wr.alloc (.cells Sq.zzE 112)=uL4 at *
            go_wp2_with fail
            refine (rfnum B gp X t c k2L4 false uL4 HSqL4.out).mono ?_
            rintro e weL41 hh
            obtain ⟨keL41,odeL41,xeL41,rfl,hS,hM⟩:=hh
            have KeL41:=Lib.hid (hM.fr.blk KE0L4.out (by omega) (by omega))
            have KSrL4_eL41:=Lib.hid (hM.fr.blk KSqL4.out (by omega) (by omega))
            have KRrL4_eL41:=Lib.hid (hM.fr.blk KRqL4.out (by omega) (by omega))
            have HMSeL41:=Lib.hid (And.intro hS hM)
            clear hS hM
            have c0:weL41.cell? ⟨wr.heap.size,0,none⟩=some (.int .i64 0):=KeL41.out.cell 0
            have z0:=KeL41.out.frozen 0
            go_wp2_with fail
            have ho:Only wr.heap.size weL41 (weL41.setCell ⟨wr.heap.size,0,none⟩ (.int .i64 xeL41)):=((Only.refl wr.heap.size weL41).set_ 0 (.int .i64 xeL41))
            have Kx:Blk (weL41.setCell ⟨wr.heap.size,0,none⟩ (.int .i64 xeL41)) wr.heap.size 112 #[.int .i64 xeL41,.int .i64 0,.int .i64 0,.int .i64 0,.int .i64 0,.int .i64 0,.int .i64 0,.int .i64 0,.int .i64 0]:=(KeL41.out.set_ 0 (.int .i64 xeL41))
            have KSrL4x:=Lib.hid (ho.blk KSrL4_eL41.out (by omega))
            have KRrL4x:=Lib.hid (ho.blk KRrL4_eL41.out (by omega))
            have HAeL41:=Lib.hid (RMid.over (RMid.ahead HMSeL41.out.2 HBeL4.out) (T:=112) keepN_flat (Nat.le_refl _) KeL41.out ho)
            have HSeL41:=Lib.hid (RS.only HMSeL41.out.1 ho (by omega) (by omega))
            have KxeL41:=Lib.hid Kx
            have KSrL4_eL41':=Lib.hid KSrL4x.out
            have KRrL4_eL41':=Lib.hid KRrL4x.out
            clear ho Kx HMSeL41 KeL41 c0 z0 KSrL4x KSrL4_eL41 KRrL4x KRrL4_eL41
            have KSrL4_eL41:=Lib.hid KSrL4_eL41'.out
            clear KSrL4_eL41'
            have KRrL4_eL41:=Lib.hid KRrL4_eL41'.out
            clear KRrL4_eL41'
            generalize (weL41.setCell ⟨wr.heap.size,0,none⟩ (.int .i64 xeL41))=veL41 at *
            refine (rfbox B gp X t c keL41 odeL41 veL41 HSeL41.out).mono ?_
            rintro e weL42 hh
            obtain ⟨keL42,odeL42,xeL42,rfl,hS,hM⟩:=hh
            simp only [aPk,boxL,spanL,n3L,t3L,numL,truthL,List.append_eq,List.cons_append,List.nil_append]
            have KeL42:=Lib.hid (hM.fr.blk KxeL41.out (by omega) (by omega))
            have KSrL4_eL42:=Lib.hid (hM.fr.blk KSrL4_eL41.out (by omega) (by omega))
            have KRrL4_eL42:=Lib.hid (hM.fr.blk KRrL4_eL41.out (by omega) (by omega))
            have HMSeL42:=Lib.hid (And.intro hS hM)
            clear hS hM
            have c0:weL42.cell? ⟨wr.heap.size,1,none⟩=some (.int .i64 0):=KeL42.out.cell 1
            have z0:=KeL42.out.frozen 1
            have c1:weL42.cell? ⟨wr.heap.size,2,none⟩=some (.int .i64 0):=KeL42.out.cell 2
            have z1:=KeL42.out.frozen 2
            have c2:weL42.cell? ⟨wr.heap.size,3,none⟩=some (.int .i64 0):=KeL42.out.cell 3
            have z2:=KeL42.out.frozen 3
            have c3:weL42.cell? ⟨wr.heap.size,4,none⟩=some (.int .i64 0):=KeL42.out.cell 4
            have z3:=KeL42.out.frozen 4
            have c4:weL42.cell? ⟨wr.heap.size,5,none⟩=some (.int .i64 0):=KeL42.out.cell 5
            have z4:=KeL42.out.frozen 5
            have c5:weL42.cell? ⟨wr.heap.size,6,none⟩=some (.int .i64 0):=KeL42.out.cell 6
            have z5:=KeL42.out.frozen 6
            go_wp2_with fail
            have ho:Only wr.heap.size weL42 ((((((weL42.setCell ⟨wr.heap.size,1,none⟩ (.int .i64 xeL42.1.1.1)).setCell ⟨wr.heap.size,2,none⟩ (.int .i64 xeL42.1.1.2)).setCell ⟨wr.heap.size,3,none⟩ (.int .i64 xeL42.1.2)).setCell ⟨wr.heap.size,4,none⟩ (.int .i64 xeL42.2.1.1)).setCell ⟨wr.heap.size,5,none⟩ (.int .i64 xeL42.2.1.2)).setCell ⟨wr.heap.size,6,none⟩ (.int .i64 xeL42.2.2)):=(((((((Only.refl wr.heap.size weL42).set_ 1 (.int .i64 xeL42.1.1.1)).set_ 2 (.int .i64 xeL42.1.1.2)).set_ 3 (.int .i64 xeL42.1.2)).set_ 4 (.int .i64 xeL42.2.1.1)).set_ 5 (.int .i64 xeL42.2.1.2)).set_ 6 (.int .i64 xeL42.2.2))
            have Kx:Blk ((((((weL42.setCell ⟨wr.heap.size,1,none⟩ (.int .i64 xeL42.1.1.1)).setCell ⟨wr.heap.size,2,none⟩ (.int .i64 xeL42.1.1.2)).setCell ⟨wr.heap.size,3,none⟩ (.int .i64 xeL42.1.2)).setCell ⟨wr.heap.size,4,none⟩ (.int .i64 xeL42.2.1.1)).setCell ⟨wr.heap.size,5,none⟩ (.int .i64 xeL42.2.1.2)).setCell ⟨wr.heap.size,6,none⟩ (.int .i64 xeL42.2.2)) wr.heap.size 112 #[.int .i64 xeL41,.int .i64 xeL42.1.1.1,.int .i64 xeL42.1.1.2,.int .i64 xeL42.1.2,.int .i64 xeL42.2.1.1,.int .i64 xeL42.2.1.2,.int .i64 xeL42.2.2,.int .i64 0,.int .i64 0]:=((((((KeL42.out.set_ 1 (.int .i64 xeL42.1.1.1)).set_ 2 (.int .i64 xeL42.1.1.2)).set_ 3 (.int .i64 xeL42.1.2)).set_ 4 (.int .i64 xeL42.2.1.1)).set_ 5 (.int .i64 xeL42.2.1.2)).set_ 6 (.int .i64 xeL42.2.2))
            have KSrL4x:=Lib.hid (ho.blk KSrL4_eL42.out (by omega))
            have KRrL4x:=Lib.hid (ho.blk KRrL4_eL42.out (by omega))
            have HAeL42:=Lib.hid (RMid.lay (T:=112) HAeL41.out HMSeL42.out.2 hltrL4 keepN_flat keepN_flat (Nat.le_refl _) KeL42.out ho)
            have HSeL42:=Lib.hid (RS.only HMSeL42.out.1 ho (by omega) (by omega))
            have KxeL42:=Lib.hid Kx
            have KSrL4_eL42':=Lib.hid KSrL4x.out
            have KRrL4_eL42':=Lib.hid KRrL4x.out
            clear ho Kx HMSeL42 KeL42 c0 z0 c1 z1 c2 z2 c3 z3 c4 z4 c5 z5 KSrL4x KSrL4_eL42 KRrL4x KRrL4_eL42
            have KSrL4_eL42:=Lib.hid KSrL4_eL42'.out
            clear KSrL4_eL42'
            have KRrL4_eL42:=Lib.hid KRrL4_eL42'.out
            clear KRrL4_eL42'
            generalize ((((((weL42.setCell ⟨wr.heap.size,1,none⟩ (.int .i64 xeL42.1.1.1)).setCell ⟨wr.heap.size,2,none⟩ (.int .i64 xeL42.1.1.2)).setCell ⟨wr.heap.size,3,none⟩ (.int .i64 xeL42.1.2)).setCell ⟨wr.heap.size,4,none⟩ (.int .i64 xeL42.2.1.1)).setCell ⟨wr.heap.size,5,none⟩ (.int .i64 xeL42.2.1.2)).setCell ⟨wr.heap.size,6,none⟩ (.int .i64 xeL42.2.2))=veL42 at *
            refine (rfspan B gp X t c keL42 odeL42 veL42 HSeL42.out).mono ?_
            rintro e weL43 hh
            obtain ⟨keL43,odeL43,xeL43,rfl,hS,hM⟩:=hh
            simp only [aPk,boxL,spanL,n3L,t3L,numL,truthL,List.append_eq,List.cons_append,List.nil_append]
            have KeL43:=Lib.hid (hM.fr.blk KxeL42.out (by omega) (by omega))
            have KSrL4_eL43:=Lib.hid (hM.fr.blk KSrL4_eL42.out (by omega) (by omega))
            have KRrL4_eL43:=Lib.hid (hM.fr.blk KRrL4_eL42.out (by omega) (by omega))
            have HMSeL43:=Lib.hid (And.intro hS hM)
            clear hS hM
            have c0:weL43.cell? ⟨wr.heap.size,7,none⟩=some (.int .i64 0):=KeL43.out.cell 7
            have z0:=KeL43.out.frozen 7
            have c1:weL43.cell? ⟨wr.heap.size,8,none⟩=some (.int .i64 0):=KeL43.out.cell 8
            have z1:=KeL43.out.frozen 8
            go_upto_region 45 with fail
            have ho:Only wr.heap.size weL43 ((weL43.setCell ⟨wr.heap.size,7,none⟩ (.int .i64 xeL43.1)).setCell ⟨wr.heap.size,8,none⟩ (.int .i64 xeL43.2)):=(((Only.refl wr.heap.size weL43).set_ 7 (.int .i64 xeL43.1)).set_ 8 (.int .i64 xeL43.2))
            have Kx:Blk ((weL43.setCell ⟨wr.heap.size,7,none⟩ (.int .i64 xeL43.1)).setCell ⟨wr.heap.size,8,none⟩ (.int .i64 xeL43.2)) wr.heap.size 112 #[.int .i64 xeL41,.int .i64 xeL42.1.1.1,.int .i64 xeL42.1.1.2,.int .i64 xeL42.1.2,.int .i64 xeL42.2.1.1,.int .i64 xeL42.2.1.2,.int .i64 xeL42.2.2,.int .i64 xeL43.1,.int .i64 xeL43.2]:=((KeL43.out.set_ 7 (.int .i64 xeL43.1)).set_ 8 (.int .i64 xeL43.2))
            have KSrL4x:=Lib.hid (ho.blk KSrL4_eL43.out (by omega))
            have KRrL4x:=Lib.hid (ho.blk KRrL4_eL43.out (by omega))
            have HAeL43:=Lib.hid (RMid.lay (T:=112) HAeL42.out HMSeL43.out.2 hltrL4 (keepN_pair keepN_flat keepN_flat) keepN_flat (Nat.le_refl _) KeL43.out ho)
            have HSeL43:=Lib.hid (RS.only HMSeL43.out.1 ho (by omega) (by omega))
            have KxeL43:=Lib.hid Kx
            have KSrL4_eL43':=Lib.hid KSrL4x.out
            have KRrL4_eL43':=Lib.hid KRrL4x.out
            clear ho Kx HMSeL43 KeL43 c0 z0 c1 z1 KSrL4x KSrL4_eL43 KRrL4x KRrL4_eL43
            have KSrL4_eL43:=Lib.hid KSrL4_eL43'.out
            clear KSrL4_eL43'
            have KRrL4_eL43:=Lib.hid KRrL4_eL43'.out
            clear KRrL4_eL43'
            generalize ((weL43.setCell ⟨wr.heap.size,7,none⟩ (.int .i64 xeL43.1)).setCell ⟨wr.heap.size,8,none⟩ (.int .i64 xeL43.2))=veL43 at *
            have HE:=Lib.hid (show RMid keepR keepC.dec gp gp (t.drop k2L4) false wr veL43 (eOf ((xeL41,xeL42),xeL43)) [.int .i64 xeL41,.int .i64 xeL42.1.1.1,.int .i64 xeL42.1.1.2,.int .i64 xeL42.1.2,.int .i64 xeL42.2.1.1,.int .i64 xeL42.2.1.2,.int .i64 xeL42.2.2,.int .i64 xeL43.1,.int .i64 xeL43.2] (t.drop keL43) odeL43 from by
             have h:=RMid.iso (f:=eOf) (g:=ofE) (fun _=>rfl) HAeL43.out
             exact ⟨rfl,h.fr,h.le,h.ok,h.bad⟩)
            have R9:=Lib.hid (show veL43.rangeAt wr.heap.size 0 [.int .i64 xeL41,.int .i64 xeL42.1.1.1,.int .i64 xeL42.1.1.2,.int .i64 xeL42.1.2,.int .i64 xeL42.2.1.1,.int .i64 xeL42.2.1.2,.int .i64 xeL42.2.2,.int .i64 xeL43.1,.int .i64 xeL43.2] from range_part (n:=9) KxeL43.out rfl)
            have f0:veL43.cell? ⟨w.heap.size+1,12,none⟩=some (.slice VL4 j cvL4):=KSrL4_eL43.out.cell 12
            have HO:=Lib.hid (own_up' (H2L4.out.2.2.keep (w2:=veL43) (fun i hi hl=>HE.out.fr.block i hl (by omega) (by omega)) HE.out.fr.size).own (below_alloc (o:=.cells (List.toArray [.int .i64 xeL41,.int .i64 xeL42.1.1.1,.int .i64 xeL42.1.1.2,.int .i64 xeL42.1.2,.int .i64 xeL42.2.1.1,.int .i64 xeL42.2.1.2,.int .i64 xeL42.2.2,.int .i64 xeL43.1,.int .i64 xeL43.2]) 112) (Below.refl _ veL43)))
            obtain ⟨i0,hi0,hz0,hz1,hz2⟩:=info_parts rlistE_info
            have HI0:=Lib.hid (And.intro hi0 (And.intro hz0 (And.intro hz1 hz2)))
            clear hi0 hz0 hz1 hz2
            have hbase:mL4.heap.size≤(veL43.alloc (.cells (List.toArray [.int .i64 xeL41,.int .i64 xeL42.1.1.1,.int .i64 xeL42.1.1.2,.int .i64 xeL42.1.2,.int .i64 xeL42.2.1.1,.int .i64 xeL42.2.1.2,.int .i64 xeL42.2.2,.int .i64 xeL43.1,.int .i64 xeL43.2]) 112)).heap.size:=by have h2:=HE.out.fr.size;simp;omega
            go_wp2_with (first | (refine wpList_load_mid rfl 112 _ rfl _ _ rfl _ _ R9.out Try.underlying112 rfl (by kernel_rfl) ?_) | (at_builtin;refine wpList_append_any _ rfl (.tmp 165) (.tmp 167) _ rfl mL4.heap.size 112 i0 (.agg Sq.zzE) 9 72 Try.underlying47 HI0.out.1 HI0.out.2.1 HI0.out.2.2.1 HI0.out.2.2.2 rfl (by decide) _ _ _ rfl HO.out _ (some ⟨veL43.heap.size,0,none⟩) 1 1 [.int .i64 xeL41,.int .i64 xeL42.1.1.1,.int .i64 xeL42.1.1.2,.int .i64 xeL42.1.2,.int .i64 xeL42.2.1.1,.int .i64 xeL42.2.1.2,.int .i64 xeL42.2.2,.int .i64 xeL43.1,.int .i64 xeL43.2] rfl (reads_box veL43 112 [.int .i64 xeL41,.int .i64 xeL42.1.1.1,.int .i64 xeL42.1.1.2,.int .i64 xeL42.1.2,.int .i64 xeL42.2.1.1,.int .i64 xeL42.2.1.2,.int .i64 xeL42.2.2,.int .i64 xeL43.1,.int .i64 xeL43.2]) (fun u hu=>by simp only [List.mem_cons,List.not_mem_nil,or_false] at hu;rcases hu with rfl | rfl | rfl | rfl | rfl | rfl | rfl | rfl | rfl <;> rfl) (by simp only [maxLen];omega) (by omega) hbase ?_;intro v7 w7 hown hg hat;obtain ⟨V7,c7,rfl⟩:=own_form2 hown;have H7:=Lib.hid (And.intro hown hg);have kb:=(KSrL4_eL43.out.alloc (.cells (List.toArray [.int .i64 xeL41,.int .i64 xeL42.1.1.1,.int .i64 xeL42.1.1.2,.int .i64 xeL42.1.2,.int .i64 xeL42.2.1.1,.int .i64 xeL42.2.1.2,.int .i64 xeL42.2.2,.int .i64 xeL43.1,.int .i64 xeL43.2]) 112)).grown hg (fun e1=>by have:=(HO.out.lt _ e1.symm).1;omega);have g0:w7.cell? ⟨w.heap.size+1,12,none⟩=some (.slice VL4 j cvL4):=kb.cell 12;have g1:=kb.frozen 12;clear hown hg hat kb))
            go_roundw
            case rel=>exact ⟨j+1,by omega,by congr 1;omega,SLt.push H2L4.out.2.1 H2L4.out.2.2 keepN_flat (by omega) hFwL4 HE.out HSeL43.out KSrL4_eL43.out KRrL4_eL43.out (by omega) (by omega) (by omega) H7.out.1 H7.out.2 (fun _ _=>rfl) hsvL4⟩
            case measure=>simp [intOf];omega
           ·have HXNL4:=Lib.hid hx
            go_upto_region 39 with fail
            go_cut [152] from 144 to 169 (fun s9 wx=>s9 = .bool false∧wx=wr)
            case first =>
             by_cases hjN:j < NL4
             ·obtain rfl:od2L4=true:=by
               cases od2L4 with
               | true=>rfl
               | false=>exact absurd ⟨hjN,rfl⟩ hx
              have hpos:(0:Int) < ((NL4 - j:Nat):Int):=by omega
              have p2:wr.cell? ⟨gp,2,none⟩=some (.bool true):=H2L4.out.1.blk.cell 2
              clear hx
              go_wp2_with fail
              go_meet
              exact ⟨rfl,rfl⟩
             ·have hz0:((NL4 - j:Nat):Int)=0:=by omega
              clear hx
              go_wp2_with fail
              go_meet
              exact ⟨rfl,rfl⟩
            case rest =>
             obtain ⟨rfl,e⟩:=hcut
             subst e
             clear hx
             have HDL4:=Lib.hid (RLt.done (n:=(NL4:Int)) (k:=0) (k1:=0) (fun e=>HML4.out.1.ok e) (fun e e0=>HML4.out.1.bad e e0) H2L4.out.2.2 (by omega) (fun e=>by
              have h1:=HXNL4.out
              have h2:¬ j < NL4:=fun h=>h1 ⟨h,e⟩
              omega))
             obtain rfl:j=lL4.length:=H2L4.out.2.2.len.symm
             have HAjL4:=Lib.hid (RMid.join (T:=49) HAjL3.out (keepN_pair (keepN_pair (keepN_pair (keepN_pair (keepN_pair (keepN_pair (keepN_pair (keepN_pair (keepN_pair keepN_flat keepN_flat) keepN_flat) keepN_flat) keepN_flat) (keepN_lst (by decide) keepN_flat)) keepN_flat) keepN_flat) (keepN_lst (by decide) (keepN_job2 (by decide)))) (keepN_lst (by decide) keepN_flat)) (by omega) KSrL3.out hlt H2L4.out.2.1 ((listR keepR 112).mono H2L4.out.2.2.at_ (by omega)) (Nat.le_trans H2L4.out.2.2.le HML4.out.1.le) HDL4.out)
             have HSjL4:=Lib.hid H2L4.out.1
             clear HXNL4 HDL4 H2L4 hj
             generalize wc=vL4 at *
             go_wp2_with fail
             refine (rflist B gp X t c k2L4 od2L4 vL4 HSjL4.out).mono ?_
             rintro e w8 hh
             obtain ⟨k8,od8,x8,V8,c8,rfl,hS,hM⟩:=hh
             have K8:=Lib.hid (hM.fr.blk KSrL4.out (by omega) (by omega))
             have KR_8:=Lib.hid (hM.fr.blk KRrL4.out (by omega) (by omega))
             have HMS8:=Lib.hid (And.intro hS hM)
             clear hS hM
             have c0:w8.cell? ⟨(w.heap.size+1),13,none⟩=some (.slice none 0 0):=K8.out.cell 13
             have z0:=K8.out.frozen 13
             go_wp2_with fail
             have ho:Only (w.heap.size+1) w8 (w8.setCell ⟨(w.heap.size+1),13,none⟩ (.slice V8 x8.length c8)):=((Only.refl (w.heap.size+1) w8).set_ 13 (.slice V8 x8.length c8))
             have Kx:Blk (w8.setCell ⟨(w.heap.size+1),13,none⟩ (.slice V8 x8.length c8)) (w.heap.size+1) 49 #[.int .i64 x1.1.1,.int .i64 x1.1.2,.int .i64 x1.2,.int .i64 x2,.int .i64 x3,.int .i64 x4,.int .i64 x5,.slice VL1 lL1.length cvL1,.int .i64 x6,.int .i64 x7,.slice VL2 lL2.length cvL2,.slice VL3 lL3.length cvL3,.slice VL4 lL4.length cvL4,.slice V8 x8.length c8,.slice none 0 0,.slice none 0 0]:=(K8.out.set_ 13 (.slice V8 x8.length c8))
             have KRx:=Lib.hid (ho.blk KR_8.out (by omega))
             have HA8:=Lib.hid (RMid.lay (T:=49) HAjL4.out HMS8.out.2 hlt (keepN_pair (keepN_pair (keepN_pair (keepN_pair (keepN_pair (keepN_pair (keepN_pair (keepN_pair (keepN_pair (keepN_pair keepN_flat keepN_flat) keepN_flat) keepN_flat) keepN_flat) (keepN_lst (by decide) keepN_flat)) keepN_flat) keepN_flat) (keepN_lst (by decide) (keepN_job2 (by decide)))) (keepN_lst (by decide) keepN_flat)) (keepN_lst (by decide) keepN_flat)) (keepN_ints (by decide)) (by omega) K8.out ho)
             have HS8:=Lib.hid (RS.only HMS8.out.1 ho (by omega) (by omega))
             have Kx8:=Lib.hid Kx
             have KR_8':=Lib.hid KRx.out
             clear ho Kx HMS8 K8 c0 z0 KRx KR_8
             have KR_8:=Lib.hid KR_8'.out
             clear KR_8'
             generalize (w8.setCell ⟨(w.heap.size+1),13,none⟩ (.slice V8 x8.length c8))=v8 at *
             refine (rflist B gp X t c k8 od8 v8 HS8.out).mono ?_
             rintro e w9 hh
             obtain ⟨k9,od9,x9,V9,c9,rfl,hS,hM⟩:=hh
             have K9:=Lib.hid (hM.fr.blk Kx8.out (by omega) (by omega))
             have KR_9:=Lib.hid (hM.fr.blk KR_8.out (by omega) (by omega))
             have HMS9:=Lib.hid (And.intro hS hM)
             clear hS hM
             have c0:w9.cell? ⟨(w.heap.size+1),14,none⟩=some (.slice none 0 0):=K9.out.cell 14
             have z0:=K9.out.frozen 14
             go_wp2_with fail
             have ho:Only (w.heap.size+1) w9 (w9.setCell ⟨(w.heap.size+1),14,none⟩ (.slice V9 x9.length c9)):=((Only.refl (w.heap.size+1) w9).set_ 14 (.slice V9 x9.length c9))
             have Kx:Blk (w9.setCell ⟨(w.heap.size+1),14,none⟩ (.slice V9 x9.length c9)) (w.heap.size+1) 49 #[.int .i64 x1.1.1,.int .i64 x1.1.2,.int .i64 x1.2,.int .i64 x2,.int .i64 x3,.int .i64 x4,.int .i64 x5,.slice VL1 lL1.length cvL1,.int .i64 x6,.int .i64 x7,.slice VL2 lL2.length cvL2,.slice VL3 lL3.length cvL3,.slice VL4 lL4.length cvL4,.slice V8 x8.length c8,.slice V9 x9.length c9,.slice none 0 0]:=(K9.out.set_ 14 (.slice V9 x9.length c9))
             have KRx:=Lib.hid (ho.blk KR_9.out (by omega))
             have HA9:=Lib.hid (RMid.lay (T:=49) HA8.out HMS9.out.2 hlt (keepN_pair (keepN_pair (keepN_pair (keepN_pair (keepN_pair (keepN_pair (keepN_pair (keepN_pair (keepN_pair (keepN_pair (keepN_pair keepN_flat keepN_flat) keepN_flat) keepN_flat) keepN_flat) (keepN_lst (by decide) keepN_flat)) keepN_flat) keepN_flat) (keepN_lst (by decide) (keepN_job2 (by decide)))) (keepN_lst (by decide) keepN_flat)) (keepN_lst (by decide) keepN_flat)) (keepN_ints (by decide))) (keepN_ints (by decide)) (by omega) K9.out ho)
             have HS9:=Lib.hid (RS.only HMS9.out.1 ho (by omega) (by omega))
             have Kx9:=Lib.hid Kx
             have KR_9':=Lib.hid KRx.out
             clear ho Kx HMS9 K9 c0 z0 KRx KR_9
             have KR_9:=Lib.hid KR_9'.out
             clear KR_9'
             generalize (w9.setCell ⟨(w.heap.size+1),14,none⟩ (.slice V9 x9.length c9))=v9 at *
             refine (rflist B gp X t c k9 od9 v9 HS9.out).mono ?_
             rintro e w10 hh
             obtain ⟨k10,od10,x10,V10,c10,rfl,hS,hM⟩:=hh
             have K10:=Lib.hid (hM.fr.blk Kx9.out (by omega) (by omega))
             have KR_10:=Lib.hid (hM.fr.blk KR_9.out (by omega) (by omega))
             have HMS10:=Lib.hid (And.intro hS hM)
             clear hS hM
             have c0:w10.cell? ⟨(w.heap.size+1),15,none⟩=some (.slice none 0 0):=K10.out.cell 15
             have z0:=K10.out.frozen 15
             go_upto_region 49 with fail
             have ho:Only (w.heap.size+1) w10 (w10.setCell ⟨(w.heap.size+1),15,none⟩ (.slice V10 x10.length c10)):=((Only.refl (w.heap.size+1) w10).set_ 15 (.slice V10 x10.length c10))
             have Kx:Blk (w10.setCell ⟨(w.heap.size+1),15,none⟩ (.slice V10 x10.length c10)) (w.heap.size+1) 49 #[.int .i64 x1.1.1,.int .i64 x1.1.2,.int .i64 x1.2,.int .i64 x2,.int .i64 x3,.int .i64 x4,.int .i64 x5,.slice VL1 lL1.length cvL1,.int .i64 x6,.int .i64 x7,.slice VL2 lL2.length cvL2,.slice VL3 lL3.length cvL3,.slice VL4 lL4.length cvL4,.slice V8 x8.length c8,.slice V9 x9.length c9,.slice V10 x10.length c10]:=(K10.out.set_ 15 (.slice V10 x10.length c10))
             have KRx:=Lib.hid (ho.blk KR_10.out (by omega))
             have HA10:=Lib.hid (RMid.lay (T:=49) HA9.out HMS10.out.2 hlt (keepN_pair (keepN_pair (keepN_pair (keepN_pair (keepN_pair (keepN_pair (keepN_pair (keepN_pair (keepN_pair (keepN_pair (keepN_pair (keepN_pair keepN_flat keepN_flat) keepN_flat) keepN_flat) keepN_flat) (keepN_lst (by decide) keepN_flat)) keepN_flat) keepN_flat) (keepN_lst (by decide) (keepN_job2 (by decide)))) (keepN_lst (by decide) keepN_flat)) (keepN_lst (by decide) keepN_flat)) (keepN_ints (by decide))) (keepN_ints (by decide))) (keepN_ints (by decide)) (by omega) K10.out ho)
             have HS10:=Lib.hid (RS.only HMS10.out.1 ho (by omega) (by omega))
             have Kx10:=Lib.hid Kx
             have KR_10':=Lib.hid KRx.out
             clear ho Kx HMS10 K10 c0 z0 KRx KR_10
             have KR_10:=Lib.hid KR_10'.out
             clear KR_10'
             generalize (w10.setCell ⟨(w.heap.size+1),15,none⟩ (.slice V10 x10.length c10))=v10 at *
             have R9:=Lib.hid (show v10.rangeAt (w.heap.size+1) 0 [.int .i64 x1.1.1,.int .i64 x1.1.2,.int .i64 x1.2,.int .i64 x2,.int .i64 x3,.int .i64 x4,.int .i64 x5,.slice VL1 lL1.length cvL1,.int .i64 x6,.int .i64 x7,.slice VL2 lL2.length cvL2,.slice VL3 lL3.length cvL3,.slice VL4 lL4.length cvL4,.slice V8 x8.length c8,.slice V9 x9.length c9,.slice V10 x10.length c10] from range_part (n:=16) Kx10.out rfl)
             have ho:=Only.sets (Only.refl w.heap.size v10) [.int .i64 x1.1.1,.int .i64 x1.1.2,.int .i64 x1.2,.int .i64 x2,.int .i64 x3,.int .i64 x4,.int .i64 x5,.slice VL1 lL1.length cvL1,.int .i64 x6,.int .i64 x7,.slice VL2 lL2.length cvL2,.slice VL3 lL3.length cvL3,.slice VL4 lL4.length cvL4,.slice V8 x8.length c8,.slice V9 x9.length c9,.slice V10 x10.length c10] 0
             have Kz:Blk (World.setCells v10 w.heap.size 0 [.int .i64 x1.1.1,.int .i64 x1.1.2,.int .i64 x1.2,.int .i64 x2,.int .i64 x3,.int .i64 x4,.int .i64 x5,.slice VL1 lL1.length cvL1,.int .i64 x6,.int .i64 x7,.slice VL2 lL2.length cvL2,.slice VL3 lL3.length cvL3,.slice VL4 lL4.length cvL4,.slice V8 x8.length c8,.slice V9 x9.length c9,.slice V10 x10.length c10]) w.heap.size 49 (List.toArray [.int .i64 x1.1.1,.int .i64 x1.1.2,.int .i64 x1.2,.int .i64 x2,.int .i64 x3,.int .i64 x4,.int .i64 x5,.slice VL1 lL1.length cvL1,.int .i64 x6,.int .i64 x7,.slice VL2 lL2.length cvL2,.slice VL3 lL3.length cvL3,.slice VL4 lL4.length cvL4,.slice V8 x8.length c8,.slice V9 x9.length c9,.slice V10 x10.length c10]):=blk_all KR_10.out (setA_full rfl)
             have hM:=RMid.over HA10.out (T:=49) (keepN_pair (keepN_pair (keepN_pair (keepN_pair (keepN_pair (keepN_pair (keepN_pair (keepN_pair (keepN_pair (keepN_pair (keepN_pair (keepN_pair (keepN_pair keepN_flat keepN_flat) keepN_flat) keepN_flat) keepN_flat) (keepN_lst (by decide) keepN_flat)) keepN_flat) keepN_flat) (keepN_lst (by decide) (keepN_job2 (by decide)))) (keepN_lst (by decide) keepN_flat)) (keepN_lst (by decide) keepN_flat)) (keepN_ints (by decide))) (keepN_ints (by decide))) (keepN_ints (by decide))) (Nat.le_refl _) KR_10.out ho
             have hS9:=RS.only HS10.out ho (by omega) (by omega)
             have HZ:=Lib.hid (And.intro Kz (And.intro hM hS9))
             clear ho Kz hM hS9
             go_wp2_with (first | (refine wpList_load_mid rfl 49 _ rfl _ _ rfl _ _ R9.out Try.underlying49 rfl (by kernel_rfl) ?_) | (refine wpList_store_mid rfl 49 _ _ rfl w.heap.size 0 (List.toArray [.int .i64 x1.1.1,.int .i64 x1.1.2,.int .i64 x1.2,.int .i64 x2,.int .i64 x3,.int .i64 x4,.int .i64 x5,.slice VL1 lL1.length cvL1,.int .i64 x6,.int .i64 x7,.slice VL2 lL2.length cvL2,.slice VL3 lL3.length cvL3,.slice VL4 lL4.length cvL4,.slice V8 x8.length c8,.slice V9 x9.length c9,.slice V10 x10.length c10]) rfl rfl (there_of KR_10.out (Nat.le_of_ble_eq_true rfl)) (by kernel_rfl) (by kernel_rfl) ?_;simp only [List.toList_toArray];generalize World.setCells _ _ _ _=w99 at *;(try simp only [Act.put])))
             refine bodyPost_ret (v:=.agg (List.toArray [.int .i64 x1.1.1,.int .i64 x1.1.2,.int .i64 x1.2,.int .i64 x2,.int .i64 x3,.int .i64 x4,.int .i64 x5,.slice VL1 lL1.length cvL1,.int .i64 x6,.int .i64 x7,.slice VL2 lL2.length cvL2,.slice VL3 lL3.length cvL3,.slice VL4 lL4.length cvL4,.slice V8 x8.length c8,.slice V9 x9.length c9,.slice V10 x10.length c10])) ?_ rfl ?_
             ·exact results_cell_row rfl _ _ w.heap.size 49 (List.toArray [.int .i64 x1.1.1,.int .i64 x1.1.2,.int .i64 x1.2,.int .i64 x2,.int .i64 x3,.int .i64 x4,.int .i64 x5,.slice VL1 lL1.length cvL1,.int .i64 x6,.int .i64 x7,.slice VL2 lL2.length cvL2,.slice VL3 lL3.length cvL3,.slice VL4 lL4.length cvL4,.slice V8 x8.length c8,.slice V9 x9.length c9,.slice V10 x10.length c10]) (0,0) _ rfl HZ.out.1 Try.underlying49 rfl (by kernel_rfl)
             ·have hq:=RMid.iso (f:=sOf) (g:=ofS) (fun _=>rfl) HZ.out.2.1
              exact SRet.mk k10 od10 (sOf (((((((((((((x1,x2),x3),x4),x5),lL1),x6),x7),lL2),lL3),lL4),x8),x9),x10)) ⟨VL1,cvL1,VL2,cvL2,VL3,cvL3,VL4,cvL4,V8,c8,V9,c9,V10,c10⟩ HZ.out.2.2 hq
end Go.Proofs.Ytfdldbfjeamlcaa.RfState
