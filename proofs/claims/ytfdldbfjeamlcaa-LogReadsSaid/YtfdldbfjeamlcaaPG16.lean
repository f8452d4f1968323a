/- Several texts joined: tidehallref28.SameState. -/
import Derived.Test.YtfdldbfjeamlcaaPG15
set_option linter.unusedVariables false
set_option linter.unusedSimpArgs false
namespace Go.Proofs.Ytfdldbfjeamlcaa.RecF3
set_option maxRecDepth 100000
set_option maxHeartbeats 12000000
open Go.Sort Go.RowKit RecGuard Mem RecMem RecByte RecNum RecEach RecMath RecCommand RecCmdJ RecEq RecKeys RecEqA RecJobs RecJobsA RecVal RecEqual RecEqual2 RecEqJ RecCfgs RecSame RecOwn RecSameA QuietRow RecF1
structure RTopS (s:SV):Prop where
 C:s.cs.length≤9223372036854775807
 J:s.js.length≤9223372036854775807
 P:s.ps.length≤9223372036854775807
 K:s.ks.length≤9223372036854775807
 D:s.dn.length≤9223372036854775807
 S:s.sh.length≤9223372036854775807
 U:s.cu.length≤9223372036854775807
 A:∀ j ∈ s.js,j.q.af.length≤9223372036854775807
theorem rtop_st {r:RV} (h:RTop r):RTopS r.s:=⟨h.C,h.J,h.P,h.K,h.D,h.S,h.U,h.A⟩
def Kept4 (W:World) (w:World) (g5 g6:Nat) (s t:SV) (x y:SA):Prop:=Blk W g5 44 (List.toArray [.int .i64 s.d0,.int .i64 s.d1,.int .i64 s.d2,.int .i64 s.bo,.int .i64 s.fr,.int .i64 s.tr,.int .i64 s.ag,.slice x.C s.cs.length x.cc])∧Blk W g6 44 (List.toArray [.int .i64 t.d0,.int .i64 t.d1,.int .i64 t.d2,.int .i64 t.bo,.int .i64 t.fr,.int .i64 t.tr,.int .i64 t.ag,.slice y.C t.cs.length y.cc])∧Blk W w.heap.size 49 (sL s x).toArray∧Blk W (w.heap.size+1) 49 (sL t y).toArray
theorem Kept4.up {W W2 w:World} {g5 g6:Nat} {s t:SV} {x y:SA} (h:Kept4 W w g5 g6 s t x y) (hB:Below W.heap.size W W2):Kept4 W2 w g5 g6 s t x y:=⟨h.1.below hB h.1.lt,h.2.1.below hB h.2.1.lt,h.2.2.1.below hB h.2.2.1.lt,h.2.2.2.below hB h.2.2.2.lt⟩
theorem sv_last {s t:SV} (h1:s.d0=t.d0∧s.d1=t.d1∧s.d2=t.d2) (h2:s.bo=t.bo) (h3:s.fr=t.fr) (h4:s.tr=t.tr) (h5:s.ag=t.ag) (h6:s.cs=t.cs) (h7:s.nw=t.nw) (h8:s.nx=t.nx) (h9:s.js=t.js) (h10:s.ps=t.ps) (h11:s.ks=t.ks) (h12:s.dn=t.dn) (h13:s.sh=t.sh):decide (s=t)=decide (s.cu=t.cu):=by
 rw [Bool.eq_iff_iff,decide_eq_true_eq,decide_eq_true_eq]
 obtain ⟨_,_,_,_,_,_,_,_,_,_,_,_,_,_,_,_⟩:=s
 obtain ⟨_,_,_,_,_,_,_,_,_,_,_,_,_,_,_,_⟩:=t
 simp only at h1 h2 h3 h4 h5 h6 h7 h8 h9 h10 h11 h12 h13 ⊢
 obtain ⟨rfl,rfl,rfl⟩:=h1
 subst h2 h3 h4 h5 h6 h7 h8 h9 h10 h11 h12 h13
 constructor
 ·intro e;injection e
 ·rintro rfl;rfl
theorem rsameState28 (s t:SV) (x y:SA) (hs:SWf s) (ht:SWf t) (hl:RTopS s) (hm:RTopS t) (w:World) (hx:StAt w s x) (hy:StAt w t y) :
    Calls Try.prog 57 #[.agg (sL s x).toArray,.agg (sL t y).toArray] w fun e w' => e = .returned (.bool (decide (s=t)))∧Below w.heap.size w w':=by
 have qd:=eq_dims hs ht
 have HI:=Lib.hid (And.intro hx hy)
 have HW:=Lib.hid (And.intro hs ht)
 have HT:=Lib.hid (And.intro hl hm)
 clear hx hy hs ht hl hm
 go_enter Try.func57,Try.ntmps57
 go_upto_region 1 with fail
 have KA:=Lib.hid ((Blk.new w 49 (sL s x).toArray).alloc (.cells (sL t y).toArray 49))
 have KB:=Lib.hid (blk1 w 49 (sL t y).toArray (o:=.cells (sL s x).toArray 49))
 have HB:=Lib.hid (below_alloc (o:=.cells (sL t y).toArray 49) (below_alloc (o:=.cells (sL s x).toArray 49) (Below.refl w.heap.size w)))
 generalize ((w.alloc (.cells (sL s x).toArray 49)).alloc (.cells (sL t y).toArray 49))=W0 at *
 have R1:=Lib.hid (show W0.rangeAt w.heap.size 0 [.int .i64 s.d0,.int .i64 s.d1,.int .i64 s.d2,.int .i64 s.bo,.int .i64 s.fr,.int .i64 s.tr,.int .i64 s.ag,.slice x.C s.cs.length x.cc] from range_part (n:=8) KA.out rfl)
 have x1:=box_full (W:=W0) 44 Sq.zzG (vs:=[.int .i64 s.d0,.int .i64 s.d1,.int .i64 s.d2,.int .i64 s.bo,.int .i64 s.fr,.int .i64 s.tr,.int .i64 s.ag,.slice x.C s.cs.length x.cc]) rfl
 go_upto_region 2 with (first | (refine wpList_load_mid rfl 44 _ rfl _ _ rfl _ _ R1.out Try.underlying44 rfl (by kernel_rfl) ?_) | (refine wpList_store_mid rfl 44 _ _ rfl W0.heap.size 0 (List.toArray [.int .i64 s.d0,.int .i64 s.d1,.int .i64 s.d2,.int .i64 s.bo,.int .i64 s.fr,.int .i64 s.tr,.int .i64 s.ag,.slice x.C s.cs.length x.cc]) rfl rfl (there_of (Blk.new W0 44 Sq.zzG) (Nat.le_of_ble_eq_true rfl)) (by kernel_rfl) (by kernel_rfl) ?_;simp only [List.toList_toArray];generalize World.setCells _ _ _ _=W1 at *;(try simp only [Act.put])))
 have HB2:=Lib.hid (below_up HB.out x1.2)
 have KA2:=Lib.hid (KA.out.below x1.2 KA.out.lt)
 have KB2:=Lib.hid (KB.out.below x1.2 KB.out.lt)
 obtain ⟨g5,hg5⟩:∃ n,n=W0.heap.size:=⟨_,rfl⟩
 rw [← hg5] at x1
 rw [← hg5]
 have K5:=Lib.hid x1.1
 clear x1 R1 KA KB HB hg5
 have R2:=Lib.hid (show W1.rangeAt (w.heap.size+1) 0 [.int .i64 t.d0,.int .i64 t.d1,.int .i64 t.d2,.int .i64 t.bo,.int .i64 t.fr,.int .i64 t.tr,.int .i64 t.ag,.slice y.C t.cs.length y.cc] from range_part (n:=8) KB2.out rfl)
 have x2:=box_full (W:=W1) 44 Sq.zzG (vs:=[.int .i64 t.d0,.int .i64 t.d1,.int .i64 t.d2,.int .i64 t.bo,.int .i64 t.fr,.int .i64 t.tr,.int .i64 t.ag,.slice y.C t.cs.length y.cc]) rfl
 go_upto_region 3 with (first | (refine wpList_load_mid rfl 44 _ rfl _ _ rfl _ _ R2.out Try.underlying44 rfl (by kernel_rfl) ?_) | (refine wpList_store_mid rfl 44 _ _ rfl W1.heap.size 0 (List.toArray [.int .i64 t.d0,.int .i64 t.d1,.int .i64 t.d2,.int .i64 t.bo,.int .i64 t.fr,.int .i64 t.tr,.int .i64 t.ag,.slice y.C t.cs.length y.cc]) rfl rfl (there_of (Blk.new W1 44 Sq.zzG) (Nat.le_of_ble_eq_true rfl)) (by kernel_rfl) (by kernel_rfl) ?_;simp only [List.toList_toArray];generalize World.setCells _ _ _ _=W9 at *;(try simp only [Act.put])))
 have HT9:=Lib.hid (below_up HB2.out x2.2)
 have HK9:=Lib.hid (show Kept4 W9 w g5 W1.heap.size s t x y from ⟨K5.out.below x2.2 K5.out.lt,x2.1,KA2.out.below x2.2 KA2.out.lt,KB2.out.below x2.2 KB2.out.lt⟩)
 obtain ⟨g6,hg6⟩:∃ n,n=W1.heap.size:=⟨_,rfl⟩
 rw [← hg6] at HK9
 rw [← hg6]
 clear x2 R2 KA2 KB2 HB2 K5 hg6
 have HI9:=Lib.hid (And.intro (HI.out.1.up HT9.out) (HI.out.2.up HT9.out))
 clear HI
 have p0:W9.cell? ⟨g5,0,none⟩=some (.int .i64 s.d0):=HK9.out.1.cell 0
 have p1:W9.cell? ⟨g5,1,none⟩=some (.int .i64 s.d1):=HK9.out.1.cell 1
 have p2:W9.cell? ⟨g5,2,none⟩=some (.int .i64 s.d2):=HK9.out.1.cell 2
 have p3:W9.cell? ⟨g5,3,none⟩=some (.int .i64 s.bo):=HK9.out.1.cell 3
 have p4:W9.cell? ⟨g5,4,none⟩=some (.int .i64 s.fr):=HK9.out.1.cell 4
 have p5:W9.cell? ⟨g5,5,none⟩=some (.int .i64 s.tr):=HK9.out.1.cell 5
 have p6:W9.cell? ⟨g5,6,none⟩=some (.int .i64 s.ag):=HK9.out.1.cell 6
 have p7:W9.cell? ⟨g5,7,none⟩=some (.slice x.C s.cs.length x.cc):=HK9.out.1.cell 7
 have q0:W9.cell? ⟨g6,0,none⟩=some (.int .i64 t.d0):=HK9.out.2.1.cell 0
 have q1:W9.cell? ⟨g6,1,none⟩=some (.int .i64 t.d1):=HK9.out.2.1.cell 1
 have q2:W9.cell? ⟨g6,2,none⟩=some (.int .i64 t.d2):=HK9.out.2.1.cell 2
 have q3:W9.cell? ⟨g6,3,none⟩=some (.int .i64 t.bo):=HK9.out.2.1.cell 3
 have q4:W9.cell? ⟨g6,4,none⟩=some (.int .i64 t.fr):=HK9.out.2.1.cell 4
 have q5:W9.cell? ⟨g6,5,none⟩=some (.int .i64 t.tr):=HK9.out.2.1.cell 5
 have q6:W9.cell? ⟨g6,6,none⟩=some (.int .i64 t.ag):=HK9.out.2.1.cell 6
 have q7:W9.cell? ⟨g6,7,none⟩=some (.slice y.C t.cs.length y.cc):=HK9.out.2.1.cell 7
 by_cases h_dims:(s.d0=t.d0∧s.d1=t.d1∧s.d2=t.d2)
 rotate_left
 ·have HNE:=Lib.hid (show s≠t from fun e=>h_dims (by rw [e];exact ⟨rfl,rfl,rfl⟩))
  have e_d:dimsB s t=false:=decide_eq_false h_dims
  simp only [e_d] at qd
  clear h_dims
  go_wp2_with fail
  go_ret
  exact ⟨by rw [decide_eq_false HNE.out];rfl,HT9.out⟩
 have e_d:dimsB s t=true:=decide_eq_true h_dims
 simp only [e_d] at qd
 have HE_dims:=Lib.hid h_dims
 clear h_dims
 by_cases h_bo:s.bo=t.bo
 rotate_left
 ·have HNE:=Lib.hid (show s≠t from fun e=>h_bo (by rw [e]))
  have e_bo:(s.bo != t.bo)=true:=by simpa using h_bo
  clear h_bo
  go_wp2_with fail
  go_ret
  exact ⟨by rw [decide_eq_false HNE.out];rfl,HT9.out⟩
 have e_bo:(s.bo != t.bo)=false:=by simpa using h_bo
 have HE_bo:=Lib.hid h_bo
 clear h_bo
 by_cases h_fr:s.fr=t.fr
 rotate_left
 ·have HNE:=Lib.hid (show s≠t from fun e=>h_fr (by rw [e]))
  have e_fr:(s.fr != t.fr)=true:=by simpa using h_fr
  clear h_fr
  go_wp2_with fail
  go_ret
  exact ⟨by rw [decide_eq_false HNE.out];rfl,HT9.out⟩
 have e_fr:(s.fr != t.fr)=false:=by simpa using h_fr
 have HE_fr:=Lib.hid h_fr
 clear h_fr
 by_cases h_tr:s.tr=t.tr
 rotate_left
 ·have HNE:=Lib.hid (show s≠t from fun e=>h_tr (by rw [e]))
  have e_tr:(s.tr != t.tr)=true:=by simpa using h_tr
  clear h_tr
  go_wp2_with fail
  go_ret
  exact ⟨by rw [decide_eq_false HNE.out];rfl,HT9.out⟩
 have e_tr:(s.tr != t.tr)=false:=by simpa using h_tr
 have HE_tr:=Lib.hid h_tr
 clear h_tr
 by_cases h_ag:s.ag=t.ag
 rotate_left
 ·have HNE:=Lib.hid (show s≠t from fun e=>h_ag (by rw [e]))
  have e_ag:(s.ag != t.ag)=true:=by simpa using h_ag
  clear h_ag
  go_wp2_with fail
  go_ret
  exact ⟨by rw [decide_eq_false HNE.out];rfl,HT9.out⟩
 have e_ag:(s.ag != t.ag)=false:=by simpa using h_ag
 have HE_ag:=Lib.hid h_ag
 clear h_ag
 by_cases h_Lcs:s.cs.length=t.cs.length
 rotate_left
 ·have HNE:=Lib.hid (show s≠t from fun e=>h_Lcs (by rw [e]))
  have e_cs:((s.cs.length:Int) != (t.cs.length:Int))=true:=by simp;omega
  clear h_Lcs
  go_wp2_with fail
  go_ret
  exact ⟨by rw [decide_eq_false HNE.out];rfl,HT9.out⟩
 have e_cs:((s.cs.length:Int) != (t.cs.length:Int))=false:=by simp [h_Lcs]
 have HE_Lcs:=Lib.hid h_Lcs
 clear h_Lcs
 have HN_cs:=Lib.hid HE_Lcs.out
 go_wp2_with fail
 clear p0 q0 p1 q1 p2 q2 p3 q3 p4 q4 p5 q5 p6 q6 p7 q7 e_d qd e_bo e_fr e_tr e_ag e_cs
 have hub:s.cs.length≤9223372036854775807:=HT.out.1.C
 go_loopw [7] (fun i wr=>∃ k:Nat,k≤s.cs.length∧i = .int .i64 k∧Hid (∀ (j:Nat) (a b:KV),j < k→s.cs[j]? = some a→t.cs[j]? = some b→a=b)∧Hid (Below W9.heap.size W9 wr))
  (fun i _=>s.cs.length - (intOf i).toNat)
 case atStart=>exact ⟨0,Nat.zero_le _,rfl,(fun j a b h=>by omega),Below.refl _ _⟩
 case round =>
  obtain ⟨k,hk,rfl,hP,hB⟩:=hrel
  have HK:=Lib.hid (HK9.out.up hB.out)
  have p7:wr.cell? ⟨g5,7,none⟩=some (.slice x.C s.cs.length x.cc):=HK.out.1.cell 7
  have q7:wr.cell? ⟨g6,7,none⟩=some (.slice y.C t.cs.length y.cc):=HK.out.2.1.cell 7
  by_cases hlt:k < s.cs.length
  ·have hg:s.cs[k]? = some s.cs[k]:=List.getElem?_eq_getElem hlt
   generalize s.cs[k]=u at hg
   have hkm:k < t.cs.length:=by have:=HN_cs.out;omega
   have hg2:t.cs[k]? = some t.cs[k]:=List.getElem?_eq_getElem hkm
   generalize t.cs[k]=v at hg2
   have hki:(k:Int) < (s.cs.length:Int):=by omega
   have hki2:(k:Int) < (t.cs.length:Int):=by omega
   have hki0:(0:Int)≤(k:Int):=by omega
   obtain ⟨b,o,cs1,e91,hb,_,r1,e1⟩:=SlcAt.up kStays (HI9.out.1.C) hB.out k u hg
   obtain ⟨b',o',cs2,e92,hb',_,r2,e2⟩:=SlcAt.up kStays (HI9.out.2.C) hB.out k v hg2
   rw [e91] at p7
   rw [e92] at q7
   obtain rfl:cs1=kL u:=e1
   obtain rfl:cs2=kL v:=e2
   have hq:=fun W:World=>eq_cls (HW.out.1.2.1 u (List.mem_of_getElem? hg)) (HW.out.2.2.1 v (List.mem_of_getElem? hg2)) W
   have HR:=Lib.hid (And.intro r1 r2)
   have HG:=Lib.hid (And.intro hg hg2)
   clear hg hg2 r1 r2 hb hb' e91 e92
   cases he:decide (u=v)
   ·simp only [he] at hq
    have EV:=Lib.hid (show s≠t from fun e=>list_ne HG.out.1 HG.out.2 (of_decide_eq_false he) (by rw [e]))
    clear he
    go_wp2_with fail
    have kq0:=cell_regrown p7
    have kq1:=cell_regrown q7
    refine wp_region_quiet_below (by kernel_rfl) (by kernel_rfl) ?_
    repeat (first | (refine quiet_load_mid (by rfl) 154 _ rfl _ _ rfl _ HR.out.1 _ Try.underlying154 rfl (by kernel_rfl) ?_;simp only [Act.put,List.setIfInBounds_toArray,List.set_cons_zero,List.set_cons_succ]) | (refine quiet_load_mid (by rfl) 154 _ rfl _ _ rfl _ HR.out.2 _ Try.underlying154 rfl (by kernel_rfl) ?_;simp only [Act.put,List.setIfInBounds_toArray,List.set_cons_zero,List.set_cons_succ]) | go_big_quiet_step (first | fail))
    refine wpQuiet_nil ?_
    intro _ hw'
    obtain ⟨⟨dq,osq⟩,hw''⟩:=hw'
    subst hw''
    have hBq:=below_regrown wr dq osq
    clear kq0 kq1
    generalize grow (redrawn wr dq) osq=wq at *
    clear p7 q7
    go_wp2_with fail
    go_ret
    exact ⟨by rw [decide_eq_false EV.out];rfl,below_up HT9.out (below_up hB.out hBq)⟩
   ·simp only [he] at hq
    have HE:=Lib.hid (of_decide_eq_true he)
    clear he
    go_wp2_with fail
    have kq0:=cell_regrown p7
    have kq1:=cell_regrown q7
    refine wp_region_quiet_below (by kernel_rfl) (by kernel_rfl) ?_
    repeat (first | (refine quiet_load_mid (by rfl) 154 _ rfl _ _ rfl _ HR.out.1 _ Try.underlying154 rfl (by kernel_rfl) ?_;simp only [Act.put,List.setIfInBounds_toArray,List.set_cons_zero,List.set_cons_succ]) | (refine quiet_load_mid (by rfl) 154 _ rfl _ _ rfl _ HR.out.2 _ Try.underlying154 rfl (by kernel_rfl) ?_;simp only [Act.put,List.setIfInBounds_toArray,List.set_cons_zero,List.set_cons_succ]) | go_big_quiet_step (first | fail))
    refine wpQuiet_nil ?_
    intro _ hw'
    obtain ⟨⟨dq,osq⟩,hw''⟩:=hw'
    subst hw''
    have hBq:=below_regrown wr dq osq
    clear kq0 kq1
    generalize grow (redrawn wr dq) osq=wq at *
    clear p7 q7
    go_wp2_with fail
    go_roundw
    case rel=>exact ⟨k+1,by omega,by go_num,(fun j a b hj hu hv=>by
        rcases Nat.lt_or_ge j k with h | h
        ·exact hP.out j a b h hu hv
        ·obtain rfl:j=k:=by omega
         rw [HG.out.1] at hu;rw [HG.out.2] at hv;cases hu;cases hv;exact HE.out),below_up hB.out hBq⟩
    case measure=>simp [intOf];omega
  ·obtain rfl:k=s.cs.length:=by omega
   have HE_cs:=Lib.hid (show s.cs=t.cs from list_eq HN_cs.out hP.out)
   have HT9b:=Lib.hid (below_up HT9.out hB.out)
   have HI9b:=Lib.hid (And.intro (HI9.out.1.up hB.out) (HI9.out.2.up hB.out))
   clear hP HT9 HI9 HK9 hlt hk hub
   go_upto_region 10 with fail
   clear p7 q7 hB
   have HK9:=Lib.hid HK.out
   have HT9:=Lib.hid HT9b.out
   have HI9:=Lib.hid HI9b.out
   clear HK HT9b HI9b
   generalize wr=W9 at *
   have m8:W9.cell? ⟨w.heap.size,8,none⟩=some (.int .i64 s.nw):=HK9.out.2.2.1.cell 8
   have m9:W9.cell? ⟨w.heap.size,9,none⟩=some (.int .i64 s.nx):=HK9.out.2.2.1.cell 9
   have m10:W9.cell? ⟨w.heap.size,10,none⟩=some (.slice x.J s.js.length x.cj):=HK9.out.2.2.1.cell 10
   have m11:W9.cell? ⟨w.heap.size,11,none⟩=some (.slice x.P s.ps.length x.cp):=HK9.out.2.2.1.cell 11
   have m12:W9.cell? ⟨w.heap.size,12,none⟩=some (.slice x.K s.ks.length x.ck):=HK9.out.2.2.1.cell 12
   have n8:W9.cell? ⟨w.heap.size+1,8,none⟩=some (.int .i64 t.nw):=HK9.out.2.2.2.cell 8
   have n9:W9.cell? ⟨w.heap.size+1,9,none⟩=some (.int .i64 t.nx):=HK9.out.2.2.2.cell 9
   have n10:W9.cell? ⟨w.heap.size+1,10,none⟩=some (.slice y.J t.js.length y.cj):=HK9.out.2.2.2.cell 10
   have n11:W9.cell? ⟨w.heap.size+1,11,none⟩=some (.slice y.P t.ps.length y.cp):=HK9.out.2.2.2.cell 11
   have n12:W9.cell? ⟨w.heap.size+1,12,none⟩=some (.slice y.K t.ks.length y.ck):=HK9.out.2.2.2.cell 12
   by_cases h_nw:s.nw=t.nw
   rotate_left
   ·have HNE:=Lib.hid (show s≠t from fun e=>h_nw (by rw [e]))
    have e_nw:(s.nw != t.nw)=true:=by simpa using h_nw
    clear h_nw
    go_wp2_with fail
    go_ret
    exact ⟨by rw [decide_eq_false HNE.out];rfl,HT9.out⟩
   have e_nw:(s.nw != t.nw)=false:=by simpa using h_nw
   have HE_nw:=Lib.hid h_nw
   clear h_nw
   by_cases h_nx:s.nx=t.nx
   rotate_left
   ·have HNE:=Lib.hid (show s≠t from fun e=>h_nx (by rw [e]))
    have e_nx:(s.nx != t.nx)=true:=by simpa using h_nx
    clear h_nx
    go_wp2_with fail
    go_ret
    exact ⟨by rw [decide_eq_false HNE.out];rfl,HT9.out⟩
   have e_nx:(s.nx != t.nx)=false:=by simpa using h_nx
   have HE_nx:=Lib.hid h_nx
   clear h_nx
   by_cases h_Ljs:s.js.length=t.js.length
   rotate_left
   ·have HNE:=Lib.hid (show s≠t from fun e=>h_Ljs (by rw [e]))
    have e_js:((s.js.length:Int) != (t.js.length:Int))=true:=by simp;omega
    clear h_Ljs
    go_wp2_with fail
    go_ret
    exact ⟨by rw [decide_eq_false HNE.out];rfl,HT9.out⟩
   have e_js:((s.js.length:Int) != (t.js.length:Int))=false:=by simp [h_Ljs]
   have HE_Ljs:=Lib.hid h_Ljs
   clear h_Ljs
   by_cases h_Lps:s.ps.length=t.ps.length
   rotate_left
   ·have HNE:=Lib.hid (show s≠t from fun e=>h_Lps (by rw [e]))
    have e_ps:((s.ps.length:Int) != (t.ps.length:Int))=true:=by simp;omega
    clear h_Lps
    go_wp2_with fail
    go_ret
    exact ⟨by rw [decide_eq_false HNE.out];rfl,HT9.out⟩
   have e_ps:((s.ps.length:Int) != (t.ps.length:Int))=false:=by simp [h_Lps]
   have HE_Lps:=Lib.hid h_Lps
   clear h_Lps
   by_cases h_Lks:s.ks.length=t.ks.length
   rotate_left
   ·have HNE:=Lib.hid (show s≠t from fun e=>h_Lks (by rw [e]))
    have e_ks:((s.ks.length:Int) != (t.ks.length:Int))=true:=by simp;omega
    clear h_Lks
    go_wp2_with fail
    go_ret
    exact ⟨by rw [decide_eq_false HNE.out];rfl,HT9.out⟩
   have e_ks:((s.ks.length:Int) != (t.ks.length:Int))=false:=by simp [h_Lks]
   have HE_Lks:=Lib.hid h_Lks
   clear h_Lks
   have HN_js:=Lib.hid HE_Ljs.out
   have HN_ps:=Lib.hid HE_Lps.out
   have HN_ks:=Lib.hid HE_Lks.out
   go_wp2_with fail
   clear m8 m9 m10 m11 m12 n8 n9 n10 n11 n12 e_nw e_nx e_js e_ps e_ks
   have hub:s.js.length≤9223372036854775807:=HT.out.1.J
   go_loopw [8] (fun i wr=>∃ k:Nat,k≤s.js.length∧i = .int .i64 k∧Hid (∀ (j:Nat) (a b:JV),j < k→s.js[j]? = some a→t.js[j]? = some b→a=b)∧Hid (Below W9.heap.size W9 wr))
    (fun i _=>s.js.length - (intOf i).toNat)
   case atStart=>exact ⟨0,Nat.zero_le _,rfl,(fun j a b h=>by omega),Below.refl _ _⟩
   case round =>
    obtain ⟨k,hk,rfl,hP,hB⟩:=hrel
    have HK:=Lib.hid (HK9.out.up hB.out)
    have m10:wr.cell? ⟨w.heap.size,10,none⟩=some (.slice x.J s.js.length x.cj):=HK.out.2.2.1.cell 10
    have n10:wr.cell? ⟨w.heap.size+1,10,none⟩=some (.slice y.J t.js.length y.cj):=HK.out.2.2.2.cell 10
    by_cases hlt:k < s.js.length
    ·have hg:s.js[k]? = some s.js[k]:=List.getElem?_eq_getElem hlt
     generalize s.js[k]=u at hg
     have hkm:k < t.js.length:=by have:=HN_js.out;omega
     have hg2:t.js[k]? = some t.js[k]:=List.getElem?_eq_getElem hkm
     generalize t.js[k]=v at hg2
     have hki:(k:Int) < (s.js.length:Int):=by omega
     have hki2:(k:Int) < (t.js.length:Int):=by omega
     have hki0:(0:Int)≤(k:Int):=by omega
     obtain ⟨b,o,cs1,e91,hb,_,r1,e1⟩:=SlcAt.up jStays (HI9.out.1.J) hB.out k u hg
     obtain ⟨b',o',cs2,e92,hb',_,r2,e2⟩:=SlcAt.up jStays (HI9.out.2.J) hB.out k v hg2
     rw [e91] at m10
     rw [e92] at n10
     obtain ⟨Yu,cu,e1,hcu,hYu⟩:=e1
     obtain ⟨Yv,cv,e2,hcv,hYv⟩:=e2
     obtain rfl:cs1=jL u Yu cu:=e1
     obtain rfl:cs2=jL v Yv cv:=e2
     have HU:=Lib.hid (And.intro hYu hYv)
     have HJ0:=Lib.hid (fun (B:Bool) (hB:decide (u=v)=B) (W:World) (h1:IntsAt W Yu u.q.af) (h2:IntsAt W Yv v.q.af)=>rsameJobV u v Yu Yv cu cv B hB (HW.out.1.2.2.1 u (List.mem_of_getElem? hg)) (HW.out.2.2.2.1 v (List.mem_of_getElem? hg2)) (HT.out.1.A u (List.mem_of_getElem? hg)) (HT.out.2.A v (List.mem_of_getElem? hg2)) W h1 h2)
     clear hYu hYv hcu hcv
     have HR:=Lib.hid (And.intro r1 r2)
     have HG:=Lib.hid (And.intro hg hg2)
     clear hg hg2 r1 r2 hb hb' e91 e92
     cases he:decide (u=v)
     ·have HJ:=Lib.hid (HJ0.out _ he)
      clear HJ0
      have EV:=Lib.hid (show s≠t from fun e=>list_ne HG.out.1 HG.out.2 (of_decide_eq_false he) (by rw [e]))
      clear he
      go_wp2_with fail
      have kq0:=cell_regrown m10
      have kq1:=cell_regrown n10
      refine wp_region_quiet_below (by kernel_rfl) (by kernel_rfl) ?_
      repeat (first | (refine quiet_load_mid (by rfl) 28 _ rfl _ _ rfl _ HR.out.1 _ Try.underlying28 rfl (by kernel_rfl) ?_;simp only [Act.put,List.setIfInBounds_toArray,List.set_cons_zero,List.set_cons_succ]) | (refine quiet_load_mid (by rfl) 28 _ rfl _ _ rfl _ HR.out.2 _ Try.underlying28 rfl (by kernel_rfl) ?_;simp only [Act.put,List.setIfInBounds_toArray,List.set_cons_zero,List.set_cons_succ]) | go_big_quiet_step (first | fail | exact Calls.regrown_of (HJ.out _ (HU.out.1.up (below_regrown _ _ _)) (HU.out.2.up (below_regrown _ _ _)))))
      refine wpQuiet_nil ?_
      intro _ hw'
      obtain ⟨⟨dq,osq⟩,hw''⟩:=hw'
      subst hw''
      have hBq:=below_regrown wr dq osq
      clear kq0 kq1
      generalize grow (redrawn wr dq) osq=wq at *
      clear m10 n10
      go_wp2_with fail
      go_ret
      exact ⟨by rw [decide_eq_false EV.out];rfl,below_up HT9.out (below_up hB.out hBq)⟩
     ·have HJ:=Lib.hid (HJ0.out _ he)
      clear HJ0
      have HE:=Lib.hid (of_decide_eq_true he)
      clear he
      go_wp2_with fail
      have kq0:=cell_regrown m10
      have kq1:=cell_regrown n10
      refine wp_region_quiet_below (by kernel_rfl) (by kernel_rfl) ?_
      repeat (first | (refine quiet_load_mid (by rfl) 28 _ rfl _ _ rfl _ HR.out.1 _ Try.underlying28 rfl (by kernel_rfl) ?_;simp only [Act.put,List.setIfInBounds_toArray,List.set_cons_zero,List.set_cons_succ]) | (refine quiet_load_mid (by rfl) 28 _ rfl _ _ rfl _ HR.out.2 _ Try.underlying28 rfl (by kernel_rfl) ?_;simp only [Act.put,List.setIfInBounds_toArray,List.set_cons_zero,List.set_cons_succ]) | go_big_quiet_step (first | fail | exact Calls.regrown_of (HJ.out _ (HU.out.1.up (below_regrown _ _ _)) (HU.out.2.up (below_regrown _ _ _)))))
      refine wpQuiet_nil ?_
      intro _ hw'
      obtain ⟨⟨dq,osq⟩,hw''⟩:=hw'
      subst hw''
      have hBq:=below_regrown wr dq osq
      clear kq0 kq1
      generalize grow (redrawn wr dq) osq=wq at *
      clear m10 n10
      go_wp2_with fail
      go_roundw
      case rel=>exact ⟨k+1,by omega,by go_num,(fun j a b hj hu hv=>by
          rcases Nat.lt_or_ge j k with h | h
          ·exact hP.out j a b h hu hv
          ·obtain rfl:j=k:=by omega
           rw [HG.out.1] at hu;rw [HG.out.2] at hv;cases hu;cases hv;exact HE.out),below_up hB.out hBq⟩
      case measure=>simp [intOf];omega
    ·obtain rfl:k=s.js.length:=by omega
     have HE_js:=Lib.hid (show s.js=t.js from list_eq HN_js.out hP.out)
     have HT9b:=Lib.hid (below_up HT9.out hB.out)
     have HI9b:=Lib.hid (And.intro (HI9.out.1.up hB.out) (HI9.out.2.up hB.out))
     clear hP HT9 HI9 HK9 hlt hk hub
     go_upto_region 17 with fail
     clear m10 n10 hB
     have HK9:=Lib.hid HK.out
     have HT9:=Lib.hid HT9b.out
     have HI9:=Lib.hid HI9b.out
     clear HK HT9b HI9b
     generalize wr=W9 at *
     go_wp2_with fail
     have hub:s.ps.length≤9223372036854775807:=HT.out.1.P
     go_loopw [9] (fun i wr=>∃ k:Nat,k≤s.ps.length∧i = .int .i64 k∧Hid (∀ (j:Nat) (a b:PV),j < k→s.ps[j]? = some a→t.ps[j]? = some b→a=b)∧Hid (Below W9.heap.size W9 wr))
      (fun i _=>s.ps.length - (intOf i).toNat)
     case atStart=>exact ⟨0,Nat.zero_le _,rfl,(fun j a b h=>by omega),Below.refl _ _⟩
     case round =>
      obtain ⟨k,hk,rfl,hP,hB⟩:=hrel
      have HK:=Lib.hid (HK9.out.up hB.out)
      have m11:wr.cell? ⟨w.heap.size,11,none⟩=some (.slice x.P s.ps.length x.cp):=HK.out.2.2.1.cell 11
      have n11:wr.cell? ⟨w.heap.size+1,11,none⟩=some (.slice y.P t.ps.length y.cp):=HK.out.2.2.2.cell 11
      by_cases hlt:k < s.ps.length
      ·have hg:s.ps[k]? = some s.ps[k]:=List.getElem?_eq_getElem hlt
       generalize s.ps[k]=u at hg
       have hkm:k < t.ps.length:=by have:=HN_ps.out;omega
       have hg2:t.ps[k]? = some t.ps[k]:=List.getElem?_eq_getElem hkm
       generalize t.ps[k]=v at hg2
       have hki:(k:Int) < (s.ps.length:Int):=by omega
       have hki2:(k:Int) < (t.ps.length:Int):=by omega
       have hki0:(0:Int)≤(k:Int):=by omega
       obtain ⟨b,o,cs1,e91,hb,_,r1,e1⟩:=SlcAt.up pStays (HI9.out.1.P) hB.out k u hg
       obtain ⟨b',o',cs2,e92,hb',_,r2,e2⟩:=SlcAt.up pStays (HI9.out.2.P) hB.out k v hg2
       rw [e91] at m11
       rw [e92] at n11
       obtain rfl:cs1=pL u:=e1
       obtain rfl:cs2=pL v:=e2
       have hq:=fun W:World=>eq_part (HW.out.1.2.2.2.1 u (List.mem_of_getElem? hg)) (HW.out.2.2.2.2.1 v (List.mem_of_getElem? hg2)) W
       have HR:=Lib.hid (And.intro r1 r2)
       have HG:=Lib.hid (And.intro hg hg2)
       clear hg hg2 r1 r2 hb hb' e91 e92
       cases he:decide (u=v)
       ·simp only [he] at hq
        have EV:=Lib.hid (show s≠t from fun e=>list_ne HG.out.1 HG.out.2 (of_decide_eq_false he) (by rw [e]))
        clear he
        go_wp2_with fail
        have kq0:=cell_regrown m11
        have kq1:=cell_regrown n11
        refine wp_region_quiet_below (by kernel_rfl) (by kernel_rfl) ?_
        repeat (first | (refine quiet_load_mid (by rfl) 109 _ rfl _ _ rfl _ HR.out.1 _ Try.underlying109 rfl (by kernel_rfl) ?_;simp only [Act.put,List.setIfInBounds_toArray,List.set_cons_zero,List.set_cons_succ]) | (refine quiet_load_mid (by rfl) 109 _ rfl _ _ rfl _ HR.out.2 _ Try.underlying109 rfl (by kernel_rfl) ?_;simp only [Act.put,List.setIfInBounds_toArray,List.set_cons_zero,List.set_cons_succ]) | go_big_quiet_step (first | fail))
        refine wpQuiet_nil ?_
        intro _ hw'
        obtain ⟨⟨dq,osq⟩,hw''⟩:=hw'
        subst hw''
        have hBq:=below_regrown wr dq osq
        clear kq0 kq1
        generalize grow (redrawn wr dq) osq=wq at *
        clear m11 n11
        go_wp2_with fail
        go_ret
        exact ⟨by rw [decide_eq_false EV.out];rfl,below_up HT9.out (below_up hB.out hBq)⟩
       ·simp only [he] at hq
        have HE:=Lib.hid (of_decide_eq_true he)
        clear he
        go_wp2_with fail
        have kq0:=cell_regrown m11
        have kq1:=cell_regrown n11
        refine wp_region_quiet_below (by kernel_rfl) (by kernel_rfl) ?_
        repeat (first | (refine quiet_load_mid (by rfl) 109 _ rfl _ _ rfl _ HR.out.1 _ Try.underlying109 rfl (by kernel_rfl) ?_;simp only [Act.put,List.setIfInBounds_toArray,List.set_cons_zero,List.set_cons_succ]) | (refine quiet_load_mid (by rfl) 109 _ rfl _ _ rfl _ HR.out.2 _ Try.underlying109 rfl (by kernel_rfl) ?_;simp only [Act.put,List.setIfInBounds_toArray,List.set_cons_zero,List.set_cons_succ]) | go_big_quiet_step (first | fail))
        refine wpQuiet_nil ?_
        intro _ hw'
        obtain ⟨⟨dq,osq⟩,hw''⟩:=hw'
        subst hw''
        have hBq:=below_regrown wr dq osq
        clear kq0 kq1
        generalize grow (redrawn wr dq) osq=wq at *
        clear m11 n11
        go_wp2_with fail
        go_roundw
        case rel=>exact ⟨k+1,by omega,by go_num,(fun j a b hj hu hv=>by
            rcases Nat.lt_or_ge j k with h | h
            ·exact hP.out j a b h hu hv
            ·obtain rfl:j=k:=by omega
             rw [HG.out.1] at hu;rw [HG.out.2] at hv;cases hu;cases hv;exact HE.out),below_up hB.out hBq⟩
        case measure=>simp [intOf];omega
      ·obtain rfl:k=s.ps.length:=by omega
       have HE_ps:=Lib.hid (show s.ps=t.ps from list_eq HN_ps.out hP.out)
       have HT9b:=Lib.hid (below_up HT9.out hB.out)
       have HI9b:=Lib.hid (And.intro (HI9.out.1.up hB.out) (HI9.out.2.up hB.out))
       clear hP HT9 HI9 HK9 hlt hk hub
       go_upto_region 22 with fail
       clear m11 n11 hB
       have HK9:=Lib.hid HK.out
       have HT9:=Lib.hid HT9b.out
       have HI9:=Lib.hid HI9b.out
       clear HK HT9b HI9b
       generalize wr=W9 at *
       go_wp2_with fail
       have hub:s.ks.length≤9223372036854775807:=HT.out.1.K
       go_loopw [10] (fun i wr=>∃ k:Nat,k≤s.ks.length∧i = .int .i64 k∧Hid (∀ (j:Nat) (a b:EV),j < k→s.ks[j]? = some a→t.ks[j]? = some b→a=b)∧Hid (Below W9.heap.size W9 wr))
        (fun i _=>s.ks.length - (intOf i).toNat)
       case atStart=>exact ⟨0,Nat.zero_le _,rfl,(fun j a b h=>by omega),Below.refl _ _⟩
       case round =>
        obtain ⟨k,hk,rfl,hP,hB⟩:=hrel
        have HK:=Lib.hid (HK9.out.up hB.out)
        have m12:wr.cell? ⟨w.heap.size,12,none⟩=some (.slice x.K s.ks.length x.ck):=HK.out.2.2.1.cell 12
        have n12:wr.cell? ⟨w.heap.size+1,12,none⟩=some (.slice y.K t.ks.length y.ck):=HK.out.2.2.2.cell 12
        by_cases hlt:k < s.ks.length
        ·have hg:s.ks[k]? = some s.ks[k]:=List.getElem?_eq_getElem hlt
         generalize s.ks[k]=u at hg
         have hkm:k < t.ks.length:=by have:=HN_ks.out;omega
         have hg2:t.ks[k]? = some t.ks[k]:=List.getElem?_eq_getElem hkm
         generalize t.ks[k]=v at hg2
         have hki:(k:Int) < (s.ks.length:Int):=by omega
         have hki2:(k:Int) < (t.ks.length:Int):=by omega
         have hki0:(0:Int)≤(k:Int):=by omega
         obtain ⟨b,o,cs1,e91,hb,_,r1,e1⟩:=SlcAt.up eStays (HI9.out.1.K) hB.out k u hg
         obtain ⟨b',o',cs2,e92,hb',_,r2,e2⟩:=SlcAt.up eStays (HI9.out.2.K) hB.out k v hg2
         rw [e91] at m12
         rw [e92] at n12
         obtain rfl:cs1=eL u:=e1
         obtain rfl:cs2=eL v:=e2
         have hq:=fun W:World=>eq_keep (HW.out.1.2.2.2.2.1 u (List.mem_of_getElem? hg)) (HW.out.2.2.2.2.2.1 v (List.mem_of_getElem? hg2)) W
         have HR:=Lib.hid (And.intro r1 r2)
         have HG:=Lib.hid (And.intro hg hg2)
         clear hg hg2 r1 r2 hb hb' e91 e92
         cases he:decide (u=v)
         ·simp only [he] at hq
          have EV:=Lib.hid (show s≠t from fun e=>list_ne HG.out.1 HG.out.2 (of_decide_eq_false he) (by rw [e]))
          clear he
          go_wp2_with fail
          have kq0:=cell_regrown m12
          have kq1:=cell_regrown n12
          refine wp_region_quiet_below (by kernel_rfl) (by kernel_rfl) ?_
          repeat (first | (refine quiet_load_mid (by rfl) 112 _ rfl _ _ rfl _ HR.out.1 _ Try.underlying112 rfl (by kernel_rfl) ?_;simp only [Act.put,List.setIfInBounds_toArray,List.set_cons_zero,List.set_cons_succ]) | (refine quiet_load_mid (by rfl) 112 _ rfl _ _ rfl _ HR.out.2 _ Try.underlying112 rfl (by kernel_rfl) ?_;simp only [Act.put,List.setIfInBounds_toArray,List.set_cons_zero,List.set_cons_succ]) | go_big_quiet_step (first | fail))
          refine wpQuiet_nil ?_
          intro _ hw'
          obtain ⟨⟨dq,osq⟩,hw''⟩:=hw'
          subst hw''
          have hBq:=below_regrown wr dq osq
          clear kq0 kq1
          generalize grow (redrawn wr dq) osq=wq at *
          clear m12 n12
          go_wp2_with fail
          go_ret
          exact ⟨by rw [decide_eq_false EV.out];rfl,below_up HT9.out (below_up hB.out hBq)⟩
         ·simp only [he] at hq
          have HE:=Lib.hid (of_decide_eq_true he)
          clear he
          go_wp2_with fail
          have kq0:=cell_regrown m12
          have kq1:=cell_regrown n12
          refine wp_region_quiet_below (by kernel_rfl) (by kernel_rfl) ?_
          repeat (first | (refine quiet_load_mid (by rfl) 112 _ rfl _ _ rfl _ HR.out.1 _ Try.underlying112 rfl (by kernel_rfl) ?_;simp only [Act.put,List.setIfInBounds_toArray,List.set_cons_zero,List.set_cons_succ]) | (refine quiet_load_mid (by rfl) 112 _ rfl _ _ rfl _ HR.out.2 _ Try.underlying112 rfl (by kernel_rfl) ?_;simp only [Act.put,List.setIfInBounds_toArray,List.set_cons_zero,List.set_cons_succ]) | go_big_quiet_step (first | fail))
          refine wpQuiet_nil ?_
          intro _ hw'
          obtain ⟨⟨dq,osq⟩,hw''⟩:=hw'
          subst hw''
          have hBq:=below_regrown wr dq osq
          clear kq0 kq1
          generalize grow (redrawn wr dq) osq=wq at *
          clear m12 n12
          go_wp2_with fail
          go_roundw
          case rel=>exact ⟨k+1,by omega,by go_num,(fun j a b hj hu hv=>by
              rcases Nat.lt_or_ge j k with h | h
              ·exact hP.out j a b h hu hv
              ·obtain rfl:j=k:=by omega
               rw [HG.out.1] at hu;rw [HG.out.2] at hv;cases hu;cases hv;exact HE.out),below_up hB.out hBq⟩
          case measure=>simp [intOf];omega
        ·obtain rfl:k=s.ks.length:=by omega
         have HE_ks:=Lib.hid (show s.ks=t.ks from list_eq HN_ks.out hP.out)
         have HT9b:=Lib.hid (below_up HT9.out hB.out)
         have HI9b:=Lib.hid (And.intro (HI9.out.1.up hB.out) (HI9.out.2.up hB.out))
         clear hP HT9 HI9 HK9 hlt hk hub
         go_upto_region 27 with fail
         clear m12 n12 hB
         have HK9:=Lib.hid HK.out
         have HT9:=Lib.hid HT9b.out
         have HI9:=Lib.hid HI9b.out
         clear HK HT9b HI9b
         generalize wr=W9 at *
         have m13:W9.cell? ⟨w.heap.size,13,none⟩=some (.slice x.D s.dn.length x.cd):=HK9.out.2.2.1.cell 13
         have n13:W9.cell? ⟨w.heap.size+1,13,none⟩=some (.slice y.D t.dn.length y.cd):=HK9.out.2.2.2.cell 13
         go_wp2_with fail
         refine (rints28 x.D y.D x.cd y.cd s.dn t.dn HT.out.1.D HT.out.2.D _ HI9.out.1.D HI9.out.2.D).mono ?_
         rintro e w1 ⟨rfl,hB1⟩
         have HT1:=Lib.hid (below_up HT9.out hB1)
         have HI1:=Lib.hid (And.intro (HI9.out.1.up hB1) (HI9.out.2.up hB1))
         have HK1:=Lib.hid (HK9.out.up hB1)
         clear hB1 m13 n13 HT9 HI9 HK9
         cases e1:decide (s.dn=t.dn)
         ·go_wp2_with fail
          go_ret
          exact ⟨by rw [decide_eq_false (fun e=>of_decide_eq_false e1 (by rw [e]))];rfl,HT1.out⟩
         ·have HE_dn:=Lib.hid (of_decide_eq_true e1)
          have m14:w1.cell? ⟨w.heap.size,14,none⟩=some (.slice x.S s.sh.length x.cs):=HK1.out.2.2.1.cell 14
          have n14:w1.cell? ⟨w.heap.size+1,14,none⟩=some (.slice y.S t.sh.length y.cs):=HK1.out.2.2.2.cell 14
          go_wp2_with fail
          refine (rints28 x.S y.S x.cs y.cs s.sh t.sh HT.out.1.S HT.out.2.S _ HI1.out.1.S HI1.out.2.S).mono ?_
          rintro e w2 ⟨rfl,hB2⟩
          have HT2:=Lib.hid (below_up HT1.out hB2)
          have HI2:=Lib.hid (And.intro (HI1.out.1.up hB2) (HI1.out.2.up hB2))
          have HK2:=Lib.hid (HK1.out.up hB2)
          clear hB2 m14 n14 HT1 HI1 HK1 e1
          cases e2:decide (s.sh=t.sh)
          ·go_wp2_with fail
           go_ret
           exact ⟨by rw [decide_eq_false (fun e=>of_decide_eq_false e2 (by rw [e]))];rfl,HT2.out⟩
          ·have HE_sh:=Lib.hid (of_decide_eq_true e2)
           have m15:w2.cell? ⟨w.heap.size,15,none⟩=some (.slice x.U s.cu.length x.cu):=HK2.out.2.2.1.cell 15
           have n15:w2.cell? ⟨w.heap.size+1,15,none⟩=some (.slice y.U t.cu.length y.cu):=HK2.out.2.2.2.cell 15
           go_wp2_with fail
           refine (rints28 x.U y.U x.cu y.cu s.cu t.cu HT.out.1.U HT.out.2.U _ HI2.out.1.U HI2.out.2.U).mono ?_
           rintro e w3 ⟨rfl,hB3⟩
           have HT3:=Lib.hid (below_up HT2.out hB3)
           clear hB3 m15 n15 e2 HT2 HI2 HK2
           go_wp2_with fail
           go_ret
           exact ⟨by rw [show decide (s=t)=decide (s.cu=t.cu) from sv_last HE_dims.out HE_bo.out HE_fr.out HE_tr.out HE_ag.out HE_cs.out HE_nw.out HE_nx.out HE_js.out HE_ps.out HE_ks.out HE_dn.out HE_sh.out];rfl,HT3.out⟩
end Go.Proofs.Ytfdldbfjeamlcaa.RecF3
namespace Go.Proofs.Ytfdldbfjeamlcaa.RecF4
set_option maxRecDepth 100000
set_option maxHeartbeats 4000000
open Go.RowKit RecGuard Mem RecMem RecByte RecNum RecEach RecMath RecCommand RecCmdJ RecEq RecKeys RecEqA RecJobs RecJobsA RecVal RecEqual RecEqual2 RecEqJ RecCfgs RecSame RecOwn RecSameA RecF1 RecF2 RecF3
theorem rv_eq3 (r o:RV):decide (r=o)=((r.g == o.g) && (decide (r.s=o.s) && decide (r.c=o.c))):=by
 rw [Bool.eq_iff_iff]
 obtain ⟨_,_,_⟩:=r
 obtain ⟨_,_,_⟩:=o
 simp only [decide_eq_true_eq,Bool.and_eq_true,beq_iff_eq,RV.mk.injEq]
theorem rsame28 (r o:RV) (x y:SA) (Y Z:Option Addr) (cy cz:Nat) (hs:SWf r.s) (ht:SWf o.s) (hc:CWf r.c) (hd:CWf o.c) (hl:RTop r) (hm:RTop o) (w:World) (hx:StAt w r.s x) (hy:StAt w o.s y) (hY:IntsAt w Y r.c.af) (hZ:IntsAt w Z o.c.af) :
    Calls Try.prog 23 #[.agg (rL r x Y cy).toArray,.agg (rL o y Z cz).toArray] w fun e w' => e = .returned (.bool (decide (r=o)))∧Below w.heap.size w w':=by
 have HI:=Lib.hid (And.intro hx hy)
 have HYZ:=Lib.hid (And.intro hY hZ)
 have HW:=Lib.hid (And.intro hs (And.intro ht (And.intro hc hd)))
 have HT:=Lib.hid (And.intro hl hm)
 have HV:=Lib.hid (rv_eq3 r o)
 clear hY hZ hx hy hs ht hc hd hl hm
 go_enter Try.func23,Try.ntmps23
 go_upto_region 1 with fail
 have KA:=Lib.hid ((Blk.new w 51 (rL r x Y cy).toArray).alloc (.cells (rL o y Z cz).toArray 51))
 have KB:=Lib.hid (blk1 w 51 (rL o y Z cz).toArray (o:=.cells (rL r x Y cy).toArray 51))
 have HB:=Lib.hid (below_alloc (o:=.cells (rL o y Z cz).toArray 51) (below_alloc (o:=.cells (rL r x Y cy).toArray 51) (Below.refl w.heap.size w)))
 generalize (w.alloc (.cells (rL r x Y cy).toArray 51)).alloc (.cells (rL o y Z cz).toArray 51)=WB at *
 have a0:WB.cell? ⟨w.heap.size,0,none⟩=some (.int .i64 r.g):=KA.out.cell 0
 have b0:WB.cell? ⟨w.heap.size+1,0,none⟩=some (.int .i64 o.g):=KB.out.cell 0
 have R1:=Lib.hid (show WB.rangeAt w.heap.size 1 (sL r.s x) from range_part (n:=16) KA.out rfl)
 have R2:=Lib.hid (show WB.rangeAt (w.heap.size+1) 1 (sL o.s y) from range_part (n:=16) KB.out rfl)
 cases e0:(r.g == o.g)
 ·go_wp2_with fail
  go_ret
  exact ⟨by rw [HV.out];simp only [e0,Bool.false_and];rfl,HB.out⟩
 ·go_wp2_with (first | (refine wpList_load_mid_g (by rfl) 49 _ rfl _ _ rfl _ _ R1.out Try.underlying49 rfl (by kernel_rfl) ?_) | (refine wpList_load_mid_g (by rfl) 49 _ rfl _ _ rfl _ _ R2.out Try.underlying49 rfl (by kernel_rfl) ?_))
  refine (rsameState28 r.s o.s x y HW.out.1 HW.out.2.1 (rtop_st HT.out.1) (rtop_st HT.out.2) _ (HI.out.1.up HB.out) (HI.out.2.up HB.out)).mono ?_
  rintro e w1 ⟨rfl,hB1⟩
  have HB1:=Lib.hid (below_up HB.out hB1)
  have R3:=Lib.hid (show w1.rangeAt w.heap.size 17 (cL r.c Y cy) from range_part (n:=28) (KA.out.below hB1 KA.out.lt) rfl)
  have R4:=Lib.hid (show w1.rangeAt (w.heap.size+1) 17 (cL o.c Z cz) from range_part (n:=28) (KB.out.below hB1 KB.out.lt) rfl)
  clear hB1 a0 b0 R1 R2 KA KB HB
  cases e1:decide (r.s=o.s)
  ·go_wp2_with fail
   go_ret
   exact ⟨by rw [HV.out];simp only [e0,e1,Bool.false_and,Bool.true_and];rfl,HB1.out⟩
  ·go_wp2_with (first | (refine wpList_load_mid_g (by rfl) 34 _ rfl _ _ rfl _ _ R3.out Try.underlying34 rfl (by kernel_rfl) ?_) | (refine wpList_load_mid_g (by rfl) 34 _ rfl _ _ rfl _ _ R4.out Try.underlying34 rfl (by kernel_rfl) ?_))
   refine (rsameCmd28 r.c o.c Y Z cy cz HW.out.2.2.1 HW.out.2.2.2 HT.out.1.F HT.out.2.F _ (HYZ.out.1.up HB1.out) (HYZ.out.2.up HB1.out)).mono ?_
   rintro e w2 ⟨rfl,hB2⟩
   have HB2:=Lib.hid (below_up HB1.out hB2)
   clear hB2
   go_wp2_with fail
   go_ret
   exact ⟨by rw [HV.out];simp only [e0,e1,Bool.true_and];rfl,HB2.out⟩
end Go.Proofs.Ytfdldbfjeamlcaa.RecF4
namespace Go.Proofs.Ytfdldbfjeamlcaa.RecGreat
set_option maxRecDepth 100000
set_option maxHeartbeats 4000000
open Go.RowKit RecGuard Mem RecMem RecByte RecNum RecEach RecMath RecCommand RecCmdJ RecEq RecKeys RecEqA RecJobs RecJobsA RecVal RecEqual RecEqual2 RecEqJ RecCfgs RecSame RecOwn RecSameA RecF1
def Says (e:Ending):Prop:=∃ B,e = .returned (.bool B)
theorem rgreat28 (r:RV) (x:SA) (Y:Option Addr) (cy:Nat) (ht:RTop r) (w:World) (hx:StAt w r.s x) :
    Calls Try.prog 20 #[.agg (rL r x Y cy).toArray] w fun e w' => Says e∧Below w.heap.size w w':=by
 have HI:=Lib.hid hx
 have HT:=Lib.hid ht
 clear hx ht
 go_enter Try.func20,Try.ntmps20
 go_upto_region 1 with fail
 have KA:=Lib.hid (Blk.new w 51 (rL r x Y cy).toArray)
 have HB:=Lib.hid (below_alloc (o:=.cells (rL r x Y cy).toArray 51) (Below.refl w.heap.size w))
 generalize w.alloc (.cells (rL r x Y cy).toArray 51)=W0 at *
 have R1:=Lib.hid (show W0.rangeAt w.heap.size 1 (sL r.s x) from range_part (n:=16) KA.out rfl)
 have x1:=box_full (W:=W0) 49 Sq.zzS (vs:=(sL r.s x)) rfl
 go_upto_region 2 with (first | (refine wpList_load_mid rfl 49 _ rfl _ _ rfl _ _ R1.out Try.underlying49 rfl (by kernel_rfl) ?_) | (refine wpList_store_mid rfl 49 _ _ rfl W0.heap.size 0 (List.toArray (sL r.s x)) rfl rfl (there_of (Blk.new W0 49 Sq.zzS) (Nat.le_of_ble_eq_true rfl)) (by kernel_rfl) (by kernel_rfl) ?_;simp only [List.toList_toArray];generalize World.setCells _ _ _ _=W1 at *;(try simp only [Act.put])))
 have HB2:=Lib.hid (below_up HB.out x1.2)
 have KA2:=Lib.hid (KA.out.below x1.2 KA.out.lt)
 obtain ⟨g3,hg3⟩:∃ n,n=W0.heap.size:=⟨_,rfl⟩
 rw [← hg3] at x1
 rw [← hg3]
 have K3:=Lib.hid x1.1
 clear x1 R1 KA HB hg3
 have c31:W1.cell? ⟨w.heap.size,31,none⟩=some (.slice Y r.c.af.length cy):=KA2.out.cell 31
 have m7:W1.cell? ⟨g3,7,none⟩=some (.slice x.C r.s.cs.length x.cc):=K3.out.cell 7
 have m10:W1.cell? ⟨g3,10,none⟩=some (.slice x.J r.s.js.length x.cj):=K3.out.cell 10
 have m11:W1.cell? ⟨g3,11,none⟩=some (.slice x.P r.s.ps.length x.cp):=K3.out.cell 11
 have m12:W1.cell? ⟨g3,12,none⟩=some (.slice x.K r.s.ks.length x.ck):=K3.out.cell 12
 have m13:W1.cell? ⟨g3,13,none⟩=some (.slice x.D r.s.dn.length x.cd):=K3.out.cell 13
 have m14:W1.cell? ⟨g3,14,none⟩=some (.slice x.S r.s.sh.length x.cs):=K3.out.cell 14
 have m15:W1.cell? ⟨g3,15,none⟩=some (.slice x.U r.s.cu.length x.cu):=K3.out.cell 15
 have HI1:=Lib.hid (HI.out.up HB2.out)
 go_wp2_with fail
 clear c31 m7 m11 m12 m13 m14 m15 KA2 m10
 have hub:r.s.js.length≤9223372036854775807:=HT.out.J
 go_loopw [4,5] (fun n i wr=>∃ (k:Nat) (u:Int),n = .int .i64 u∧k≤r.s.js.length∧k≤2000∧i = .int .i64 k∧Hid (Below W1.heap.size W1 wr))
  (fun n i _=>r.s.js.length - (intOf i).toNat)
 case atStart=>exact ⟨0,_,rfl,Nat.zero_le _,Nat.zero_le _,rfl,Below.refl _ _⟩
 case round =>
  obtain ⟨k,u,rfl,hk,hk2,rfl,hB⟩:=hrel
  have m10:wr.cell? ⟨g3,10,none⟩=some (.slice x.J r.s.js.length x.cj):=(K3.out.below hB.out K3.out.lt).cell 10
  have HF:=Lib.hid (below_up HB2.out hB.out)
  by_cases hlt:k < r.s.js.length
  ·have hki:(k:Int) < (r.s.js.length:Int):=by omega
   have hki0:(0:Int)≤(k:Int):=by omega
   by_cases h2:k < 2000
   ·have hk20:(k:Int) < 2000:=by omega
    have hg:r.s.js[k]? = some r.s.js[k]:=List.getElem?_eq_getElem hlt
    generalize r.s.js[k]=v at hg
    obtain ⟨b,o,cs,e91,hb,_,r1,Yv,cv,rfl,_,_⟩:=SlcAt.up jStays HI1.out.J hB.out k v hg
    rw [e91] at m10
    have c13:=r1 13 _ rfl
    have HG:=Lib.hid hg
    clear hg e91 r1
    go_wp2_with fail
    go_roundw
    case rel=>exact ⟨k+1,_,rfl,by omega,by omega,by go_num,hB.out⟩
    case measure=>simp [intOf];omega
   ·have hk20:¬ (k:Int) < 2000:=by omega
    go_wp2_with fail
    go_ret
    exact ⟨⟨_,rfl⟩,HF.out⟩
  ·have hki:¬ (k:Int) < (r.s.js.length:Int):=by omega
   go_wp2_with fail
   go_ret
   exact ⟨⟨_,rfl⟩,HF.out⟩
end Go.Proofs.Ytfdldbfjeamlcaa.RecGreat
