/- Several texts joined: The reference's mark of bytes. No conditions but those named. -/
import Derived.Deep.QuietTactic
import Derived.BigQuiet
import Derived.Laws.OwnMore
import Derived.Test.YtfdldbfjeamlcaaPU22
import Derived.Test.YtfdldbfjeamlcaaPG15
import Derived.Deep.DeepCutAuto
import Derived.Deep.MidRow
import Derived.Lib.QuietBelow
import Derived.IntWalk
import Derived.Test.YtfdldbfjeamlcaaPT19
set_option linter.unusedVariables false
set_option linter.unusedSimpArgs false
namespace Go.Proofs.Ytfdldbfjeamlcaa.RlSum
set_option maxHeartbeats 2000000
open Go Go.RowKit MarkMath MarkWalks Mem SeqKit MarkSeq MarkOf RecCod RecWr0 RecRead RecAll
theorem u64_info:(Try.prog.info? 158).map (fun i=>(i.zero,i.size,i.bytes))=some (some (.int .u64 0),1,8):=by kernel_rfl
def wts (n k:Nat):List Value:=(List.range n).map fun i=>Value.int .u64 (if i < k then 0 else wt n i)
theorem wts_length (n k:Nat):(wts n k).length=n:=by simp [wts]
theorem wts_get (n k i:Nat) (h:i < n):(wts n k)[i]? = some (.int .u64 (if i < k then 0 else wt n i)):=by simp [wts,h]
theorem wts_start (n:Nat):List.replicate n (Value.int .u64 0)=wts n n:=by
 apply List.ext_getElem?
 intro i
 by_cases h:i < n
 ·rw [wts_get n n i h,if_pos h];simp [h]
 ·rw [List.getElem?_eq_none (by simp;omega),List.getElem?_eq_none (by rw [wts_length];omega)]
theorem wts_set (n j:Nat) (h:j < n):(wts n (j+1)).set j (.int .u64 (wt n j))=wts n j:=by
 apply List.ext_getElem?
 intro i
 rw [List.getElem?_set]
 by_cases e:j=i
 ·subst e
  rw [if_pos rfl,wts_length,if_pos h,wts_get n j j h,if_neg (by omega)]
 ·rw [if_neg e]
  by_cases hi:i < n
  ·rw [wts_get _ _ _ hi,wts_get _ _ _ hi]
   by_cases h2:i < j
   ·rw [if_pos (by omega),if_pos h2]
   ·rw [if_neg (by omega),if_neg h2]
  ·rw [List.getElem?_eq_none (by rw [wts_length];omega),List.getElem?_eq_none (by rw [wts_length];omega)]
theorem wt_next (n j:Nat) (h:j+1 < n):wt n (j+1)*65537 % 4294967291=wt n j:=by
 unfold wt
 rw [show n - 1 - j=n - 1 - (j+1)+1 from by omega,Int.pow_succ]
 exact (R.mod _).mul (R.refl _)
theorem wt_last (n:Nat):wt (n+1) n=1:=by unfold wt;simp
theorem wts_made (n:Nat):(madeCells (Value.int .u64 0).cells (n*1)).toList=wts n n:=by
 rw [← wts_start,Nat.mul_one]
 apply List.ext_getElem?
 intro i
 by_cases h:i < n
 ·simp [madeCells,Value.cells,h,Nat.mod_one]
 ·simp [madeCells,Value.cells,h]
theorem weights_any (n:Nat) (hn:n≤1048576) (w:World) :
    Calls Try.prog 101 #[.int .i64 n] w fun e w' => (∃ g,e = .returned (.slice (some ⟨g,0,none⟩) n n)∧w'.ownsRow w.heap.size 158 1 (.slice (some ⟨g,0,none⟩) n n) n (wts n 0))∧Below w.heap.size w w':=by
 obtain ⟨i0,hi0,hz0,hz1,hz2⟩:=info_parts u64_info
 go_enter Try.func101,Try.ntmps101
 go_wp2_with (at_make;refine wpList_make_full _ rfl _ _ 170 rfl w.heap.size 158 i0 (.int .u64 0) 1 Try.underlying170 hi0 hz0 hz1 _ _ _ _ n rfl rfl rfl rfl (by rw [hz2];omega) (by unfold maxLen;omega) (Nat.le_refl _) ?_;intro w1 hown hg;rw [wts_made] at hown;have HO:=Lib.hid hown;have HG:=Lib.hid ((Below.refl w.heap.size w).grown hg (Nat.le_refl _) (fun k e=>by cases e));clear hown hg)
 have hsz:∃ g,g=w.heap.size:=⟨_,rfl⟩
 obtain ⟨g,hg⟩:=hsz
 rw [← hg]
 rw [← hg] at HO
 have HGE:=Lib.hid hg
 clear hg
 go_loopw [4,5] (fun x i wr=>∃ (k:Nat) (y:Int),k≤n∧i = .int .i64 ((k:Int) - 1)∧x = .int .u64 y∧0≤y∧y < 4294967291∧Hid (∀ j,k=j+1→y=wt n j)∧Hid (wr.ownsRow w.heap.size 158 1 (.slice (some ⟨g,0,none⟩) n n) n (wts n k))∧Hid (Below w.heap.size w wr))
  (fun _ i _=>(intOf i+1).toNat)
 case atStart=>exact ⟨n,1,Nat.le_refl _,rfl,rfl,by omega,by omega,fun j hj=>by subst hj;exact (wt_last j).symm,by rw [HGE.out] at HO ⊢;exact HO.out,HG.out⟩
 case round =>
  obtain ⟨k,y,hk,rfl,rfl,hy0,hy1,hy,hO,hB⟩:=hrel
  cases k with
  | zero =>
   go_wp2_with fail
   go_ret
   exact ⟨⟨g,rfl,hO.out⟩,hB.out⟩
  | succ j =>
   have hjn:j < n:=by omega
   have ej:(((j+1:Nat):Int) - 1)=(j:Int):=by omega
   rw [ej]
   clear ej
   have hc:=hO.out.cellAt j (by omega)
   have hf:=hO.out.frozenAt j
   rw [wts_get n (j+1) j hjn] at hc
   have hst:=hO.out.stored j (.int .u64 (wt n j))
   rw [wts_set n j hjn] at hst
   have HST:=Lib.hid hst
   have hyj:=hy.out j rfl
   subst hyj
   clear hst
   go_wp2_with fail
   go_roundw
   case rel=>exact ⟨j,_,by omega,rfl,rfl,by omega,by omega,fun i hi=>by subst hi;exact wt_next n i hjn,HST.out.1,hB.out.setCell (p:=⟨g,j,none⟩) (by rw [HGE.out];exact Nat.le_refl _) _⟩
   case measure=>simp [intOf]
theorem own_cell {w W:World} {base g n j:Nat} {e:TypeId} {xs:List Value} {u:Value} (h:w.ownsRow base e 1 (.slice (some ⟨g,0,none⟩) n n) n xs) (hj:j < n) (hu:xs[j]? = some u) (hB:Below w.heap.size w W):W.cell? ⟨g,j,none⟩=some u:=by
 have h1:=h.cellAt j (by omega)
 rw [hu] at h1
 have hlt:g < w.heap.size:=by
  rcases Nat.lt_or_ge g w.heap.size with h2 | h2
  ·exact h2
  ·simp [World.cell?,Array.getElem?_eq_none h2] at h1
 exact (hB.cell (p:=⟨g,j,none⟩) hlt).trans h1
theorem sm_step (l:List Int) (k:Nat) (x:Int) (h:l[k]? = some x):sm l l.length (k+1)=(sm l l.length k+wt l.length k*(x+1)) % 4294967291:=by
 show (sm l l.length k+wt l.length k*(l.getD k 0+1)) % 4294967291=_
 rw [List.getD_eq_getElem?_getD,h];rfl
theorem sum_any (X:Option Addr) (c:Nat) (b:List B8) (hb:b.length≤1048576) (w:World) (hR:Reads w w.heap.size 1 X b.length (u8s (ints b))) :
    Calls Try.prog 72 #[.slice X b.length c] w fun e w' => e = .returned (.int .u32 (mk 0 (ints b)))∧Below w.heap.size w w':=by
 have HR:=Lib.hid hR
 clear hR
 go_enter Try.func72,Try.ntmps72
 go_wp2_with fail
 refine (weights_any b.length hb _).mono ?_
 rintro e w1 ⟨⟨g,rfl,hO⟩,hB⟩
 have HO:=Lib.hid hO
 have HB:=Lib.hid hB
 clear hO hB
 go_wp2_with fail
 go_loopw [4,5] (fun x i wr=>∃ (k:Nat) (y:Int),k≤b.length∧i = .int .i64 k∧x = .int .u64 y∧0≤y∧y < 4294967291∧Hid (y=sm (ints b) b.length k)∧Hid (Below w1.heap.size w1 wr))
  (fun _ i _=>b.length - (intOf i).toNat)
 case atStart=>exact ⟨0,0,Nat.zero_le _,rfl,rfl,by omega,by omega,rfl,Below.refl _ _⟩
 case round =>
  obtain ⟨k,y,hk,rfl,rfl,hy0,hy1,hy,hBr⟩:=hrel
  by_cases hlt:k < b.length
  ·obtain ⟨xb,xo,hX,hxb,hcells⟩:=HR.out.flat (by omega)
   have hux:(u8s (ints b))[k]? = some (.int .u8 b[k].1):=by simp [u8s,ints,hlt]
   have hcx:wr.cell? ⟨xb,xo+k,none⟩=some (.int .u8 b[k].1):=(hBr.out.cell (Nat.lt_of_lt_of_le hxb HB.out.size)).trans ((HB.out.cell hxb).trans (hcells _ _ hux))
   have hcw:wr.cell? ⟨g,k,none⟩=some (.int .u64 (wt b.length k)):=own_cell HO.out hlt (by rw [wts_get _ _ _ hlt,if_neg (by omega)]) hBr.out
   have hstep:=sm_step (ints b) k b[k].1 (by simp [ints,hlt])
   rw [ints_length] at hstep
   have HS:=Lib.hid hstep
   have hwt:=wt_range b.length k
   obtain ⟨hw0,hw1⟩:=hwt
   obtain ⟨hb0,hb1⟩:=b[k].2
   subst hX
   clear hcells hux hstep hxb
   generalize b[k].1=z at *
   have hp0:0≤wt b.length k*(z+1):=Int.mul_nonneg hw0 (by omega)
   have hp1:wt b.length k*(z+1)≤4294967291*256:=Int.mul_le_mul (by omega) (by omega) (by omega) (by omega)
   generalize wt b.length k=t at *
   have hlt':(k:Int) < (b.length:Int):=by omega
   go_wp2_with fail
   go_quiet (fail)
   go_wp2_with fail
   go_roundw
   case rel=>exact ⟨k+1,_,by omega,by go_num,rfl,by omega,by omega,by rw [HS.out,hy.out];rfl,Mem.below_drewN hBr.out _⟩
   case measure=>simp [intOf];omega
  ·obtain rfl:k=b.length:=by omega
   go_wp2_with fail
   go_ret
   refine ⟨?_,HB.out.trans (hBr.out.mono HB.out.size)⟩
   have e:=hy.out
   rw [← ints_length b,sm_mk] at e
   rw [e]
   rfl
theorem sum_txt (X:Option Addr) (n c:Nat) (t:Bs) (hn:n=t.length) (ho:Oct t) (hl:t.length≤1048576) (w:World) (hX:TxtAt w X t) :
    Calls Try.prog 72 #[.slice X n c] w fun e w' => e = .returned (.int .u32 (mk 0 t))∧Below w.heap.size w w':=by
 obtain ⟨b,rfl⟩:=of_bytes t (fun x hx=>by have:=ho x hx;omega)
 subst hn
 have h:=sum_any X c b (by rw [ints_length] at hl;omega) w (by have:=txt_bytes hX;unfold BytesAt at this;rw [ints_length] at this;exact this)
 rw [ints_length]
 exact h
end Go.Proofs.Ytfdldbfjeamlcaa.RlSum
namespace Go.Proofs.Ytfdldbfjeamlcaa.RlFour
set_option maxRecDepth 100000
set_option maxHeartbeats 8000000
open Go Go.Sort Go.RowKit MarkMath Mem RecMem RecByte RecNum RecEach RecMath RecCommand RecCmdJ RecWr0 RecVal RecCod RecCods RecSame RecOwn RecRecC RecRd RecRL0 RecRRec RecRead RecAt RecAll RwNum RwNums RwCmdI RwBytes RwWrite LogFour LogJoin LogWrap LogFrm RlSum 
theorem rfour (n:Int) (h0:0≤n) (h1:n < 4294967296) (w:World) :
    Calls Try.prog 98 #[.int .i64 n] w fun e w' => WR (fourB n) w e w':=by
 have e0:n.tmod 256 % 256=n % 256:=by rw [Int.tmod_eq_emod_of_nonneg h0];omega
 have d1:n.tdiv 256=n / 256:=Int.tdiv_eq_ediv_of_nonneg h0
 have d2:n.tdiv 65536=n / 65536:=Int.tdiv_eq_ediv_of_nonneg h0
 have d3:n.tdiv 16777216=n / 16777216:=Int.tdiv_eq_ediv_of_nonneg h0
 have w1:IntKind.i64.wrap (n / 256)=n / 256:=IntWalk.i64_in _ (by omega)
 have w2:IntKind.i64.wrap (n / 65536)=n / 65536:=IntWalk.i64_in _ (by omega)
 have w3:IntKind.i64.wrap (n / 16777216)=n / 16777216:=IntWalk.i64_in _ (by omega)
 have e1:(n / 256).tmod 256 % 256=n / 256 % 256:=by rw [Int.tmod_eq_emod_of_nonneg (by omega)];omega
 have e2:(n / 65536).tmod 256 % 256=n / 65536 % 256:=by rw [Int.tmod_eq_emod_of_nonneg (by omega)];omega
 have e3:(n / 16777216).tmod 256 % 256=n / 16777216 % 256:=by rw [Int.tmod_eq_emod_of_nonneg (by omega)];omega
 have HE:=Lib.hid (And.intro e0 (And.intro d1 (And.intro d2 (And.intro d3 (And.intro w1 (And.intro w2 (And.intro w3 (And.intro e1 (And.intro e2 e3)))))))))
 clear e0 d1 d2 d3 w1 w2 w3 e1 e2 e3
 go_enter Try.func98,Try.ntmps98
 go_wp2_with fail
 obtain ⟨e0,d1,d2,d3,w1,w2,w3,e1,e2,e3⟩:=HE.out
 have hO:=OwnT.box w (fourB n) _ rfl (by simp [fourB,maxLen])
 have hB:=below_alloc (o:=.cells ((fourB n).map (Value.int .u8)).toArray U8) (Below.refl w.heap.size w)
 simp only [fourB,List.map_cons,List.map_nil,List.length_cons,List.length_nil,Nat.reduceAdd] at hO hB
 first
  | (simp only [d1,d2,d3,w1,w2,w3,e0,e1,e2,e3])
  | skip
 refine bodyPost_ret (v:=.slice (some ⟨w.heap.size,0,none⟩) 4 4) (by simp [results,Try.results98,go_sem]) rfl ?_
 exact WR.mk hO hB
theorem rnumber (X:Option Addr) (t:Bs) (n c k:Nat) (hn:n=t.length) (hk:k+4≤t.length) (ho:Oct t) (hl:t.length≤1000000000) (w:World) (hX:TxtAt w X t) :
    Calls Try.prog 71 #[.slice X n c,.int .i64 (k:Int)] w fun e w' => e = .returned (.int .i64 (num4 (t.drop k)))∧Below w.heap.size w w':=by
 subst hn
 obtain ⟨a,b,d,f,u,ht⟩:=four_of (t:=t.drop k) (by rw [List.length_drop];omega)
 have hX2:∀ (i:Nat) (x:Int),(t.drop k)[i]? = some x→∃ tb o,X=some ⟨tb,o,none⟩∧w.cell? ⟨tb,o+(k+i),none⟩=some (.int .u8 x):=fun i x hi=>by
  rw [List.getElem?_drop] at hi
  obtain ⟨tb,o,e,_,h⟩:=hX (k+i) x hi
  exact ⟨tb,o,e,h⟩
 rw [ht] at hX2
 obtain ⟨tb,o,rfl,x0⟩:=hX2 0 a rfl
 rw [Nat.add_zero] at x0
 obtain ⟨tb1,o1,e1,x1⟩:=hX2 1 b rfl
 cases e1
 obtain ⟨tb2,o2,e2,x2⟩:=hX2 2 d rfl
 cases e2
 obtain ⟨tb3,o3,e3,x3⟩:=hX2 3 f rfl
 cases e3
 have hoct:∀ x ∈ t.drop k,0≤x∧x < 256:=fun x hx=>ho x (List.mem_of_mem_drop hx)
 rw [ht] at hoct
 obtain ⟨ha0,ha1⟩:=hoct a (by simp)
 obtain ⟨hb0,hb1⟩:=hoct b (by simp)
 obtain ⟨hd0,hd1⟩:=hoct d (by simp)
 obtain ⟨hf0,hf1⟩:=hoct f (by simp)
 have HV:=Lib.hid (show num4 (t.drop k)=a+256*b+65536*d+16777216*f by rw [ht];rfl)
 rw [HV.out]
 have hlt:(k:Int)+3 < (t.length:Int):=by omega
 have hk0:(0:Int)≤(k:Int):=by omega
 generalize t.length=N at *
 clear hX hX2 hoct ht ho
 go_enter Try.func71,Try.ntmps71
 go_upto_region 1 with fail
 have q1:IntKind.i64.wrap ((k:Int)+1)=((k+1:Nat):Int):=by rw [IntWalk.i64_in _ (by omega)];omega
 have q2:IntKind.i64.wrap ((k:Int)+2)=((k+2:Nat):Int):=by rw [IntWalk.i64_in _ (by omega)];omega
 have q3:IntKind.i64.wrap ((k:Int)+3)=((k+3:Nat):Int):=by rw [IntWalk.i64_in _ (by omega)];omega
 have i0:(k:Int) < (N:Int):=by omega
 have i1:((k+1:Nat):Int) < (N:Int):=by omega
 have i2:((k+2:Nat):Int) < (N:Int):=by omega
 have i3:((k+3:Nat):Int) < (N:Int):=by omega
 have kq0:=cell_regrown x0
 have kq1:=cell_regrown x1
 have kq2:=cell_regrown x2
 have kq3:=cell_regrown x3
 refine wp_region_quiet_below (by kernel_rfl) (by kernel_rfl) ?_
 repeat (go_big_quiet_step (first | fail))
 refine wpQuiet_nil ?_
 intro _ hw'
 obtain ⟨⟨dq,osq⟩,hw''⟩:=hw'
 subst hw''
 have hBq:=below_regrown w dq osq
 clear kq0 kq1 kq2 kq3
 generalize grow (redrawn w dq) osq=w2 at *
 go_wp2_with fail
 go_ret
 exact ⟨rfl,hBq⟩
end Go.Proofs.Ytfdldbfjeamlcaa.RlFour
namespace Go.Proofs.Ytfdldbfjeamlcaa.RlWrap
set_option maxRecDepth 100000
set_option maxHeartbeats 8000000
open Go Go.Sort Go.RowKit MarkMath Mem RecMem RecByte RecNum RecEach RecMath RecCommand RecCmdJ RecWr0 RecVal RecCod RecCods RecSame RecOwn RecRecC RecRd RecRL0 RecRRec RecRead RecAt RecAll RwNum RwNums RwCmdI RwBytes RwWrite LogFour LogJoin LogWrap LogFrm RlSum RlFour
theorem own_txt2 {w:World} {F:Nat} {V:Option Addr} {cv:Nat} {t:Bs} (h:OwnT w F (.slice V t.length cv) t):TxtAt w V t:=by
 obtain ⟨V2,c2,e,h⟩:=h
 injection e with e1 e2 e3
 subst e1 e3
 exact txt_of (n:=t.length) (Reads.of_own h)
theorem rframed (r:RV) (x:SA) (Y:Option Addr) (cy:Nat) (F:RFacts r) (w:World) (h:RIs w r x Y cy) (hok:okR r) (hl:(recB r).length≤65536) :
    Calls Try.prog 69 #[.agg (rL r x Y cy).toArray] w fun e w' => WR (wrapB r) w e w':=by
 have HBy:=Lib.hid (fun (W:World) (h:RIs W r x Y cy)=>rwbytes r x Y cy F W h hok)
 have HI:=Lib.hid h
 have HOC:=Lib.hid (recB_oct hok)
 have HM:=Lib.hid (mk_in (t:=recB r))
 have ET:=Lib.hid (show wrapB r=(fourB ((recB r).length:Int) ++ fourB (mk 0 (recB r))) ++ recB r from rfl)
 clear h F hok
 go_enter Try.func69,Try.ntmps69
 go_upto_region 1 with fail
 have KA:=Lib.hid (Blk.new w 51 (rL r x Y cy).toArray)
 have HB:=Lib.hid (below_alloc (o:=.cells (rL r x Y cy).toArray 51) (Below.refl w.heap.size w))
 generalize w.alloc (.cells (rL r x Y cy).toArray 51)=W0 at *
 have RA:=Lib.hid (show W0.rangeAt w.heap.size 0 (rL r x Y cy) from range_part (n:=45) KA.out rfl)
 go_wp2_with (first | (refine wpList_load_mid rfl 51 _ rfl _ _ rfl _ _ RA.out Try.underlying51 rfl (by kernel_rfl) ?_))
 refine (HBy.out W0 (HI.out.up HB.out)).mono ?_
 rintro e w1 ⟨v1,rfl,⟨V,cv,rfl,hO⟩,hB1⟩
 generalize recB r=T at *
 have HT:=Lib.hid (show OwnT w1 W0.heap.size (.slice V T.length cv) T from ⟨V,cv,rfl,hO⟩)
 have HB1:=Lib.hid (HB.out.trans (hB1.mono HB.out.size))
 have hTm:T.length≤9223372036854775807:=by omega
 clear hO hB1 RA HBy HI KA
 go_wp2_with fail
 refine (rfour (T.length:Int) (by omega) (by omega) w1).mono ?_
 rintro e w2 ⟨v2,rfl,hO2,hB2⟩
 have H2:=Lib.hid (And.intro hO2 hB2)
 have hs2:w1.heap.size≤w2.heap.size:=hB2.size
 clear hO2 hB2
 go_wp2_with fail
 refine (sum_txt V T.length cv T rfl HOC.out (by omega) w2 (own_txt2 (HT.out.up H2.out.2))).mono ?_
 rintro e w3 ⟨rfl,hB3⟩
 obtain ⟨M,hM⟩:∃ M,M=mk 0 T:=⟨_,rfl⟩
 have hm:=HM.out
 rw [← hM] at hm
 rw [← hM]
 obtain ⟨hm0,hm1⟩:=hm
 have H3:=Lib.hid (And.intro (H2.out.1.up hB3) (H2.out.2.trans (hB3.mono hs2)))
 have hs3:w1.heap.size≤w3.heap.size:=H3.out.2.size
 have HME:=Lib.hid hM
 clear hB3 H2 hM HM
 go_wp2_with fail
 refine (rfour M hm0 (by omega) w3).mono ?_
 rintro e w4 ⟨v4,rfl,hO4,hB4⟩
 have H4:=Lib.hid (And.intro (H3.out.1.up hB4) (And.intro hO4 (H3.out.2.trans (hB4.mono hs3))))
 have hs4:w1.heap.size≤w4.heap.size:=H4.out.2.2.size
 have hl1:(fourB (T.length:Int)).length+(fourB M).length≤140737488355328:=by simp [fourB]
 clear hO4 hB4 H3
 go_upto_region 4 with (first | (at_builtin;refine wpList_cat rfl (.tmp 10) (.tmp 14) rfl w1.heap.size v2 v4 (fourB (T.length:Int)) (fourB M) rfl rfl H4.out.1 H4.out.2.1.txt hl1 hs4 ?_;intro v5 w5 hO hB;have H5:=Lib.hid (And.intro hO (H4.out.2.2.trans hB));clear hO hB))
 have hs5:w1.heap.size≤w5.heap.size:=H5.out.2.size
 have hl2:(fourB (T.length:Int) ++ fourB M).length+T.length≤140737488355328:=by simp [fourB];omega
 clear H4
 go_wp2_with (first | (at_builtin;refine wpList_cat rfl (.tmp 16) (.tmp 17) rfl w1.heap.size v5 (.slice V T.length cv) (fourB (T.length:Int) ++ fourB M) T rfl rfl H5.out.1 (HT.out.up H5.out.2).txt hl2 hs5 ?_;intro v6 w6 hO hB;have H6:=Lib.hid (And.intro hO (H5.out.2.trans hB));clear hO hB))
 refine bodyPost_ret (v:=v6) (by simp [results,Try.results69,go_sem]) rfl ?_
 rw [ET.out,← HME.out]
 exact WR.mk (H6.out.1.mono HB1.out.size) (HB1.out.trans (H6.out.2.mono HB1.out.size))
theorem rwrap (r:RV) (x:SA) (Y:Option Addr) (cy:Nat) (F:RFacts r) (w:World) (h:RIs w r x Y cy) :
    Calls Try.prog 38 #[.agg (rL r x Y cy).toArray] w fun e w' =>
     (∃ X n cc v,e = .returned (.tuple #[.slice X n cc,.int .i64 v])∧WV r v∧(v≠0→n=0)∧(v=0→n=(wrapB r).length∧n≤9223372036854775807∧BytesAt w' X (wrapB r)))∧Below w.heap.size w w':=by
 have HF:=Lib.hid F
 have HI:=Lib.hid h
 clear h F
 go_enter Try.func38,Try.ntmps38
 go_upto_region 1 with fail
 have KA:=Lib.hid (Blk.new w 51 (rL r x Y cy).toArray)
 have HB:=Lib.hid (below_alloc (o:=.cells (rL r x Y cy).toArray 51) (Below.refl w.heap.size w))
 generalize w.alloc (.cells (rL r x Y cy).toArray 51)=W0 at *
 have RA:=Lib.hid (show W0.rangeAt w.heap.size 0 (rL r x Y cy) from range_part (n:=45) KA.out rfl)
 go_wp2_with (first | (refine wpList_load_mid rfl 51 _ rfl _ _ rfl _ _ RA.out Try.underlying51 rfl (by kernel_rfl) ?_))
 refine (rwwrite r x Y cy HF.out W0 (HI.out.up HB.out)).mono ?_
 rintro e w1 ⟨⟨X1,n1,c1,v1,rfl,hV,hn1,hc1,hz1,hv1⟩,hB1⟩
 have HB1:=Lib.hid (below_up HB.out hB1)
 have KA1:=Lib.hid (KA.out.below hB1 KA.out.lt)
 have HI1:=Lib.hid ((HI.out.up HB.out).up hB1)
 have HV:=Lib.hid hV
 clear hB1 hV hn1 hc1 hz1 hv1 RA KA HI HB
 by_cases h0:v1=0
 ·have hok:=HV.out.ok.1 h0
  have HW:=Lib.hid (rframed r x Y cy HF.out w1 HI1.out hok.1 hok.2)
  have HOK:=Lib.hid hok
  have RA:=Lib.hid (show w1.rangeAt w.heap.size 0 (rL r x Y cy) from range_part (n:=45) KA1.out rfl)
  subst h0
  clear hok
  go_wp2_with (first | (refine wpList_load_mid rfl 51 _ rfl _ _ rfl _ _ RA.out Try.underlying51 rfl (by kernel_rfl) ?_))
  refine HW.out.mono ?_
  rintro e w2 ⟨v2,rfl,⟨V,cv,rfl,hO⟩,hB2⟩
  have HB2:=Lib.hid (below_up HB1.out hB2)
  have HO:=Lib.hid hO
  clear hB2 hO HW RA
  go_wp2_with fail
  refine bodyPost_ret (v:=.tuple #[.slice V (wrapB r).length cv,.int .i64 0]) (by simp [results,Try.results38,go_sem]) rfl ⟨⟨V,(wrapB r).length,cv,0,rfl,HV.out,fun e=>absurd rfl e,fun _=>⟨rfl,by rw [wrapB_len];have:=HOK.out.2;omega,Reads.of_own HO.out⟩⟩,HB2.out⟩
 ·have h1:(v1 != 0)=true:=by simpa using h0
  have h2:=Lib.hid h0
  clear h0
  go_wp2_with fail
  refine bodyPost_ret (v:=.tuple #[.slice none 0 0,.int .i64 v1]) (by simp [results,Try.results38,go_sem]) rfl ⟨⟨none,0,0,v1,rfl,HV.out,fun _=>rfl,fun e=>absurd e h2.out⟩,HB1.out⟩
end Go.Proofs.Ytfdldbfjeamlcaa.RlWrap
