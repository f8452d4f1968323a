/- Several texts joined: rec.port's num, where it reads. -/
import Derived.Laws.BitsAllLaws
import Derived.Test.YtfdldbfjeamlcaaPG7
import Derived.Test.YtfdldbfjeamlcaaPG3
import Derived.Deep.RegionLaw
import Derived.Deep.DeepCutAuto
set_option linter.unusedVariables false
set_option linter.unusedSimpArgs false
namespace Go.Proofs.Ytfdldbfjeamlcaa.RecRNum
set_option maxRecDepth 100000
set_option maxHeartbeats 4000000
open Go.RowKit Mem RecMem RecByte RecNum RecEach RecMath RecCod RecPort RecCommand RecCmdJ RecVal RecSame RecOwn RecRd RecRByte
theorem valB_snoc:∀ (s:Bs) (x:Int),valB (s ++ [x])=valB s+x*256 ^ s.length
 | [],x=>by simp [valB]
 | y :: s,x=>by
  show y+256*valB (s ++ [x])=y+256*valB s+x*256 ^ (s.length+1)
  rw [valB_snoc s x,Int.pow_succ,Int.mul_add,← Int.mul_assoc,← Int.mul_assoc,Int.mul_comm 256 x,Int.mul_right_comm x 256 _]
  omega
theorem numDec_none {t s:Bs} (h:t=s ++ []) (hs:s.length < 8):numDec t=none:=by
 unfold numDec
 rw [if_neg (by rw [h,List.append_nil];omega)]
theorem numDec_some {t s r:Bs} (h:t=s ++ r) (hs:s.length=8):numDec t=some (numV s,r):=by
 unfold numDec
 rw [if_pos (by rw [h,List.length_append];omega),h,← hs,List.take_left,List.drop_left]
theorem rnum (B gp:Nat) (X:Option Addr) (t:Bs) (c:Nat) (od:Bool) (b o:Nat) (T:TypeId) (cs:Array Value) (w:World) (hP:PR B w gp X t c od) (hK:Blk w b T cs) (hz:ZAt cs o [.int .i64 0]) (hb:B≤b) (hne:b≠gp) :
    Calls Try.prog 74 #[.pointer (some ⟨gp,0,none⟩),.pointer (some ⟨b,o,none⟩)] w fun e w' => RPl numL numDec B gp b T cs o t od w e w':=by
 have hcb:w.cell? ⟨b,o,none⟩=some (.int .i64 0):=(hK.cell o).trans (hz 0 _ rfl)
 have hbs:=hK.lt
 have hgs:=hP.lt
 have H0:=Lib.hid (And.intro hP (And.intro hK (And.intro hb hne)))
 clear hP hK hz hb hne
 go_enter Try.func74,Try.ntmps74
 go_wp2_with fail
 go_loopw [5,6,7,12] (fun out _ _ i wr=>∃ (k:Nat) (s t':Bs) (X':Option Addr) (c':Nat) (V:Int),k≤8∧i = .int .i64 k∧out = .int .u64 V∧Hid (0≤V∧V < 256 ^ k∧V=valB s)∧Hid (t=s ++ t'∧s.length=k)∧Hid (PR B wr gp X' t' c' od)∧Hid (FrR gp gp w wr))
  (fun _ _ _ i _=>8 - (intOf i).toNat)
 case atStart=>exact ⟨0,[],t,X,c,0,by omega,rfl,rfl,⟨by omega,by simp,rfl⟩,⟨rfl,rfl⟩,H0.out.1,FrR.refl _ _ _⟩
 case round =>
  obtain ⟨k,s,t',X',c',V,hk,rfl,rfl,HV,HS,hP',hFr⟩:=hrel
  match k,hk with
  | 0,_ =>
   have HC:=Lib.hid (rbyte B gp X' t' c' od wr.heap.size 0 5 #[.int .u8 0] (wr.alloc (.cells #[.int .u8 0] 5)) (hP'.out.alloc _) (Blk.new wr 5 #[.int .u8 0]) (zat_one _) (by have:=hP'.out.lt;have:=hP'.out.low;omega) (by have:=hP'.out.lt;omega))
   have hnew:wr.heap.size < (wr.alloc (.cells #[.int .u8 0] 5)).heap.size:=by simp
   have hb1:0≤V:=HV.out.1
   have hb2:V < 1:=HV.out.2.1
   go_wp2_with fail
   refine HC.out.mono ?_
   rintro e w2 (⟨rfl,hd,hf⟩ | ⟨⟨r,rfl⟩,X2,c2,t2,x,hd,hl,hP2,hK2,hf2⟩)
   ·have hn:numDec t=none:=by
     match t',hd with
     | [],_=>exact numDec_none HS.out.1 (by rw [HS.out.2];omega)
    have HN:=Lib.hid (And.intro hn (((hFr.out.alloc (.cells #[.int .u8 0] 5)).trans_new hf (by have:=hFr.out.size;simpa using this)).weak (b:=b)))
    clear hd hn hf HC
    go_wp2_with fail
    exact ⟨rfl,Or.inl ⟨rfl,HN.out⟩⟩
   ·have ht:t' = x :: t2:=by
     match t',hd with
     | y :: t'',hd=>cases hd;rfl
    have ho:0≤x∧x < 256:=hP'.out.oct x (by rw [ht];simp)
    have h0:0≤x:=ho.1
    have h255:x≤255:=by omega
    have hx:w2.cell? ⟨wr.heap.size,0,none⟩=some (.int .u8 x):=hK2.cell 0
    have H2:=Lib.hid (And.intro ht (And.intro hP2 ((hFr.out.alloc (.cells #[.int .u8 0] 5)).trans_new hf2 (by have:=hFr.out.size;simpa using this))))
    have HO:=Lib.hid ho
    clear hd hl hP2 hK2 hf2 ht HC ho
    go_wp2_with fail
    go_roundw
    case measure=>simp [intOf]
    refine ⟨1,s ++ [x],t2,X2,c2,_,by omega,rfl,rfl,⟨?_,?_,?_⟩,⟨?_,by rw [List.length_append,HS.out.2];rfl⟩,H2.out.2.1,H2.out.2.2⟩
    ·have e1:=Go.u64_or V x (by omega) (by omega) (by omega) (by omega)
     first
     | (rw [e1];have e2:V.toNat=0:=by omega
        rw [e2,Nat.zero_or];omega)
     | omega
    ·have e1:=Go.u64_or V x (by omega) (by omega) (by omega) (by omega)
     first
     | (rw [e1];have e2:V.toNat=0:=by omega
        rw [e2,Nat.zero_or];omega)
     | omega
    ·rw [valB_snoc,HS.out.2,← HV.out.2.2]
     show _=V+x*1
     have e1:=Go.u64_or V x (by omega) (by omega) (by omega) (by omega)
     first
     | (rw [e1];have e2:V.toNat=0:=by omega
        rw [e2,Nat.zero_or];omega)
     | omega
    ·rw [HS.out.1,H2.out.1];simp
  | 1,_ =>
   have HC:=Lib.hid (rbyte B gp X' t' c' od wr.heap.size 0 5 #[.int .u8 0] (wr.alloc (.cells #[.int .u8 0] 5)) (hP'.out.alloc _) (Blk.new wr 5 #[.int .u8 0]) (zat_one _) (by have:=hP'.out.lt;have:=hP'.out.low;omega) (by have:=hP'.out.lt;omega))
   have hnew:wr.heap.size < (wr.alloc (.cells #[.int .u8 0] 5)).heap.size:=by simp
   have hb1:0≤V:=HV.out.1
   have hb2:V < 256:=HV.out.2.1
   go_wp2_with fail
   refine HC.out.mono ?_
   rintro e w2 (⟨rfl,hd,hf⟩ | ⟨⟨r,rfl⟩,X2,c2,t2,x,hd,hl,hP2,hK2,hf2⟩)
   ·have hn:numDec t=none:=by
     match t',hd with
     | [],_=>exact numDec_none HS.out.1 (by rw [HS.out.2];omega)
    have HN:=Lib.hid (And.intro hn (((hFr.out.alloc (.cells #[.int .u8 0] 5)).trans_new hf (by have:=hFr.out.size;simpa using this)).weak (b:=b)))
    clear hd hn hf HC
    go_wp2_with fail
    exact ⟨rfl,Or.inl ⟨rfl,HN.out⟩⟩
   ·have ht:t' = x :: t2:=by
     match t',hd with
     | y :: t'',hd=>cases hd;rfl
    have ho:0≤x∧x < 256:=hP'.out.oct x (by rw [ht];simp)
    have h0:0≤x:=ho.1
    have h255:x≤255:=by omega
    have hx:w2.cell? ⟨wr.heap.size,0,none⟩=some (.int .u8 x):=hK2.cell 0
    have H2:=Lib.hid (And.intro ht (And.intro hP2 ((hFr.out.alloc (.cells #[.int .u8 0] 5)).trans_new hf2 (by have:=hFr.out.size;simpa using this))))
    have HO:=Lib.hid ho
    clear hd hl hP2 hK2 hf2 ht HC ho
    go_wp2_with fail
    go_roundw
    case measure=>simp [intOf]
    refine ⟨2,s ++ [x],t2,X2,c2,_,by omega,rfl,rfl,⟨?_,?_,?_⟩,⟨?_,by rw [List.length_append,HS.out.2];rfl⟩,H2.out.2.1,H2.out.2.2⟩
    ·have e0:=Go.u64_or V (x*256) (by omega) (by omega) (by omega) (by omega)
     have e1:=Nat.two_pow_add_eq_or_of_lt (i:=8) (b:=V.toNat) (by omega) x.toNat
     have e2:(x*256).toNat=2 ^ 8*x.toNat:=by omega
     rw [e2,Nat.or_comm,← e1] at e0
     rw [e0]
     omega
    ·have e0:=Go.u64_or V (x*256) (by omega) (by omega) (by omega) (by omega)
     have e1:=Nat.two_pow_add_eq_or_of_lt (i:=8) (b:=V.toNat) (by omega) x.toNat
     have e2:(x*256).toNat=2 ^ 8*x.toNat:=by omega
     rw [e2,Nat.or_comm,← e1] at e0
     rw [e0]
     omega
    ·rw [valB_snoc,HS.out.2,← HV.out.2.2]
     show _=V+x*256
     have e0:=Go.u64_or V (x*256) (by omega) (by omega) (by omega) (by omega)
     have e1:=Nat.two_pow_add_eq_or_of_lt (i:=8) (b:=V.toNat) (by omega) x.toNat
     have e2:(x*256).toNat=2 ^ 8*x.toNat:=by omega
     rw [e2,Nat.or_comm,← e1] at e0
     rw [e0]
     omega
    ·rw [HS.out.1,H2.out.1];simp
  | 2,_ =>
   have HC:=Lib.hid (rbyte B gp X' t' c' od wr.heap.size 0 5 #[.int .u8 0] (wr.alloc (.cells #[.int .u8 0] 5)) (hP'.out.alloc _) (Blk.new wr 5 #[.int .u8 0]) (zat_one _) (by have:=hP'.out.lt;have:=hP'.out.low;omega) (by have:=hP'.out.lt;omega))
   have hnew:wr.heap.size < (wr.alloc (.cells #[.int .u8 0] 5)).heap.size:=by simp
   have hb1:0≤V:=HV.out.1
   have hb2:V < 65536:=HV.out.2.1
   go_wp2_with fail
   refine HC.out.mono ?_
   rintro e w2 (⟨rfl,hd,hf⟩ | ⟨⟨r,rfl⟩,X2,c2,t2,x,hd,hl,hP2,hK2,hf2⟩)
   ·have hn:numDec t=none:=by
     match t',hd with
     | [],_=>exact numDec_none HS.out.1 (by rw [HS.out.2];omega)
    have HN:=Lib.hid (And.intro hn (((hFr.out.alloc (.cells #[.int .u8 0] 5)).trans_new hf (by have:=hFr.out.size;simpa using this)).weak (b:=b)))
    clear hd hn hf HC
    go_wp2_with fail
    exact ⟨rfl,Or.inl ⟨rfl,HN.out⟩⟩
   ·have ht:t' = x :: t2:=by
     match t',hd with
     | y :: t'',hd=>cases hd;rfl
    have ho:0≤x∧x < 256:=hP'.out.oct x (by rw [ht];simp)
    have h0:0≤x:=ho.1
    have h255:x≤255:=by omega
    have hx:w2.cell? ⟨wr.heap.size,0,none⟩=some (.int .u8 x):=hK2.cell 0
    have H2:=Lib.hid (And.intro ht (And.intro hP2 ((hFr.out.alloc (.cells #[.int .u8 0] 5)).trans_new hf2 (by have:=hFr.out.size;simpa using this))))
    have HO:=Lib.hid ho
    clear hd hl hP2 hK2 hf2 ht HC ho
    go_wp2_with fail
    go_roundw
    case measure=>simp [intOf]
    refine ⟨3,s ++ [x],t2,X2,c2,_,by omega,rfl,rfl,⟨?_,?_,?_⟩,⟨?_,by rw [List.length_append,HS.out.2];rfl⟩,H2.out.2.1,H2.out.2.2⟩
    ·have e0:=Go.u64_or V (x*65536) (by omega) (by omega) (by omega) (by omega)
     have e1:=Nat.two_pow_add_eq_or_of_lt (i:=16) (b:=V.toNat) (by omega) x.toNat
     have e2:(x*65536).toNat=2 ^ 16*x.toNat:=by omega
     rw [e2,Nat.or_comm,← e1] at e0
     rw [e0]
     omega
    ·have e0:=Go.u64_or V (x*65536) (by omega) (by omega) (by omega) (by omega)
     have e1:=Nat.two_pow_add_eq_or_of_lt (i:=16) (b:=V.toNat) (by omega) x.toNat
     have e2:(x*65536).toNat=2 ^ 16*x.toNat:=by omega
     rw [e2,Nat.or_comm,← e1] at e0
     rw [e0]
     omega
    ·rw [valB_snoc,HS.out.2,← HV.out.2.2]
     show _=V+x*65536
     have e0:=Go.u64_or V (x*65536) (by omega) (by omega) (by omega) (by omega)
     have e1:=Nat.two_pow_add_eq_or_of_lt (i:=16) (b:=V.toNat) (by omega) x.toNat
     have e2:(x*65536).toNat=2 ^ 16*x.toNat:=by omega
     rw [e2,Nat.or_comm,← e1] at e0
     rw [e0]
     omega
    ·rw [HS.out.1,H2.out.1];simp
  | 3,_ =>
   have HC:=Lib.hid (rbyte B gp X' t' c' od wr.heap.size 0 5 #[.int .u8 0] (wr.alloc (.cells #[.int .u8 0] 5)) (hP'.out.alloc _) (Blk.new wr 5 #[.int .u8 0]) (zat_one _) (by have:=hP'.out.lt;have:=hP'.out.low;omega) (by have:=hP'.out.lt;omega))
   have hnew:wr.heap.size < (wr.alloc (.cells #[.int .u8 0] 5)).heap.size:=by simp
   have hb1:0≤V:=HV.out.1
   have hb2:V < 16777216:=HV.out.2.1
   go_wp2_with fail
   refine HC.out.mono ?_
   rintro e w2 (⟨rfl,hd,hf⟩ | ⟨⟨r,rfl⟩,X2,c2,t2,x,hd,hl,hP2,hK2,hf2⟩)
   ·have hn:numDec t=none:=by
     match t',hd with
     | [],_=>exact numDec_none HS.out.1 (by rw [HS.out.2];omega)
    have HN:=Lib.hid (And.intro hn (((hFr.out.alloc (.cells #[.int .u8 0] 5)).trans_new hf (by have:=hFr.out.size;simpa using this)).weak (b:=b)))
    clear hd hn hf HC
    go_wp2_with fail
    exact ⟨rfl,Or.inl ⟨rfl,HN.out⟩⟩
   ·have ht:t' = x :: t2:=by
     match t',hd with
     | y :: t'',hd=>cases hd;rfl
    have ho:0≤x∧x < 256:=hP'.out.oct x (by rw [ht];simp)
    have h0:0≤x:=ho.1
    have h255:x≤255:=by omega
    have hx:w2.cell? ⟨wr.heap.size,0,none⟩=some (.int .u8 x):=hK2.cell 0
    have H2:=Lib.hid (And.intro ht (And.intro hP2 ((hFr.out.alloc (.cells #[.int .u8 0] 5)).trans_new hf2 (by have:=hFr.out.size;simpa using this))))
    have HO:=Lib.hid ho
    clear hd hl hP2 hK2 hf2 ht HC ho
    go_wp2_with fail
    go_roundw
    case measure=>simp [intOf]
    refine ⟨4,s ++ [x],t2,X2,c2,_,by omega,rfl,rfl,⟨?_,?_,?_⟩,⟨?_,by rw [List.length_append,HS.out.2];rfl⟩,H2.out.2.1,H2.out.2.2⟩
    ·have e0:=Go.u64_or V (x*16777216) (by omega) (by omega) (by omega) (by omega)
     have e1:=Nat.two_pow_add_eq_or_of_lt (i:=24) (b:=V.toNat) (by omega) x.toNat
     have e2:(x*16777216).toNat=2 ^ 24*x.toNat:=by omega
     rw [e2,Nat.or_comm,← e1] at e0
     rw [e0]
     omega
    ·have e0:=Go.u64_or V (x*16777216) (by omega) (by omega) (by omega) (by omega)
     have e1:=Nat.two_pow_add_eq_or_of_lt (i:=24) (b:=V.toNat) (by omega) x.toNat
     have e2:(x*16777216).toNat=2 ^ 24*x.toNat:=by omega
     rw [e2,Nat.or_comm,← e1] at e0
     rw [e0]
     omega
    ·rw [valB_snoc,HS.out.2,← HV.out.2.2]
     show _=V+x*16777216
     have e0:=Go.u64_or V (x*16777216) (by omega) (by omega) (by omega) (by omega)
     have e1:=Nat.two_pow_add_eq_or_of_lt (i:=24) (b:=V.toNat) (by omega) x.toNat
     have e2:(x*16777216).toNat=2 ^ 24*x.toNat:=by omega
     rw [e2,Nat.or_comm,← e1] at e0
     rw [e0]
     omega
    ·rw [HS.out.1,H2.out.1];simp
  | 4,_ =>
   have HC:=Lib.hid (rbyte B gp X' t' c' od wr.heap.size 0 5 #[.int .u8 0] (wr.alloc (.cells #[.int .u8 0] 5)) (hP'.out.alloc _) (Blk.new wr 5 #[.int .u8 0]) (zat_one _) (by have:=hP'.out.lt;have:=hP'.out.low;omega) (by have:=hP'.out.lt;omega))
   have hnew:wr.heap.size < (wr.alloc (.cells #[.int .u8 0] 5)).heap.size:=by simp
   have hb1:0≤V:=HV.out.1
   have hb2:V < 4294967296:=HV.out.2.1
   go_wp2_with fail
   refine HC.out.mono ?_
   rintro e w2 (⟨rfl,hd,hf⟩ | ⟨⟨r,rfl⟩,X2,c2,t2,x,hd,hl,hP2,hK2,hf2⟩)
   ·have hn:numDec t=none:=by
     match t',hd with
     | [],_=>exact numDec_none HS.out.1 (by rw [HS.out.2];omega)
    have HN:=Lib.hid (And.intro hn (((hFr.out.alloc (.cells #[.int .u8 0] 5)).trans_new hf (by have:=hFr.out.size;simpa using this)).weak (b:=b)))
    clear hd hn hf HC
    go_wp2_with fail
    exact ⟨rfl,Or.inl ⟨rfl,HN.out⟩⟩
   ·have ht:t' = x :: t2:=by
     match t',hd with
     | y :: t'',hd=>cases hd;rfl
    have ho:0≤x∧x < 256:=hP'.out.oct x (by rw [ht];simp)
    have h0:0≤x:=ho.1
    have h255:x≤255:=by omega
    have hx:w2.cell? ⟨wr.heap.size,0,none⟩=some (.int .u8 x):=hK2.cell 0
    have H2:=Lib.hid (And.intro ht (And.intro hP2 ((hFr.out.alloc (.cells #[.int .u8 0] 5)).trans_new hf2 (by have:=hFr.out.size;simpa using this))))
    have HO:=Lib.hid ho
    clear hd hl hP2 hK2 hf2 ht HC ho
    go_wp2_with fail
    go_roundw
    case measure=>simp [intOf]
    refine ⟨5,s ++ [x],t2,X2,c2,_,by omega,rfl,rfl,⟨?_,?_,?_⟩,⟨?_,by rw [List.length_append,HS.out.2];rfl⟩,H2.out.2.1,H2.out.2.2⟩
    ·have e0:=Go.u64_or V (x*4294967296) (by omega) (by omega) (by omega) (by omega)
     have e1:=Nat.two_pow_add_eq_or_of_lt (i:=32) (b:=V.toNat) (by omega) x.toNat
     have e2:(x*4294967296).toNat=2 ^ 32*x.toNat:=by omega
     rw [e2,Nat.or_comm,← e1] at e0
     rw [e0]
     omega
    ·have e0:=Go.u64_or V (x*4294967296) (by omega) (by omega) (by omega) (by omega)
     have e1:=Nat.two_pow_add_eq_or_of_lt (i:=32) (b:=V.toNat) (by omega) x.toNat
     have e2:(x*4294967296).toNat=2 ^ 32*x.toNat:=by omega
     rw [e2,Nat.or_comm,← e1] at e0
     rw [e0]
     omega
    ·rw [valB_snoc,HS.out.2,← HV.out.2.2]
     show _=V+x*4294967296
     have e0:=Go.u64_or V (x*4294967296) (by omega) (by omega) (by omega) (by omega)
     have e1:=Nat.two_pow_add_eq_or_of_lt (i:=32) (b:=V.toNat) (by omega) x.toNat
     have e2:(x*4294967296).toNat=2 ^ 32*x.toNat:=by omega
     rw [e2,Nat.or_comm,← e1] at e0
     rw [e0]
     omega
    ·rw [HS.out.1,H2.out.1];simp
  | 5,_ =>
   have HC:=Lib.hid (rbyte B gp X' t' c' od wr.heap.size 0 5 #[.int .u8 0] (wr.alloc (.cells #[.int .u8 0] 5)) (hP'.out.alloc _) (Blk.new wr 5 #[.int .u8 0]) (zat_one _) (by have:=hP'.out.lt;have:=hP'.out.low;omega) (by have:=hP'.out.lt;omega))
   have hnew:wr.heap.size < (wr.alloc (.cells #[.int .u8 0] 5)).heap.size:=by simp
   have hb1:0≤V:=HV.out.1
   have hb2:V < 1099511627776:=HV.out.2.1
   go_wp2_with fail
   refine HC.out.mono ?_
   rintro e w2 (⟨rfl,hd,hf⟩ | ⟨⟨r,rfl⟩,X2,c2,t2,x,hd,hl,hP2,hK2,hf2⟩)
   ·have hn:numDec t=none:=by
     match t',hd with
     | [],_=>exact numDec_none HS.out.1 (by rw [HS.out.2];omega)
    have HN:=Lib.hid (And.intro hn (((hFr.out.alloc (.cells #[.int .u8 0] 5)).trans_new hf (by have:=hFr.out.size;simpa using this)).weak (b:=b)))
    clear hd hn hf HC
    go_wp2_with fail
    exact ⟨rfl,Or.inl ⟨rfl,HN.out⟩⟩
   ·have ht:t' = x :: t2:=by
     match t',hd with
     | y :: t'',hd=>cases hd;rfl
    have ho:0≤x∧x < 256:=hP'.out.oct x (by rw [ht];simp)
    have h0:0≤x:=ho.1
    have h255:x≤255:=by omega
    have hx:w2.cell? ⟨wr.heap.size,0,none⟩=some (.int .u8 x):=hK2.cell 0
    have H2:=Lib.hid (And.intro ht (And.intro hP2 ((hFr.out.alloc (.cells #[.int .u8 0] 5)).trans_new hf2 (by have:=hFr.out.size;simpa using this))))
    have HO:=Lib.hid ho
    clear hd hl hP2 hK2 hf2 ht HC ho
    go_wp2_with fail
    go_roundw
    case measure=>simp [intOf]
    refine ⟨6,s ++ [x],t2,X2,c2,_,by omega,rfl,rfl,⟨?_,?_,?_⟩,⟨?_,by rw [List.length_append,HS.out.2];rfl⟩,H2.out.2.1,H2.out.2.2⟩
    ·have e0:=Go.u64_or V (x*1099511627776) (by omega) (by omega) (by omega) (by omega)
     have e1:=Nat.two_pow_add_eq_or_of_lt (i:=40) (b:=V.toNat) (by omega) x.toNat
     have e2:(x*1099511627776).toNat=2 ^ 40*x.toNat:=by omega
     rw [e2,Nat.or_comm,← e1] at e0
     rw [e0]
     omega
    ·have e0:=Go.u64_or V (x*1099511627776) (by omega) (by omega) (by omega) (by omega)
     have e1:=Nat.two_pow_add_eq_or_of_lt (i:=40) (b:=V.toNat) (by omega) x.toNat
     have e2:(x*1099511627776).toNat=2 ^ 40*x.toNat:=by omega
     rw [e2,Nat.or_comm,← e1] at e0
     rw [e0]
     omega
    ·rw [valB_snoc,HS.out.2,← HV.out.2.2]
     show _=V+x*1099511627776
     have e0:=Go.u64_or V (x*1099511627776) (by omega) (by omega) (by omega) (by omega)
     have e1:=Nat.two_pow_add_eq_or_of_lt (i:=40) (b:=V.toNat) (by omega) x.toNat
     have e2:(x*1099511627776).toNat=2 ^ 40*x.toNat:=by omega
     rw [e2,Nat.or_comm,← e1] at e0
     rw [e0]
     omega
    ·rw [HS.out.1,H2.out.1];simp
  | 6,_ =>
   have HC:=Lib.hid (rbyte B gp X' t' c' od wr.heap.size 0 5 #[.int .u8 0] (wr.alloc (.cells #[.int .u8 0] 5)) (hP'.out.alloc _) (Blk.new wr 5 #[.int .u8 0]) (zat_one _) (by have:=hP'.out.lt;have:=hP'.out.low;omega) (by have:=hP'.out.lt;omega))
   have hnew:wr.heap.size < (wr.alloc (.cells #[.int .u8 0] 5)).heap.size:=by simp
   have hb1:0≤V:=HV.out.1
   have hb2:V < 281474976710656:=HV.out.2.1
   go_wp2_with fail
   refine HC.out.mono ?_
   rintro e w2 (⟨rfl,hd,hf⟩ | ⟨⟨r,rfl⟩,X2,c2,t2,x,hd,hl,hP2,hK2,hf2⟩)
   ·have hn:numDec t=none:=by
     match t',hd with
     | [],_=>exact numDec_none HS.out.1 (by rw [HS.out.2];omega)
    have HN:=Lib.hid (And.intro hn (((hFr.out.alloc (.cells #[.int .u8 0] 5)).trans_new hf (by have:=hFr.out.size;simpa using this)).weak (b:=b)))
    clear hd hn hf HC
    go_wp2_with fail
    exact ⟨rfl,Or.inl ⟨rfl,HN.out⟩⟩
   ·have ht:t' = x :: t2:=by
     match t',hd with
     | y :: t'',hd=>cases hd;rfl
    have ho:0≤x∧x < 256:=hP'.out.oct x (by rw [ht];simp)
    have h0:0≤x:=ho.1
    have h255:x≤255:=by omega
    have hx:w2.cell? ⟨wr.heap.size,0,none⟩=some (.int .u8 x):=hK2.cell 0
    have H2:=Lib.hid (And.intro ht (And.intro hP2 ((hFr.out.alloc (.cells #[.int .u8 0] 5)).trans_new hf2 (by have:=hFr.out.size;simpa using this))))
    have HO:=Lib.hid ho
    clear hd hl hP2 hK2 hf2 ht HC ho
    go_wp2_with fail
    go_roundw
    case measure=>simp [intOf]
    refine ⟨7,s ++ [x],t2,X2,c2,_,by omega,rfl,rfl,⟨?_,?_,?_⟩,⟨?_,by rw [List.length_append,HS.out.2];rfl⟩,H2.out.2.1,H2.out.2.2⟩
    ·have e0:=Go.u64_or V (x*281474976710656) (by omega) (by omega) (by omega) (by omega)
     have e1:=Nat.two_pow_add_eq_or_of_lt (i:=48) (b:=V.toNat) (by omega) x.toNat
     have e2:(x*281474976710656).toNat=2 ^ 48*x.toNat:=by omega
     rw [e2,Nat.or_comm,← e1] at e0
     rw [e0]
     omega
    ·have e0:=Go.u64_or V (x*281474976710656) (by omega) (by omega) (by omega) (by omega)
     have e1:=Nat.two_pow_add_eq_or_of_lt (i:=48) (b:=V.toNat) (by omega) x.toNat
     have e2:(x*281474976710656).toNat=2 ^ 48*x.toNat:=by omega
     rw [e2,Nat.or_comm,← e1] at e0
     rw [e0]
     omega
    ·rw [valB_snoc,HS.out.2,← HV.out.2.2]
     show _=V+x*281474976710656
     have e0:=Go.u64_or V (x*281474976710656) (by omega) (by omega) (by omega) (by omega)
     have e1:=Nat.two_pow_add_eq_or_of_lt (i:=48) (b:=V.toNat) (by omega) x.toNat
     have e2:(x*281474976710656).toNat=2 ^ 48*x.toNat:=by omega
     rw [e2,Nat.or_comm,← e1] at e0
     rw [e0]
     omega
    ·rw [HS.out.1,H2.out.1];simp
  | 7,_ =>
   have HC:=Lib.hid (rbyte B gp X' t' c' od wr.heap.size 0 5 #[.int .u8 0] (wr.alloc (.cells #[.int .u8 0] 5)) (hP'.out.alloc _) (Blk.new wr 5 #[.int .u8 0]) (zat_one _) (by have:=hP'.out.lt;have:=hP'.out.low;omega) (by have:=hP'.out.lt;omega))
   have hnew:wr.heap.size < (wr.alloc (.cells #[.int .u8 0] 5)).heap.size:=by simp
   have hb1:0≤V:=HV.out.1
   have hb2:V < 72057594037927936:=HV.out.2.1
   go_wp2_with fail
   refine HC.out.mono ?_
   rintro e w2 (⟨rfl,hd,hf⟩ | ⟨⟨r,rfl⟩,X2,c2,t2,x,hd,hl,hP2,hK2,hf2⟩)
   ·have hn:numDec t=none:=by
     match t',hd with
     | [],_=>exact numDec_none HS.out.1 (by rw [HS.out.2];omega)
    have HN:=Lib.hid (And.intro hn (((hFr.out.alloc (.cells #[.int .u8 0] 5)).trans_new hf (by have:=hFr.out.size;simpa using this)).weak (b:=b)))
    clear hd hn hf HC
    go_wp2_with fail
    exact ⟨rfl,Or.inl ⟨rfl,HN.out⟩⟩
   ·have ht:t' = x :: t2:=by
     match t',hd with
     | y :: t'',hd=>cases hd;rfl
    have ho:0≤x∧x < 256:=hP'.out.oct x (by rw [ht];simp)
    have h0:0≤x:=ho.1
    have h255:x≤255:=by omega
    have hx:w2.cell? ⟨wr.heap.size,0,none⟩=some (.int .u8 x):=hK2.cell 0
    have H2:=Lib.hid (And.intro ht (And.intro hP2 ((hFr.out.alloc (.cells #[.int .u8 0] 5)).trans_new hf2 (by have:=hFr.out.size;simpa using this))))
    have HO:=Lib.hid ho
    clear hd hl hP2 hK2 hf2 ht HC ho
    go_wp2_with fail
    go_roundw
    case measure=>simp [intOf]
    refine ⟨8,s ++ [x],t2,X2,c2,_,by omega,rfl,rfl,⟨?_,?_,?_⟩,⟨?_,by rw [List.length_append,HS.out.2];rfl⟩,H2.out.2.1,H2.out.2.2⟩
    ·have e0:=Go.u64_or V (x*72057594037927936) (by omega) (by omega) (by omega) (by omega)
     have e1:=Nat.two_pow_add_eq_or_of_lt (i:=56) (b:=V.toNat) (by omega) x.toNat
     have e2:(x*72057594037927936).toNat=2 ^ 56*x.toNat:=by omega
     rw [e2,Nat.or_comm,← e1] at e0
     rw [e0]
     omega
    ·have e0:=Go.u64_or V (x*72057594037927936) (by omega) (by omega) (by omega) (by omega)
     have e1:=Nat.two_pow_add_eq_or_of_lt (i:=56) (b:=V.toNat) (by omega) x.toNat
     have e2:(x*72057594037927936).toNat=2 ^ 56*x.toNat:=by omega
     rw [e2,Nat.or_comm,← e1] at e0
     rw [e0]
     omega
    ·rw [valB_snoc,HS.out.2,← HV.out.2.2]
     show _=V+x*72057594037927936
     have e0:=Go.u64_or V (x*72057594037927936) (by omega) (by omega) (by omega) (by omega)
     have e1:=Nat.two_pow_add_eq_or_of_lt (i:=56) (b:=V.toNat) (by omega) x.toNat
     have e2:(x*72057594037927936).toNat=2 ^ 56*x.toNat:=by omega
     rw [e2,Nat.or_comm,← e1] at e0
     rw [e0]
     omega
    ·rw [HS.out.1,H2.out.1];simp
  | 8,_ =>
   have hKb:Blk wr b T cs:=hFr.out.blk H0.out.2.1 H0.out.2.2.2 H0.out.2.2.2
   have hcb2:wr.cell? ⟨b,o,none⟩=some (.int .i64 0):=by rw [hKb.cell o,← H0.out.2.1.cell o];exact hcb
   have f2:=hKb.frozen o
   have HK:=Lib.hid hKb
   clear hKb hcb
   go_wp2_with fail
   go_end0
   refine Or.inr ⟨⟨_,rfl⟩,X',c',t',numV s,numDec_some HS.out.1 HS.out.2,by rw [HS.out.1,List.length_append];omega,hP'.out.set_ H0.out.2.2.2 H0.out.2.2.1 _,?_,(hFr.out.weak (b:=b)).set_ (.inr (.inl rfl)) _⟩
   have hv:numV s=wrap64 V:=by unfold numV;rw [← HV.out.2.2,IntWalk.i64_left]
   show Blk _ b T (cs.setIfInBounds o (.int .i64 (numV s)))
   rw [hv]
   exact HK.out.set_ o _
end Go.Proofs.Ytfdldbfjeamlcaa.RecRNum
namespace Go.Proofs.Ytfdldbfjeamlcaa.RecREach
set_option maxRecDepth 100000
set_option maxHeartbeats 1000000
open Go.RowKit Mem RecMem RecByte RecNum RecEach RecMath RecCod RecCods RecPort RecCommand RecCmdJ RecVal RecSame RecOwn RecRd RecRByte RecRNum
section
variable {α β:Type} {L1:α→List Value} {L2:β→List Value} {d1:Bs→Option (α × Bs)} {d2:Bs→Option (β × Bs)} {B gp b:Nat} {T:TypeId} {cs:Array Value} {o:Nat} {t t1:Bs} {od:Bool} {w w1 w2:World} {x:α} {e:Ending}
theorem RPl.pair (n:Nat) (hn:(L1 x).length=n) (h1:d1 t=some (x,t1)) (hl:t1.length≤t.length) (hf:FrR gp b w w1) (h2:RPl L2 d2 B gp b T (setA cs o (L1 x)) (o+n) t1 od w1 e w2):RPl (fun p:α × β=>L1 p.1 ++ L2 p.2) (pairDec d1 d2) B gp b T cs o t od w e w2:=by
 rcases h2 with ⟨rfl,h3,h4⟩ | ⟨hr,X,c,t2,y,h3,h4,h5,h6,h7⟩
 ·exact .inl ⟨rfl,pairDec_none2 h1 h3,hf.trans h4⟩
 ·refine .inr ⟨hr,X,c,t2,(x,y),pairDec_some h1 h3,Nat.le_trans h4 hl,h5,?_,hf.trans h7⟩
  rw [setA_app,hn]
  exact h6
theorem RPl.iso {f:α→β} {L:β→List Value} (hL:∀ x,L (f x)=L1 x) (h:RPl L1 d1 B gp b T cs o t od w e w1):RPl L (fun t=>(d1 t).map fun p=>(f p.1,p.2)) B gp b T cs o t od w e w1:=by
 rcases h with ⟨rfl,h3,h4⟩ | ⟨hr,X,c,t2,y,h3,h4,h5,h6,h7⟩
 ·exact .inl ⟨rfl,by simp only [h3];rfl,h4⟩
 ·exact .inr ⟨hr,X,c,t2,f y,by simp only [h3];rfl,h4,h5,by rw [hL];exact h6,h7⟩
theorem RPl.none (h:d1 t=none) (hf:FrR gp b w w1):RPl L1 d1 B gp b T cs o t od w (.panicked RE) w1:=.inl ⟨rfl,h,hf⟩
theorem zat_next {zs us vs:List Value} (n:Nat) (h:ZAt cs o (zs ++ us)) (hz:zs.length=n) (hv:vs.length=n) (hp:0 < us.length):ZAt (setA cs o vs) (o+n) us:=by
 have hr:=h.right
 rw [hz] at hr
 have:=hr.size hp
 exact hr.set_ (by omega) (by omega)
end
abbrev n3L (p:I3):List Value:=(numL p.1.1 ++ numL p.1.2) ++ numL p.2
abbrev t3L (p:B3):List Value:=(truthL p.1.1 ++ truthL p.1.2) ++ truthL p.2
theorem rn3 (B gp:Nat) (X:Option Addr) (t:Bs) (c:Nat) (od:Bool) (b o:Nat) (T:TypeId) (cs:Array Value) (w:World) (hP:PR B w gp X t c od) (hK:Blk w b T cs) (hz:ZAt cs o [.int .i64 0,.int .i64 0,.int .i64 0]) (hb:B≤b) (hne:b≠gp) :
    Calls Try.prog 107 #[.slice (some ⟨b,o,none⟩) 3 3,.func (.func 74) #[.pointer (some ⟨gp,0,none⟩)] #[]] w fun e w' => RPl n3L n3C.dec B gp b T cs o t od w e w':=by
 have H0:=Lib.hid (And.intro hP (And.intro hK (And.intro hz (And.intro hb hne))))
 clear hP hK hz hb hne
 go_enter Try.func107,Try.ntmps107
 have HC1:=Lib.hid (rnum B gp X t c od b (o) T cs w H0.out.1 H0.out.2.1 (ZAt.left (zs:=[.int .i64 0]) (us:=[.int .i64 0,.int .i64 0]) H0.out.2.2.1) H0.out.2.2.2.1 H0.out.2.2.2.2)
 go_wp2_with fail
 refine wp_loop_rounds 4 ?_
 rw [rounds_succ]
 go_wp2_with fail
 refine HC1.out.mono ?_
 intro e w1 hj
 rcases hj with ⟨rfl,hd,hf⟩ | ⟨⟨r1,rfl⟩,X1,c1,t1,x1,hd,hl,hP,hK,hf⟩
 ·have HN:=Lib.hid (show n3C.dec t=none∧FrR gp b w w1 from ⟨pairDec_none1 (pairDec_none1 (hd)),hf⟩)
  clear hd hf HC1
  go_wp2_with fail
  exact ⟨rfl,(Or.inl ⟨rfl,HN.out⟩)⟩
 have H1:=Lib.hid (And.intro hP (And.intro hK (And.intro (zat_next 1 (zs:=[.int .i64 0]) (us:=[.int .i64 0,.int .i64 0]) (vs:=numL x1) H0.out.2.2.1 (by simp) (by simp) (by simp)) (And.intro hd (And.intro hl hf)))))
 clear hP hK hd hl hf HC1
 have HC2:=Lib.hid (rnum B gp X1 t1 c1 od b (o+1) T (setA cs (o) (numL x1)) w1 H1.out.1 H1.out.2.1 (ZAt.left (zs:=[.int .i64 0]) (us:=[.int .i64 0]) H1.out.2.2.1) H0.out.2.2.2.1 H0.out.2.2.2.2)
 go_wp2_with fail
 rw [rounds_succ]
 go_wp2_with fail
 refine HC2.out.mono ?_
 intro e w2 hj
 replace hj:=RPl.pair (L1:=numL) (d1:=numDec) (x:=x1) 1 (by simp) H1.out.2.2.2.1 H1.out.2.2.2.2.1 H1.out.2.2.2.2.2 hj
 rcases hj with ⟨rfl,hd,hf⟩ | ⟨⟨r2,rfl⟩,X2,c2,t2,x2,hd,hl,hP,hK,hf⟩
 ·have HN:=Lib.hid (show n3C.dec t=none∧FrR gp b w w2 from ⟨pairDec_none1 (hd),hf⟩)
  clear hd hf HC2
  go_wp2_with fail
  exact ⟨rfl,(Or.inl ⟨rfl,HN.out⟩)⟩
 have H2:=Lib.hid (And.intro hP (And.intro hK (And.intro (zat_next 2 (zs:=[.int .i64 0,.int .i64 0]) (us:=[.int .i64 0]) (vs:=(numL x2.1 ++ numL x2.2)) H0.out.2.2.1 (by simp) (by simp) (by simp)) (And.intro hd (And.intro hl hf)))))
 clear hP hK hd hl hf HC2
 have HC3:=Lib.hid (rnum B gp X2 t2 c2 od b (o+2) T (setA cs (o) ((numL x2.1 ++ numL x2.2))) w2 H2.out.1 H2.out.2.1 (ZAt.left (zs:=[.int .i64 0]) (us:=[]) H2.out.2.2.1) H0.out.2.2.2.1 H0.out.2.2.2.2)
 go_wp2_with fail
 rw [rounds_succ]
 go_wp2_with fail
 refine HC3.out.mono ?_
 intro e w3 hj
 replace hj:=RPl.pair (L1:=(fun p:(Int × Int)=>(numL p.1 ++ numL p.2))) (d1:=(pairDec numDec numDec)) (x:=x2) 2 (by simp) H2.out.2.2.2.1 H2.out.2.2.2.2.1 H2.out.2.2.2.2.2 hj
 rcases hj with ⟨rfl,hd,hf⟩ | ⟨⟨r3,rfl⟩,X3,c3,t3,x3,hd,hl,hP,hK,hf⟩
 ·have HN:=Lib.hid (show n3C.dec t=none∧FrR gp b w w3 from ⟨hd,hf⟩)
  clear hd hf HC3
  go_wp2_with fail
  exact ⟨rfl,(Or.inl ⟨rfl,HN.out⟩)⟩
 have HE:=Lib.hid (And.intro hd (And.intro hl (And.intro hP (And.intro hK hf))))
 clear hd hl hP hK hf HC3
 go_wp2_with fail
 rw [rounds_succ]
 go_wp2_with fail
 go_end0
 exact (Or.inr ⟨⟨_,rfl⟩,X3,c3,t3,x3,HE.out⟩)
theorem rt3 (B gp:Nat) (X:Option Addr) (t:Bs) (c:Nat) (od:Bool) (b o:Nat) (T:TypeId) (cs:Array Value) (w:World) (hP:PR B w gp X t c od) (hK:Blk w b T cs) (hz:ZAt cs o [.bool false,.bool false,.bool false]) (hb:B≤b) (hne:b≠gp) :
    Calls Try.prog 128 #[.slice (some ⟨b,o,none⟩) 3 3,.func (.func 106) #[.pointer (some ⟨gp,0,none⟩)] #[]] w fun e w' => RPl t3L t3C.dec B gp b T cs o t od w e w':=by
 have H0:=Lib.hid (And.intro hP (And.intro hK (And.intro hz (And.intro hb hne))))
 clear hP hK hz hb hne
 go_enter Try.func128,Try.ntmps128
 have HC1:=Lib.hid (rtruth B gp X t c od b (o) T cs w H0.out.1 H0.out.2.1 (ZAt.left (zs:=[.bool false]) (us:=[.bool false,.bool false]) H0.out.2.2.1) H0.out.2.2.2.1 H0.out.2.2.2.2)
 go_wp2_with fail
 refine wp_loop_rounds 4 ?_
 rw [rounds_succ]
 go_wp2_with fail
 refine HC1.out.mono ?_
 intro e w1 hj
 rcases hj with ⟨rfl,hd,hf⟩ | ⟨⟨r1,rfl⟩,X1,c1,t1,x1,hd,hl,hP,hK,hf⟩
 ·have HN:=Lib.hid (show t3C.dec t=none∧FrR gp b w w1 from ⟨pairDec_none1 (pairDec_none1 (hd)),hf⟩)
  clear hd hf HC1
  go_wp2_with fail
  exact ⟨rfl,(Or.inl ⟨rfl,HN.out⟩)⟩
 have H1:=Lib.hid (And.intro hP (And.intro hK (And.intro (zat_next 1 (zs:=[.bool false]) (us:=[.bool false,.bool false]) (vs:=truthL x1) H0.out.2.2.1 (by simp) (by simp) (by simp)) (And.intro hd (And.intro hl hf)))))
 clear hP hK hd hl hf HC1
 have HC2:=Lib.hid (rtruth B gp X1 t1 c1 od b (o+1) T (setA cs (o) (truthL x1)) w1 H1.out.1 H1.out.2.1 (ZAt.left (zs:=[.bool false]) (us:=[.bool false]) H1.out.2.2.1) H0.out.2.2.2.1 H0.out.2.2.2.2)
 go_wp2_with fail
 rw [rounds_succ]
 go_wp2_with fail
 refine HC2.out.mono ?_
 intro e w2 hj
 replace hj:=RPl.pair (L1:=truthL) (d1:=truthDec) (x:=x1) 1 (by simp) H1.out.2.2.2.1 H1.out.2.2.2.2.1 H1.out.2.2.2.2.2 hj
 rcases hj with ⟨rfl,hd,hf⟩ | ⟨⟨r2,rfl⟩,X2,c2,t2,x2,hd,hl,hP,hK,hf⟩
 ·have HN:=Lib.hid (show t3C.dec t=none∧FrR gp b w w2 from ⟨pairDec_none1 (hd),hf⟩)
  clear hd hf HC2
  go_wp2_with fail
  exact ⟨rfl,(Or.inl ⟨rfl,HN.out⟩)⟩
 have H2:=Lib.hid (And.intro hP (And.intro hK (And.intro (zat_next 2 (zs:=[.bool false,.bool false]) (us:=[.bool false]) (vs:=(truthL x2.1 ++ truthL x2.2)) H0.out.2.2.1 (by simp) (by simp) (by simp)) (And.intro hd (And.intro hl hf)))))
 clear hP hK hd hl hf HC2
 have HC3:=Lib.hid (rtruth B gp X2 t2 c2 od b (o+2) T (setA cs (o) ((truthL x2.1 ++ truthL x2.2))) w2 H2.out.1 H2.out.2.1 (ZAt.left (zs:=[.bool false]) (us:=[]) H2.out.2.2.1) H0.out.2.2.2.1 H0.out.2.2.2.2)
 go_wp2_with fail
 rw [rounds_succ]
 go_wp2_with fail
 refine HC3.out.mono ?_
 intro e w3 hj
 replace hj:=RPl.pair (L1:=(fun p:(Bool × Bool)=>(truthL p.1 ++ truthL p.2))) (d1:=(pairDec truthDec truthDec)) (x:=x2) 2 (by simp) H2.out.2.2.2.1 H2.out.2.2.2.2.1 H2.out.2.2.2.2.2 hj
 rcases hj with ⟨rfl,hd,hf⟩ | ⟨⟨r3,rfl⟩,X3,c3,t3,x3,hd,hl,hP,hK,hf⟩
 ·have HN:=Lib.hid (show t3C.dec t=none∧FrR gp b w w3 from ⟨hd,hf⟩)
  clear hd hf HC3
  go_wp2_with fail
  exact ⟨rfl,(Or.inl ⟨rfl,HN.out⟩)⟩
 have HE:=Lib.hid (And.intro hd (And.intro hl (And.intro hP (And.intro hK hf))))
 clear hd hl hP hK hf HC3
 go_wp2_with fail
 rw [rounds_succ]
 go_wp2_with fail
 go_end0
 exact (Or.inr ⟨⟨_,rfl⟩,X3,c3,t3,x3,HE.out⟩)
end Go.Proofs.Ytfdldbfjeamlcaa.RecREach
namespace Go.Proofs.Ytfdldbfjeamlcaa.RecRFlat
set_option maxRecDepth 100000
set_option maxHeartbeats 1000000
open Go.RowKit Mem RecMem RecByte RecNum RecEach RecMath RecCod RecCods RecPort RecCommand RecCmdJ RecVal RecSame RecOwn RecRd RecRByte RecRNum RecREach
theorem iso_none {α β:Type} {d:Bs→Option (α × Bs)} {t:Bs} {f:α→β} (h:d t=none):((d t).map fun p=>(f p.1,p.2))=none:=by rw [h];rfl
theorem RPl.pre {α:Type} {L:α→List Value} {d:Bs→Option (α × Bs)} {B gp b:Nat} {T:TypeId} {cs:Array Value} {o:Nat} {t:Bs} {od:Bool} {w w0 w1:World} {e:Ending} (hf:FrR gp b w w0) (h:RPl L d B gp b T cs o t od w0 e w1):RPl L d B gp b T cs o t od w e w1:=by
 rcases h with ⟨rfl,h3,h4⟩ | ⟨hr,X,c,t2,y,h3,h4,h5,h6,h7⟩
 ·exact .inl ⟨rfl,h3,hf.trans h4⟩
 ·exact .inr ⟨hr,X,c,t2,y,h3,h4,h5,h6,hf.trans h7⟩
abbrev boxL (p:I3 × I3):List Value:=n3L p.1 ++ n3L p.2
abbrev spanL (p:Int × Int):List Value:=numL p.1 ++ numL p.2
abbrev wantsL (p:(I3 × B3) × Bool):List Value:=(n3L p.1.1 ++ t3L p.1.2) ++ truthL p.2
abbrev placeL (p:(I3 × I3) × B3):List Value:=boxL p.1 ++ t3L p.2
theorem rspan (B gp:Nat) (X:Option Addr) (t:Bs) (c:Nat) (od:Bool) (b o:Nat) (T:TypeId) (cs:Array Value) (w:World) (hP:PR B w gp X t c od) (hK:Blk w b T cs) (hz:ZAt cs o [.int .i64 0,.int .i64 0]) (hb:B≤b) (hne:b≠gp) :
    Calls Try.prog 105 #[.pointer (some ⟨gp,0,none⟩),.pointer (some ⟨b,o,none⟩)] w fun e w' => RPl spanL spanC.dec B gp b T cs o t od w e w':=by
 have H0:=Lib.hid (And.intro hP (And.intro hK (And.intro hz (And.intro hb hne))))
 clear hP hK hz hb hne
 go_enter Try.func105,Try.ntmps105
 have HC1:=Lib.hid (rnum B gp X t c od b (o) T cs w H0.out.1 H0.out.2.1 (ZAt.left (zs:=[.int .i64 0]) (us:=[.int .i64 0]) H0.out.2.2.1) H0.out.2.2.2.1 H0.out.2.2.2.2)
 go_wp2_with fail
 refine HC1.out.mono ?_
 intro e w1 hj
 rcases hj with ⟨rfl,hd,hf⟩ | ⟨⟨r1,rfl⟩,X1,c1,t1,x1,hd,hl,hP,hK,hf⟩
 ·have HN:=Lib.hid (show spanC.dec t=none∧FrR gp b w w1 from ⟨pairDec_none1 (hd),hf⟩)
  clear hd hf HC1
  go_wp2_with fail
  exact ⟨rfl,(Or.inl ⟨rfl,HN.out⟩)⟩
 have H1:=Lib.hid (And.intro hP (And.intro hK (And.intro (zat_next 1 (zs:=[.int .i64 0]) (us:=[.int .i64 0]) (vs:=numL x1) H0.out.2.2.1 (by simp) (by simp) (by simp)) (And.intro hd (And.intro hl hf)))))
 clear hP hK hd hl hf HC1
 have HC2:=Lib.hid (rnum B gp X1 t1 c1 od b (o+1) T (setA cs (o) (numL x1)) w1 H1.out.1 H1.out.2.1 (ZAt.left (zs:=[.int .i64 0]) (us:=[]) H1.out.2.2.1) H0.out.2.2.2.1 H0.out.2.2.2.2)
 go_wp2_with fail
 refine HC2.out.mono ?_
 intro e w2 hj
 replace hj:=RPl.pair (L1:=numL) (d1:=numDec) (x:=x1) 1 (by simp) H1.out.2.2.2.1 H1.out.2.2.2.2.1 H1.out.2.2.2.2.2 hj
 rcases hj with ⟨rfl,hd,hf⟩ | ⟨⟨r2,rfl⟩,X2,c2,t2,x2,hd,hl,hP,hK,hf⟩
 ·have HN:=Lib.hid (show spanC.dec t=none∧FrR gp b w w2 from ⟨hd,hf⟩)
  clear hd hf HC2
  go_wp2_with fail
  exact ⟨rfl,(Or.inl ⟨rfl,HN.out⟩)⟩
 have HE:=Lib.hid (And.intro hd (And.intro hl (And.intro hP (And.intro hK hf))))
 clear hd hl hP hK hf HC2
 go_wp2_with fail
 go_end0
 exact (Or.inr ⟨⟨_,rfl⟩,X2,c2,t2,x2,HE.out⟩)
theorem rbox (B gp:Nat) (X:Option Addr) (t:Bs) (c:Nat) (od:Bool) (b o:Nat) (T:TypeId) (cs:Array Value) (w:World) (hP:PR B w gp X t c od) (hK:Blk w b T cs) (hz:ZAt cs o [.int .i64 0,.int .i64 0,.int .i64 0,.int .i64 0,.int .i64 0,.int .i64 0]) (hb:B≤b) (hne:b≠gp) :
    Calls Try.prog 104 #[.pointer (some ⟨gp,0,none⟩),.pointer (some ⟨b,o,none⟩)] w fun e w' => RPl boxL boxC.dec B gp b T cs o t od w e w':=by
 have H0:=Lib.hid (And.intro hP (And.intro hK (And.intro hz (And.intro hb hne))))
 clear hP hK hz hb hne
 go_enter Try.func104,Try.ntmps104
 have HC1:=Lib.hid (rn3 B gp X t c od b (o) T cs w H0.out.1 H0.out.2.1 (ZAt.left (zs:=[.int .i64 0,.int .i64 0,.int .i64 0]) (us:=[.int .i64 0,.int .i64 0,.int .i64 0]) H0.out.2.2.1) H0.out.2.2.2.1 H0.out.2.2.2.2)
 go_wp2_with fail
 refine HC1.out.mono ?_
 intro e w1 hj
 rcases hj with ⟨rfl,hd,hf⟩ | ⟨⟨r1,rfl⟩,X1,c1,t1,x1,hd,hl,hP,hK,hf⟩
 ·have HN:=Lib.hid (show boxC.dec t=none∧FrR gp b w w1 from ⟨pairDec_none1 (hd),hf⟩)
  clear hd hf HC1
  go_wp2_with fail
  exact ⟨rfl,(Or.inl ⟨rfl,HN.out⟩)⟩
 have H1:=Lib.hid (And.intro hP (And.intro hK (And.intro (zat_next 3 (zs:=[.int .i64 0,.int .i64 0,.int .i64 0]) (us:=[.int .i64 0,.int .i64 0,.int .i64 0]) (vs:=n3L x1) H0.out.2.2.1 (by simp) (by simp) (by simp)) (And.intro hd (And.intro hl hf)))))
 clear hP hK hd hl hf HC1
 have HC2:=Lib.hid (rn3 B gp X1 t1 c1 od b (o+3) T (setA cs (o) (n3L x1)) w1 H1.out.1 H1.out.2.1 (ZAt.left (zs:=[.int .i64 0,.int .i64 0,.int .i64 0]) (us:=[]) H1.out.2.2.1) H0.out.2.2.2.1 H0.out.2.2.2.2)
 go_wp2_with fail
 refine HC2.out.mono ?_
 intro e w2 hj
 replace hj:=RPl.pair (L1:=n3L) (d1:=n3C.dec) (x:=x1) 3 (by simp) H1.out.2.2.2.1 H1.out.2.2.2.2.1 H1.out.2.2.2.2.2 hj
 rcases hj with ⟨rfl,hd,hf⟩ | ⟨⟨r2,rfl⟩,X2,c2,t2,x2,hd,hl,hP,hK,hf⟩
 ·have HN:=Lib.hid (show boxC.dec t=none∧FrR gp b w w2 from ⟨hd,hf⟩)
  clear hd hf HC2
  go_wp2_with fail
  exact ⟨rfl,(Or.inl ⟨rfl,HN.out⟩)⟩
 have HE:=Lib.hid (And.intro hd (And.intro hl (And.intro hP (And.intro hK hf))))
 clear hd hl hP hK hf HC2
 go_wp2_with fail
 go_end0
 exact (Or.inr ⟨⟨_,rfl⟩,X2,c2,t2,x2,HE.out⟩)
theorem rwants (B gp:Nat) (X:Option Addr) (t:Bs) (c:Nat) (od:Bool) (b o:Nat) (T:TypeId) (cs:Array Value) (w:World) (hP:PR B w gp X t c od) (hK:Blk w b T cs) (hz:ZAt cs o [.int .i64 0,.int .i64 0,.int .i64 0,.bool false,.bool false,.bool false,.bool false]) (hb:B≤b) (hne:b≠gp) :
    Calls Try.prog 124 #[.pointer (some ⟨gp,0,none⟩),.pointer (some ⟨b,o,none⟩)] w fun e w' => RPl wantsL wantsC.dec B gp b T cs o t od w e w':=by
 have H0:=Lib.hid (And.intro hP (And.intro hK (And.intro hz (And.intro hb hne))))
 clear hP hK hz hb hne
 go_enter Try.func124,Try.ntmps124
 have HC1:=Lib.hid (rn3 B gp X t c od b (o) T cs w H0.out.1 H0.out.2.1 (ZAt.left (zs:=[.int .i64 0,.int .i64 0,.int .i64 0]) (us:=[.bool false,.bool false,.bool false,.bool false]) H0.out.2.2.1) H0.out.2.2.2.1 H0.out.2.2.2.2)
 go_wp2_with fail
 refine HC1.out.mono ?_
 intro e w1 hj
 rcases hj with ⟨rfl,hd,hf⟩ | ⟨⟨r1,rfl⟩,X1,c1,t1,x1,hd,hl,hP,hK,hf⟩
 ·have HN:=Lib.hid (show wantsC.dec t=none∧FrR gp b w w1 from ⟨pairDec_none1 (pairDec_none1 (hd)),hf⟩)
  clear hd hf HC1
  go_wp2_with fail
  exact ⟨rfl,(Or.inl ⟨rfl,HN.out⟩)⟩
 have H1:=Lib.hid (And.intro hP (And.intro hK (And.intro (zat_next 3 (zs:=[.int .i64 0,.int .i64 0,.int .i64 0]) (us:=[.bool false,.bool false,.bool false,.bool false]) (vs:=n3L x1) H0.out.2.2.1 (by simp) (by simp) (by simp)) (And.intro hd (And.intro hl hf)))))
 clear hP hK hd hl hf HC1
 have HC2:=Lib.hid (rt3 B gp X1 t1 c1 od b (o+3) T (setA cs (o) (n3L x1)) w1 H1.out.1 H1.out.2.1 (ZAt.left (zs:=[.bool false,.bool false,.bool false]) (us:=[.bool false]) H1.out.2.2.1) H0.out.2.2.2.1 H0.out.2.2.2.2)
 go_wp2_with fail
 refine HC2.out.mono ?_
 intro e w2 hj
 replace hj:=RPl.pair (L1:=n3L) (d1:=n3C.dec) (x:=x1) 3 (by simp) H1.out.2.2.2.1 H1.out.2.2.2.2.1 H1.out.2.2.2.2.2 hj
 rcases hj with ⟨rfl,hd,hf⟩ | ⟨⟨r2,rfl⟩,X2,c2,t2,x2,hd,hl,hP,hK,hf⟩
 ·have HN:=Lib.hid (show wantsC.dec t=none∧FrR gp b w w2 from ⟨pairDec_none1 (hd),hf⟩)
  clear hd hf HC2
  go_wp2_with fail
  exact ⟨rfl,(Or.inl ⟨rfl,HN.out⟩)⟩
 have H2:=Lib.hid (And.intro hP (And.intro hK (And.intro (zat_next 6 (zs:=[.int .i64 0,.int .i64 0,.int .i64 0,.bool false,.bool false,.bool false]) (us:=[.bool false]) (vs:=(n3L x2.1 ++ t3L x2.2)) H0.out.2.2.1 (by simp) (by simp) (by simp)) (And.intro hd (And.intro hl hf)))))
 clear hP hK hd hl hf HC2
 have HC3:=Lib.hid (rtruth B gp X2 t2 c2 od b (o+6) T (setA cs (o) ((n3L x2.1 ++ t3L x2.2))) w2 H2.out.1 H2.out.2.1 (ZAt.left (zs:=[.bool false]) (us:=[]) H2.out.2.2.1) H0.out.2.2.2.1 H0.out.2.2.2.2)
 go_wp2_with fail
 refine HC3.out.mono ?_
 intro e w3 hj
 replace hj:=RPl.pair (L1:=(fun p:(I3 × B3)=>(n3L p.1 ++ t3L p.2))) (d1:=(pairDec n3C.dec t3C.dec)) (x:=x2) 6 (by simp) H2.out.2.2.2.1 H2.out.2.2.2.2.1 H2.out.2.2.2.2.2 hj
 rcases hj with ⟨rfl,hd,hf⟩ | ⟨⟨r3,rfl⟩,X3,c3,t3,x3,hd,hl,hP,hK,hf⟩
 ·have HN:=Lib.hid (show wantsC.dec t=none∧FrR gp b w w3 from ⟨hd,hf⟩)
  clear hd hf HC3
  go_wp2_with fail
  exact ⟨rfl,(Or.inl ⟨rfl,HN.out⟩)⟩
 have HE:=Lib.hid (And.intro hd (And.intro hl (And.intro hP (And.intro hK hf))))
 clear hd hl hP hK hf HC3
 go_wp2_with fail
 go_end0
 exact (Or.inr ⟨⟨_,rfl⟩,X3,c3,t3,x3,HE.out⟩)
theorem rplace (B gp:Nat) (X:Option Addr) (t:Bs) (c:Nat) (od:Bool) (b o:Nat) (T:TypeId) (cs:Array Value) (w:World) (hP:PR B w gp X t c od) (hK:Blk w b T cs) (hz:ZAt cs o [.int .i64 0,.int .i64 0,.int .i64 0,.int .i64 0,.int .i64 0,.int .i64 0,.bool false,.bool false,.bool false]) (hb:B≤b) (hne:b≠gp) :
    Calls Try.prog 125 #[.pointer (some ⟨gp,0,none⟩),.pointer (some ⟨b,o,none⟩)] w fun e w' => RPl placeL placeC.dec B gp b T cs o t od w e w':=by
 have H0:=Lib.hid (And.intro hP (And.intro hK (And.intro hz (And.intro hb hne))))
 clear hP hK hz hb hne
 go_enter Try.func125,Try.ntmps125
 have HC1:=Lib.hid (rbox B gp X t c od b (o) T cs w H0.out.1 H0.out.2.1 (ZAt.left (zs:=[.int .i64 0,.int .i64 0,.int .i64 0,.int .i64 0,.int .i64 0,.int .i64 0]) (us:=[.bool false,.bool false,.bool false]) H0.out.2.2.1) H0.out.2.2.2.1 H0.out.2.2.2.2)
 go_wp2_with fail
 refine HC1.out.mono ?_
 intro e w1 hj
 rcases hj with ⟨rfl,hd,hf⟩ | ⟨⟨r1,rfl⟩,X1,c1,t1,x1,hd,hl,hP,hK,hf⟩
 ·have HN:=Lib.hid (show placeC.dec t=none∧FrR gp b w w1 from ⟨pairDec_none1 (hd),hf⟩)
  clear hd hf HC1
  go_wp2_with fail
  exact ⟨rfl,(Or.inl ⟨rfl,HN.out⟩)⟩
 have H1:=Lib.hid (And.intro hP (And.intro hK (And.intro (zat_next 6 (zs:=[.int .i64 0,.int .i64 0,.int .i64 0,.int .i64 0,.int .i64 0,.int .i64 0]) (us:=[.bool false,.bool false,.bool false]) (vs:=boxL x1) H0.out.2.2.1 (by simp) (by simp) (by simp)) (And.intro hd (And.intro hl hf)))))
 clear hP hK hd hl hf HC1
 have HC2:=Lib.hid (rt3 B gp X1 t1 c1 od b (o+6) T (setA cs (o) (boxL x1)) w1 H1.out.1 H1.out.2.1 (ZAt.left (zs:=[.bool false,.bool false,.bool false]) (us:=[]) H1.out.2.2.1) H0.out.2.2.2.1 H0.out.2.2.2.2)
 go_wp2_with fail
 refine HC2.out.mono ?_
 intro e w2 hj
 replace hj:=RPl.pair (L1:=boxL) (d1:=boxC.dec) (x:=x1) 6 (by simp) H1.out.2.2.2.1 H1.out.2.2.2.2.1 H1.out.2.2.2.2.2 hj
 rcases hj with ⟨rfl,hd,hf⟩ | ⟨⟨r2,rfl⟩,X2,c2,t2,x2,hd,hl,hP,hK,hf⟩
 ·have HN:=Lib.hid (show placeC.dec t=none∧FrR gp b w w2 from ⟨hd,hf⟩)
  clear hd hf HC2
  go_wp2_with fail
  exact ⟨rfl,(Or.inl ⟨rfl,HN.out⟩)⟩
 have HE:=Lib.hid (And.intro hd (And.intro hl (And.intro hP (And.intro hK hf))))
 clear hd hl hP hK hf HC2
 go_wp2_with fail
 go_end0
 exact (Or.inr ⟨⟨_,rfl⟩,X2,c2,t2,x2,HE.out⟩)
theorem rkeep (B gp:Nat) (X:Option Addr) (t:Bs) (c:Nat) (od:Bool) (b o:Nat) (T:TypeId) (cs:Array Value) (w:World) (hP:PR B w gp X t c od) (hK:Blk w b T cs) (hz:ZAt cs o [.int .i64 0,.int .i64 0,.int .i64 0,.int .i64 0,.int .i64 0,.int .i64 0,.int .i64 0,.int .i64 0,.int .i64 0]) (hb:B≤b) (hne:b≠gp) :
    Calls Try.prog 115 #[.pointer (some ⟨gp,0,none⟩),.pointer (some ⟨b,o,none⟩)] w fun e w' => RPl eL keepC.dec B gp b T cs o t od w e w':=by
 have H0:=Lib.hid (And.intro hP (And.intro hK (And.intro hz (And.intro hb hne))))
 clear hP hK hz hb hne
 go_enter Try.func115,Try.ntmps115
 have HC1:=Lib.hid (rnum B gp X t c od b (o) T cs w H0.out.1 H0.out.2.1 (ZAt.left (zs:=[.int .i64 0]) (us:=[.int .i64 0,.int .i64 0,.int .i64 0,.int .i64 0,.int .i64 0,.int .i64 0,.int .i64 0,.int .i64 0]) H0.out.2.2.1) H0.out.2.2.2.1 H0.out.2.2.2.2)
 go_wp2_with fail
 refine HC1.out.mono ?_
 intro e w1 hj
 rcases hj with ⟨rfl,hd,hf⟩ | ⟨⟨r1,rfl⟩,X1,c1,t1,x1,hd,hl,hP,hK,hf⟩
 ·have HN:=Lib.hid (show keepC.dec t=none∧FrR gp b w w1 from ⟨iso_none (pairDec_none1 (pairDec_none1 (hd))),hf⟩)
  clear hd hf HC1
  go_wp2_with fail
  exact ⟨rfl,(Or.inl ⟨rfl,HN.out⟩)⟩
 have H1:=Lib.hid (And.intro hP (And.intro hK (And.intro (zat_next 1 (zs:=[.int .i64 0]) (us:=[.int .i64 0,.int .i64 0,.int .i64 0,.int .i64 0,.int .i64 0,.int .i64 0,.int .i64 0,.int .i64 0]) (vs:=numL x1) H0.out.2.2.1 (by simp) (by simp) (by simp)) (And.intro hd (And.intro hl hf)))))
 clear hP hK hd hl hf HC1
 have HC2:=Lib.hid (rbox B gp X1 t1 c1 od b (o+1) T (setA cs (o) (numL x1)) w1 H1.out.1 H1.out.2.1 (ZAt.left (zs:=[.int .i64 0,.int .i64 0,.int .i64 0,.int .i64 0,.int .i64 0,.int .i64 0]) (us:=[.int .i64 0,.int .i64 0]) H1.out.2.2.1) H0.out.2.2.2.1 H0.out.2.2.2.2)
 go_wp2_with fail
 refine HC2.out.mono ?_
 intro e w2 hj
 replace hj:=RPl.pair (L1:=numL) (d1:=numDec) (x:=x1) 1 (by simp) H1.out.2.2.2.1 H1.out.2.2.2.2.1 H1.out.2.2.2.2.2 hj
 rcases hj with ⟨rfl,hd,hf⟩ | ⟨⟨r2,rfl⟩,X2,c2,t2,x2,hd,hl,hP,hK,hf⟩
 ·have HN:=Lib.hid (show keepC.dec t=none∧FrR gp b w w2 from ⟨iso_none (pairDec_none1 (hd)),hf⟩)
  clear hd hf HC2
  go_wp2_with fail
  exact ⟨rfl,(Or.inl ⟨rfl,HN.out⟩)⟩
 have H2:=Lib.hid (And.intro hP (And.intro hK (And.intro (zat_next 7 (zs:=[.int .i64 0,.int .i64 0,.int .i64 0,.int .i64 0,.int .i64 0,.int .i64 0,.int .i64 0]) (us:=[.int .i64 0,.int .i64 0]) (vs:=(numL x2.1 ++ boxL x2.2)) H0.out.2.2.1 (by simp) (by simp) (by simp)) (And.intro hd (And.intro hl hf)))))
 clear hP hK hd hl hf HC2
 have HC3:=Lib.hid (rspan B gp X2 t2 c2 od b (o+7) T (setA cs (o) ((numL x2.1 ++ boxL x2.2))) w2 H2.out.1 H2.out.2.1 (ZAt.left (zs:=[.int .i64 0,.int .i64 0]) (us:=[]) H2.out.2.2.1) H0.out.2.2.2.1 H0.out.2.2.2.2)
 go_wp2_with fail
 refine HC3.out.mono ?_
 intro e w3 hj
 replace hj:=RPl.pair (L1:=(fun p:(Int × (I3 × I3))=>(numL p.1 ++ boxL p.2))) (d1:=(pairDec numDec boxC.dec)) (x:=x2) 7 (by simp) H2.out.2.2.2.1 H2.out.2.2.2.2.1 H2.out.2.2.2.2.2 hj
 rcases hj with ⟨rfl,hd,hf⟩ | ⟨⟨r3,rfl⟩,X3,c3,t3,x3,hd,hl,hP,hK,hf⟩
 ·have HN:=Lib.hid (show keepC.dec t=none∧FrR gp b w w3 from ⟨iso_none (hd),hf⟩)
  clear hd hf HC3
  go_wp2_with fail
  exact ⟨rfl,(Or.inl ⟨rfl,HN.out⟩)⟩
 have HE:=Lib.hid (And.intro hd (And.intro hl (And.intro hP (And.intro hK hf))))
 clear hd hl hP hK hf HC3
 go_wp2_with fail
 go_end0
 exact (RPl.iso (f:=eOf) (fun _=>rfl) (Or.inr ⟨⟨_,rfl⟩,X3,c3,t3,x3,HE.out⟩))
theorem rpart (B gp:Nat) (X:Option Addr) (t:Bs) (c:Nat) (od:Bool) (b o:Nat) (T:TypeId) (cs:Array Value) (w:World) (hP:PR B w gp X t c od) (hK:Blk w b T cs) (hz:ZAt cs o [.int .i64 0,.int .i64 0,.int .i64 0,.int .i64 0,.int .i64 0,.int .i64 0,.int .i64 0,.bool false,.bool false,.bool false,.int .u8 0,.int .i64 0,.int .i64 0]) (hb:B≤b) (hne:b≠gp) :
    Calls Try.prog 113 #[.pointer (some ⟨gp,0,none⟩),.pointer (some ⟨b,o,none⟩)] w fun e w' => RPl pL partC.dec B gp b T cs o t od w e w':=by
 have H0:=Lib.hid (And.intro hP (And.intro hK (And.intro hz (And.intro hb hne))))
 clear hP hK hz hb hne
 go_enter Try.func113,Try.ntmps113
 have HC1:=Lib.hid (rnum B gp X t c od b (o) T cs w H0.out.1 H0.out.2.1 (ZAt.left (zs:=[.int .i64 0]) (us:=[.int .i64 0,.int .i64 0,.int .i64 0,.int .i64 0,.int .i64 0,.int .i64 0,.bool false,.bool false,.bool false,.int .u8 0,.int .i64 0,.int .i64 0]) H0.out.2.2.1) H0.out.2.2.2.1 H0.out.2.2.2.2)
 go_wp2_with fail
 refine HC1.out.mono ?_
 intro e w1 hj
 rcases hj with ⟨rfl,hd,hf⟩ | ⟨⟨r1,rfl⟩,X1,c1,t1,x1,hd,hl,hP,hK,hf⟩
 ·have HN:=Lib.hid (show partC.dec t=none∧FrR gp b w w1 from ⟨iso_none (pairDec_none1 (pairDec_none1 (pairDec_none1 (pairDec_none1 (hd))))),hf⟩)
  clear hd hf HC1
  go_wp2_with fail
  exact ⟨rfl,(Or.inl ⟨rfl,HN.out⟩)⟩
 have H1:=Lib.hid (And.intro hP (And.intro hK (And.intro (zat_next 1 (zs:=[.int .i64 0]) (us:=[.int .i64 0,.int .i64 0,.int .i64 0,.int .i64 0,.int .i64 0,.int .i64 0,.bool false,.bool false,.bool false,.int .u8 0,.int .i64 0,.int .i64 0]) (vs:=numL x1) H0.out.2.2.1 (by simp) (by simp) (by simp)) (And.intro hd (And.intro hl hf)))))
 clear hP hK hd hl hf HC1
 have HC2:=Lib.hid (rplace B gp X1 t1 c1 od b (o+1) T (setA cs (o) (numL x1)) w1 H1.out.1 H1.out.2.1 (ZAt.left (zs:=[.int .i64 0,.int .i64 0,.int .i64 0,.int .i64 0,.int .i64 0,.int .i64 0,.bool false,.bool false,.bool false]) (us:=[.int .u8 0,.int .i64 0,.int .i64 0]) H1.out.2.2.1) H0.out.2.2.2.1 H0.out.2.2.2.2)
 go_wp2_with fail
 refine HC2.out.mono ?_
 intro e w2 hj
 replace hj:=RPl.pair (L1:=numL) (d1:=numDec) (x:=x1) 1 (by simp) H1.out.2.2.2.1 H1.out.2.2.2.2.1 H1.out.2.2.2.2.2 hj
 rcases hj with ⟨rfl,hd,hf⟩ | ⟨⟨r2,rfl⟩,X2,c2,t2,x2,hd,hl,hP,hK,hf⟩
 ·have HN:=Lib.hid (show partC.dec t=none∧FrR gp b w w2 from ⟨iso_none (pairDec_none1 (pairDec_none1 (pairDec_none1 (hd)))),hf⟩)
  clear hd hf HC2
  go_wp2_with fail
  exact ⟨rfl,(Or.inl ⟨rfl,HN.out⟩)⟩
 have H2:=Lib.hid (And.intro hP (And.intro hK (And.intro (zat_next 10 (zs:=[.int .i64 0,.int .i64 0,.int .i64 0,.int .i64 0,.int .i64 0,.int .i64 0,.int .i64 0,.bool false,.bool false,.bool false]) (us:=[.int .u8 0,.int .i64 0,.int .i64 0]) (vs:=(numL x2.1 ++ placeL x2.2)) H0.out.2.2.1 (by simp) (by simp) (by simp)) (And.intro hd (And.intro hl hf)))))
 clear hP hK hd hl hf HC2
 have HC3:=Lib.hid (rbyte B gp X2 t2 c2 od b (o+10) T (setA cs (o) ((numL x2.1 ++ placeL x2.2))) w2 H2.out.1 H2.out.2.1 (ZAt.left (zs:=[.int .u8 0]) (us:=[.int .i64 0,.int .i64 0]) H2.out.2.2.1) H0.out.2.2.2.1 H0.out.2.2.2.2)
 go_wp2_with fail
 refine HC3.out.mono ?_
 intro e w3 hj
 replace hj:=RPl.pair (L1:=(fun p:(Int × ((I3 × I3) × B3))=>(numL p.1 ++ placeL p.2))) (d1:=(pairDec numDec placeC.dec)) (x:=x2) 10 (by simp) H2.out.2.2.2.1 H2.out.2.2.2.2.1 H2.out.2.2.2.2.2 hj
 rcases hj with ⟨rfl,hd,hf⟩ | ⟨⟨r3,rfl⟩,X3,c3,t3,x3,hd,hl,hP,hK,hf⟩
 ·have HN:=Lib.hid (show partC.dec t=none∧FrR gp b w w3 from ⟨iso_none (pairDec_none1 (pairDec_none1 (hd))),hf⟩)
  clear hd hf HC3
  go_wp2_with fail
  exact ⟨rfl,(Or.inl ⟨rfl,HN.out⟩)⟩
 have H3:=Lib.hid (And.intro hP (And.intro hK (And.intro (zat_next 11 (zs:=[.int .i64 0,.int .i64 0,.int .i64 0,.int .i64 0,.int .i64 0,.int .i64 0,.int .i64 0,.bool false,.bool false,.bool false,.int .u8 0]) (us:=[.int .i64 0,.int .i64 0]) (vs:=((numL x3.1.1 ++ placeL x3.1.2) ++ byteL x3.2)) H0.out.2.2.1 (by simp) (by simp) (by simp)) (And.intro hd (And.intro hl hf)))))
 clear hP hK hd hl hf HC3
 have HC4:=Lib.hid (rnum B gp X3 t3 c3 od b (o+11) T (setA cs (o) (((numL x3.1.1 ++ placeL x3.1.2) ++ byteL x3.2))) w3 H3.out.1 H3.out.2.1 (ZAt.left (zs:=[.int .i64 0]) (us:=[.int .i64 0]) H3.out.2.2.1) H0.out.2.2.2.1 H0.out.2.2.2.2)
 go_wp2_with fail
 refine HC4.out.mono ?_
 intro e w4 hj
 replace hj:=RPl.pair (L1:=(fun p:((Int × ((I3 × I3) × B3)) × Int)=>((numL p.1.1 ++ placeL p.1.2) ++ byteL p.2))) (d1:=(pairDec (pairDec numDec placeC.dec) byteDec)) (x:=x3) 11 (by simp) H3.out.2.2.2.1 H3.out.2.2.2.2.1 H3.out.2.2.2.2.2 hj
 rcases hj with ⟨rfl,hd,hf⟩ | ⟨⟨r4,rfl⟩,X4,c4,t4,x4,hd,hl,hP,hK,hf⟩
 ·have HN:=Lib.hid (show partC.dec t=none∧FrR gp b w w4 from ⟨iso_none (pairDec_none1 (hd)),hf⟩)
  clear hd hf HC4
  go_wp2_with fail
  exact ⟨rfl,(Or.inl ⟨rfl,HN.out⟩)⟩
 have H4:=Lib.hid (And.intro hP (And.intro hK (And.intro (zat_next 12 (zs:=[.int .i64 0,.int .i64 0,.int .i64 0,.int .i64 0,.int .i64 0,.int .i64 0,.int .i64 0,.bool false,.bool false,.bool false,.int .u8 0,.int .i64 0]) (us:=[.int .i64 0]) (vs:=(((numL x4.1.1.1 ++ placeL x4.1.1.2) ++ byteL x4.1.2) ++ numL x4.2)) H0.out.2.2.1 (by simp) (by simp) (by simp)) (And.intro hd (And.intro hl hf)))))
 clear hP hK hd hl hf HC4
 have HC5:=Lib.hid (rnum B gp X4 t4 c4 od b (o+12) T (setA cs (o) ((((numL x4.1.1.1 ++ placeL x4.1.1.2) ++ byteL x4.1.2) ++ numL x4.2))) w4 H4.out.1 H4.out.2.1 (ZAt.left (zs:=[.int .i64 0]) (us:=[]) H4.out.2.2.1) H0.out.2.2.2.1 H0.out.2.2.2.2)
 go_wp2_with fail
 refine HC5.out.mono ?_
 intro e w5 hj
 replace hj:=RPl.pair (L1:=(fun p:(((Int × ((I3 × I3) × B3)) × Int) × Int)=>(((numL p.1.1.1 ++ placeL p.1.1.2) ++ byteL p.1.2) ++ numL p.2))) (d1:=(pairDec (pairDec (pairDec numDec placeC.dec) byteDec) numDec)) (x:=x4) 12 (by simp) H4.out.2.2.2.1 H4.out.2.2.2.2.1 H4.out.2.2.2.2.2 hj
 rcases hj with ⟨rfl,hd,hf⟩ | ⟨⟨r5,rfl⟩,X5,c5,t5,x5,hd,hl,hP,hK,hf⟩
 ·have HN:=Lib.hid (show partC.dec t=none∧FrR gp b w w5 from ⟨iso_none (hd),hf⟩)
  clear hd hf HC5
  go_wp2_with fail
  exact ⟨rfl,(Or.inl ⟨rfl,HN.out⟩)⟩
 have HE:=Lib.hid (And.intro hd (And.intro hl (And.intro hP (And.intro hK hf))))
 clear hd hl hP hK hf HC5
 go_wp2_with fail
 go_end0
 exact (RPl.iso (f:=pOf) (fun _=>rfl) (Or.inr ⟨⟨_,rfl⟩,X5,c5,t5,x5,HE.out⟩))
end Go.Proofs.Ytfdldbfjeamlcaa.RecRFlat
namespace Go.Proofs.Ytfdldbfjeamlcaa.RecRClass
set_option maxRecDepth 100000
set_option maxHeartbeats 1000000
open Go.RowKit Mem RecMem RecByte RecNum RecEach RecMath RecCod RecCods RecPort RecCommand RecCmdJ RecVal RecSame RecOwn RecRd RecRByte RecRNum RecREach RecRFlat
theorem PR.drew {B:Nat} {w:World} {gp:Nat} {X:Option Addr} {t:Bs} {c:Nat} {od:Bool} (h:PR B w gp X t c od):PR B w.drew gp X t c od:=⟨h.blk.drew,h.cap,h.top,h.oct,h.low,h.txt⟩
theorem rclass (B gp:Nat) (X:Option Addr) (t:Bs) (c:Nat) (od:Bool) (b o:Nat) (T:TypeId) (cs:Array Value) (w:World) (hP:PR B w gp X t c od) (hK:Blk w b T cs) (hz:ZAt cs o [.int .i64 0,.int .i64 0,.int .i64 0,.int .i64 0]) (hb:B≤b) (hne:b≠gp) :
    Calls Try.prog 109 #[.pointer (some ⟨gp,0,none⟩),.pointer (some ⟨b,o,none⟩)] w fun e w' => RPl kL classC.dec B gp b T cs o t od w e w':=by
 have H0:=Lib.hid (And.intro hP (And.intro hK (And.intro hz (And.intro hb hne))))
 clear hP hK hz hb hne
 go_enter Try.func109,Try.ntmps109
 go_wp2_with fail
 go_region
 have HQ0:=Lib.hid (Blk.new w 147 #[.pointer (some ⟨b,o,none⟩),.pointer (some ⟨b,o+1,none⟩),.pointer (some ⟨b,o+2,none⟩),.pointer (some ⟨b,o+3,none⟩)]).drew
 have HF:=Lib.hid ((FrR.refl gp b w).alloc (.cells #[.pointer (some ⟨b,o,none⟩),.pointer (some ⟨b,o+1,none⟩),.pointer (some ⟨b,o+2,none⟩),.pointer (some ⟨b,o+3,none⟩)] 147)).drew
 have HS:=Lib.hid (And.intro H0.out.1.lt H0.out.2.1.lt)
 have hP:=PR.drew (H0.out.1.alloc (.cells #[.pointer (some ⟨b,o,none⟩),.pointer (some ⟨b,o+1,none⟩),.pointer (some ⟨b,o+2,none⟩),.pointer (some ⟨b,o+3,none⟩)] 147))
 have hK:=(H0.out.2.1.alloc (.cells #[.pointer (some ⟨b,o,none⟩),.pointer (some ⟨b,o+1,none⟩),.pointer (some ⟨b,o+2,none⟩),.pointer (some ⟨b,o+3,none⟩)] 147)).drew
 have HZ:=Lib.hid H0.out.2.2
 clear H0
 generalize World.drew (w.alloc (.cells #[.pointer (some ⟨b,o,none⟩),.pointer (some ⟨b,o+1,none⟩),.pointer (some ⟨b,o+2,none⟩),.pointer (some ⟨b,o+3,none⟩)] 147))=w0 at *
 have H0:=Lib.hid (And.intro hP (And.intro hK HZ.out))
 clear hP hK HZ
 have q0:w0.cell? ⟨w.heap.size,0,none⟩=some (.pointer (some ⟨b,o,none⟩)):=HQ0.out.cell 0
 have HC1:=Lib.hid (rnum B gp X t c od b (o) T cs w0 H0.out.1 H0.out.2.1 (ZAt.left (zs:=[.int .i64 0]) (us:=[.int .i64 0,.int .i64 0,.int .i64 0]) H0.out.2.2.1) H0.out.2.2.2.1 H0.out.2.2.2.2)
 go_wp2_with fail
 refine wp_loop_rounds 5 ?_
 rw [rounds_succ]
 go_wp2_with fail
 refine HC1.out.mono ?_
 intro e w1 hj
 rcases hj with ⟨rfl,hd,hf⟩ | ⟨⟨r1,rfl⟩,X1,c1,t1,x1,hd,hl,hP,hK,hf⟩
 ·have HN:=Lib.hid (show classC.dec t=none∧FrR gp b w0 w1 from ⟨iso_none (pairDec_none1 (pairDec_none1 (pairDec_none1 (hd)))),hf⟩)
  clear hd hf HC1
  go_wp2_with fail
  exact ⟨rfl,RPl.pre HF.out (Or.inl ⟨rfl,HN.out⟩)⟩
 have HQ1:=Lib.hid (hf.blk HQ0.out (by have:=HS.out;omega) (by have:=HS.out;omega))
 have q1:w1.cell? ⟨w.heap.size,1,none⟩=some (.pointer (some ⟨b,o+1,none⟩)):=HQ1.out.cell 1
 clear q0
 have H1:=Lib.hid (And.intro hP (And.intro hK (And.intro (zat_next 1 (zs:=[.int .i64 0]) (us:=[.int .i64 0,.int .i64 0,.int .i64 0]) (vs:=numL x1) H0.out.2.2.1 (by simp) (by simp) (by simp)) (And.intro hd (And.intro hl hf)))))
 clear hP hK hd hl hf HC1
 have HC2:=Lib.hid (rnum B gp X1 t1 c1 od b (o+1) T (setA cs (o) (numL x1)) w1 H1.out.1 H1.out.2.1 (ZAt.left (zs:=[.int .i64 0]) (us:=[.int .i64 0,.int .i64 0]) H1.out.2.2.1) H0.out.2.2.2.1 H0.out.2.2.2.2)
 go_wp2_with fail
 rw [rounds_succ]
 go_wp2_with fail
 refine HC2.out.mono ?_
 intro e w2 hj
 replace hj:=RPl.pair (L1:=numL) (d1:=numDec) (x:=x1) 1 (by simp) H1.out.2.2.2.1 H1.out.2.2.2.2.1 H1.out.2.2.2.2.2 hj
 rcases hj with ⟨rfl,hd,hf⟩ | ⟨⟨r2,rfl⟩,X2,c2,t2,x2,hd,hl,hP,hK,hf⟩
 ·have HN:=Lib.hid (show classC.dec t=none∧FrR gp b w0 w2 from ⟨iso_none (pairDec_none1 (pairDec_none1 (hd))),hf⟩)
  clear hd hf HC2
  go_wp2_with fail
  exact ⟨rfl,RPl.pre HF.out (Or.inl ⟨rfl,HN.out⟩)⟩
 have HQ2:=Lib.hid (hf.blk HQ0.out (by have:=HS.out;omega) (by have:=HS.out;omega))
 have q2:w2.cell? ⟨w.heap.size,2,none⟩=some (.pointer (some ⟨b,o+2,none⟩)):=HQ2.out.cell 2
 clear q1
 have H2:=Lib.hid (And.intro hP (And.intro hK (And.intro (zat_next 2 (zs:=[.int .i64 0,.int .i64 0]) (us:=[.int .i64 0,.int .i64 0]) (vs:=(numL x2.1 ++ numL x2.2)) H0.out.2.2.1 (by simp) (by simp) (by simp)) (And.intro hd (And.intro hl hf)))))
 clear hP hK hd hl hf HC2
 have HC3:=Lib.hid (rnum B gp X2 t2 c2 od b (o+2) T (setA cs (o) ((numL x2.1 ++ numL x2.2))) w2 H2.out.1 H2.out.2.1 (ZAt.left (zs:=[.int .i64 0]) (us:=[.int .i64 0]) H2.out.2.2.1) H0.out.2.2.2.1 H0.out.2.2.2.2)
 go_wp2_with fail
 rw [rounds_succ]
 go_wp2_with fail
 refine HC3.out.mono ?_
 intro e w3 hj
 replace hj:=RPl.pair (L1:=(fun p:(Int × Int)=>(numL p.1 ++ numL p.2))) (d1:=(pairDec numDec numDec)) (x:=x2) 2 (by simp) H2.out.2.2.2.1 H2.out.2.2.2.2.1 H2.out.2.2.2.2.2 hj
 rcases hj with ⟨rfl,hd,hf⟩ | ⟨⟨r3,rfl⟩,X3,c3,t3,x3,hd,hl,hP,hK,hf⟩
 ·have HN:=Lib.hid (show classC.dec t=none∧FrR gp b w0 w3 from ⟨iso_none (pairDec_none1 (hd)),hf⟩)
  clear hd hf HC3
  go_wp2_with fail
  exact ⟨rfl,RPl.pre HF.out (Or.inl ⟨rfl,HN.out⟩)⟩
 have HQ3:=Lib.hid (hf.blk HQ0.out (by have:=HS.out;omega) (by have:=HS.out;omega))
 have q3:w3.cell? ⟨w.heap.size,3,none⟩=some (.pointer (some ⟨b,o+3,none⟩)):=HQ3.out.cell 3
 clear q2
 have H3:=Lib.hid (And.intro hP (And.intro hK (And.intro (zat_next 3 (zs:=[.int .i64 0,.int .i64 0,.int .i64 0]) (us:=[.int .i64 0]) (vs:=((numL x3.1.1 ++ numL x3.1.2) ++ numL x3.2)) H0.out.2.2.1 (by simp) (by simp) (by simp)) (And.intro hd (And.intro hl hf)))))
 clear hP hK hd hl hf HC3
 have HC4:=Lib.hid (rnum B gp X3 t3 c3 od b (o+3) T (setA cs (o) (((numL x3.1.1 ++ numL x3.1.2) ++ numL x3.2))) w3 H3.out.1 H3.out.2.1 (ZAt.left (zs:=[.int .i64 0]) (us:=[]) H3.out.2.2.1) H0.out.2.2.2.1 H0.out.2.2.2.2)
 go_wp2_with fail
 rw [rounds_succ]
 go_wp2_with fail
 refine HC4.out.mono ?_
 intro e w4 hj
 replace hj:=RPl.pair (L1:=(fun p:((Int × Int) × Int)=>((numL p.1.1 ++ numL p.1.2) ++ numL p.2))) (d1:=(pairDec (pairDec numDec numDec) numDec)) (x:=x3) 3 (by simp) H3.out.2.2.2.1 H3.out.2.2.2.2.1 H3.out.2.2.2.2.2 hj
 rcases hj with ⟨rfl,hd,hf⟩ | ⟨⟨r4,rfl⟩,X4,c4,t4,x4,hd,hl,hP,hK,hf⟩
 ·have HN:=Lib.hid (show classC.dec t=none∧FrR gp b w0 w4 from ⟨iso_none (hd),hf⟩)
  clear hd hf HC4
  go_wp2_with fail
  exact ⟨rfl,RPl.pre HF.out (Or.inl ⟨rfl,HN.out⟩)⟩
 clear q3
 have HE:=Lib.hid (And.intro hd (And.intro hl (And.intro hP (And.intro hK hf))))
 clear hd hl hP hK hf HC4
 go_wp2_with fail
 rw [rounds_succ]
 go_wp2_with fail
 go_end0
 exact RPl.pre HF.out (RPl.iso (f:=kOf) (fun _=>rfl) (Or.inr ⟨⟨_,rfl⟩,X4,c4,t4,x4,HE.out⟩))
end Go.Proofs.Ytfdldbfjeamlcaa.RecRClass
namespace Go.Proofs.Ytfdldbfjeamlcaa.RecRL0
open Go.RowKit Mem RecMem RecByte RecNum RecEach RecMath RecCod RecCods RecPort RecCommand RecCmdJ RecVal RecSame RecOwn RecRd RecRByte RecRNum RecREach
abbrev INT:TypeId:=3
theorem ownsRow_agree {w w':World} {F n k:Nat} {e:TypeId} {v:Value} {xs:List Value} (h:w.ownsRow F e n v k xs) (hk:∀ g cur,F≤g→w.heap[g]? = some (.cells cur e (0,0))→w'.heap[g]? = w.heap[g]?):w'.ownsRow F e n v k xs:=by
 refine ⟨h.1,?_⟩
 rcases h.2 with h2 | ⟨g,cap,cur,e1,e2,e3,e4⟩
 ·exact .inl h2
 ·exact .inr ⟨g,cap,cur,e1,e2,(hk g cur e2 e3).trans e3,e4⟩
theorem ownsRow_mono {w:World} {F F' n k:Nat} {e:TypeId} {v:Value} {xs:List Value} (h:w.ownsRow F e n v k xs) (hF:F'≤F):w.ownsRow F' e n v k xs:=by
 refine ⟨h.1,?_⟩
 rcases h.2 with h2 | ⟨g,cap,cur,e1,e2,e3,e4⟩
 ·exact .inl h2
 ·exact .inr ⟨g,cap,cur,e1,Nat.le_trans hF e2,e3,e4⟩
theorem own_form2 {w:World} {F n k:Nat} {e:TypeId} {v:Value} {xs:List Value} (h:w.ownsRow F e n v k xs):∃ V c,v = .slice V k c:=by
 rcases h.2 with ⟨rfl,e0⟩ | ⟨g,cap',cur,rfl,_⟩
 ·exact ⟨none,0,by rw [e0]⟩
 ·exact ⟨_,cap',rfl⟩
theorem own_ge {w:World} {F n k:Nat} {e:TypeId} {v:Value} {xs:List Value} (h:w.ownsRow F e n v k xs) {g:Nat} (hg:v.ownBlock=some g):F≤g∧g < w.heap.size∧∃ cur,w.heap[g]? = some (.cells cur e (0,0)):=by
 rcases h.2 with ⟨rfl,_⟩ | ⟨g',cap,cur,rfl,e2,e3,_⟩
 ·simp [Value.ownBlock] at hg
 ·have:g' = g:=by simpa [Value.ownBlock] using hg
  subst this
  exact ⟨e2,(Array.getElem?_eq_some_iff.1 e3).1,cur,e3⟩
def listR {α:Type} (R:Rep α) (e:TypeId):Rep (List α) where
 n:=1
 At w F l vs:=∃ V c xs,vs=[.slice V l.length c]∧w.ownsRow F e R.n (.slice V l.length c) l.length xs∧∀ i x,l[i]? = some x→R.At w F x ((xs.drop (i*R.n)).take R.n)
 len:=by rintro w F l vs ⟨V,c,xs,rfl,_⟩;rfl
 keep:=by
  rintro w w' F l vs ⟨V,c,xs,rfl,h1,h2⟩ hk hs
  exact ⟨V,c,xs,rfl,ownsRow_agree h1 (fun g cur hg hh=>hk g hg (Array.getElem?_eq_some_iff.1 hh).1),fun i x hi=>R.keep (h2 i x hi) hk hs⟩
 mono:=by
  rintro w F F' l vs ⟨V,c,xs,rfl,h1,h2⟩ hF
  exact ⟨V,c,xs,rfl,ownsRow_mono h1 hF,fun i x hi=>R.mono (h2 i x hi) hF⟩
def KeepN {α:Type} (e:TypeId) (R:Rep α):Prop:=∀ (w w':World) (F:Nat) (x:α) (vs:List Value),R.At w F x vs→(∀ k cs e',e'≠e→F≤k→w.heap[k]? = some (.cells cs e' (0,0))→w'.heap[k]? = w.heap[k]?)→R.At w' F x vs
theorem keepN_flat {α:Type} {e:TypeId} {n:Nat} {L:α→List Value} {h:∀ x,(L x).length=n} : KeepN e (flatR n L h):=fun _ _ _ _ _ h _=>h
theorem keepN_pair {α β:Type} {e:TypeId} {R:Rep α} {S:Rep β} (h:KeepN e R) (k:KeepN e S):KeepN e (R.pair S):=by
 rintro w w' F x vs ⟨a,b,rfl,h1,h2⟩ hk
 exact ⟨a,b,rfl,h _ _ _ _ _ h1 hk,k _ _ _ _ _ h2 hk⟩
theorem keepN_iso {α β:Type} {e:TypeId} {R:Rep α} {g:β→α} (h:KeepN e R):KeepN e (R.iso g):=fun w w' F x vs h1 hk=>h w w' F (g x) vs h1 hk
theorem keepN_ints {e:TypeId} (he:INT≠e):KeepN e (listR numR INT):=by
 rintro w w' F l vs ⟨V,c,xs,rfl,h1,h2⟩ hk
 exact ⟨V,c,xs,rfl,ownsRow_agree h1 (fun g cur hg hh=>hk g cur INT he hg hh),h2⟩
theorem decN_le {α:Type} {c:Cod α} {t:Bs} {k:Nat} (h:decN c k t=none):∀ d,decN c (k+d) t=none
 | 0=>h
 | d+1=>by rw [← Nat.add_assoc,decN_snoc,decN_le h d];rfl
theorem decN_up {α:Type} {c:Cod α} {t:Bs} {k m:Nat} (h:decN c k t=none) (hm:k≤m):decN c m t=none:=by
 obtain ⟨d,rfl⟩:∃ d,m=k+d:=⟨m - k,by omega⟩
 exact decN_le h d
structure LSt {α:Type} (R:Rep α) (c:Cod α) (e:TypeId) (B gp b:Nat) (T:TypeId) (cs:Array Value) (o:Nat) (t1:Bs) (od:Bool) (w0:World) (k:Nat) (l:List α) (X:Option Addr) (cx:Nat) (t:Bs) (od':Bool) (V:Option Addr) (cv:Nat) (xs:List Value) (w:World):Prop where
 len:l.length=k
 pr:PR B w gp X t cx od'
 blk:Blk w b T (setA cs o [.slice V k cv])
 own:w.ownsRow w0.heap.size e R.n (.slice V k cv) k xs
 els:∀ i x,l[i]? = some x→R.At w w0.heap.size x ((xs.drop (i*R.n)).take R.n)
 fr:FrR gp b w0 w
 le:t.length≤t1.length
 ok:od' = false→od=false∧decN c k t1=some (l,t)
 bad:od' = true→od=false→decN c k t1=none
section
variable {α:Type} {R:Rep α} {c:Cod α} {e:TypeId} {B gp b:Nat} {T:TypeId} {cs:Array Value} {o:Nat} {t1:Bs} {od:Bool} {w0:World} {k:Nat} {l:List α} {X:Option Addr} {cx:Nat} {t:Bs} {od':Bool} {V:Option Addr} {cv:Nat} {xs:List Value} {w:World}
theorem LSt.read (h:LSt R c e B gp b T cs o t1 od w0 k l X cx t od' V cv xs w) (hg:gp < w0.heap.size) (hb:b < w0.heap.size) (hgb:b≠gp) {ob:Obj} {w2:World} (hf:FrR gp w.heap.size (w.alloc ob) w2) :
    w2.ownsRow w0.heap.size e R.n (.slice V k cv) k xs∧(∀ i x,l[i]? = some x→R.At w2 w0.heap.size x ((xs.drop (i*R.n)).take R.n))∧Blk w2 b T (setA cs o [.slice V k cv])∧FrR gp b w0 w2:=by
 have hs:=h.fr.size
 have ha:∀ i,w0.heap.size≤i→i < w.heap.size→w2.heap[i]? = w.heap[i]?:=fun i h1 h2=>by
  rw [hf.block i (by simp;omega) (by omega) (by omega),Below.heap_alloc w ob i h2]
 refine ⟨ownsRow_agree h.own (fun g cur hg2 hh=>ha g hg2 (Array.getElem?_eq_some_iff.1 hh).1),fun i x hi=>R.keep (h.els i x hi) ha (by have:=hf.size;simp at this;omega),hf.blk (h.blk.alloc _) hgb (by omega),?_⟩
 exact (h.fr.alloc ob).trans_new hf hs
theorem LSt.push (h:LSt R c e B gp b T cs o t1 od w0 k l X cx t od' V cv xs w) (hN:KeepN e R) (hg:gp < w0.heap.size) (hb:b < w0.heap.size) (hgb:b≠gp) (hbB:B≤b) {ob:Obj} {w1 w2:World} {kx:Nat} {X2:Option Addr} {c2:Nat} {t2:Bs} {od2:Bool} {x:α} {vs:List Value}
    (hkx:kx=w.heap.size) (hw1:w1=w.alloc ob) (hP:PR B w2 gp X2 t2 c2 od2) (hM:RMid R c.dec gp kx t od' w1 w2 x vs t2 od2)
    {ob2:Obj} {w3:World} {V2:Option Addr} {cv2:Nat} (ho:w3.ownsRow w0.heap.size e R.n (.slice V2 (k+1) cv2) (k+1) (xs ++ vs)) (hgr:(w2.drew.alloc ob2).grownBy w3 (Value.slice V k cv).ownBlock) (hor:o < cs.size) :
    LSt R c e B gp b T cs o t1 od w0 (k+1) (l ++ [x]) X2 c2 t2 od2 V2 cv2 (xs ++ vs) (w3.setCell ⟨b,o,none⟩ (.slice V2 (k+1) cv2)):=by
 subst hkx hw1
 obtain ⟨own2,els2,blk2,fr2⟩:=h.read hg hb hgb hM.fr
 have hs:=h.fr.size
 have hs2:=hM.fr.size
 have hown:∀ g,(Value.slice V k cv).ownBlock=some g→w0.heap.size≤g∧∃ cur,w2.heap[g]? = some (.cells cur e (0,0)):=fun g hgo=>by
  obtain ⟨a,_,q⟩:=own_ge own2 hgo
  exact ⟨a,q⟩
 have hneb:∀ g,g < w0.heap.size→some g≠(Value.slice V k cv).ownBlock:=fun g hlt e1=>by have:=(hown g e1.symm).1;omega
 have hlt2:b < w2.heap.size:=blk2.lt
 have hxl:xs.length=k*R.n:=own2.1
 have hvl:vs.length=R.n:=R.len hM.at_
 have hag:∀ g cs' e',e'≠e→w0.heap.size≤g→w2.heap[g]? = some (.cells cs' e' (0,0))→(w3.setCell ⟨b,o,none⟩ (.slice V2 (k+1) cv2)).heap[g]? = w2.heap[g]?:=fun g cs' e' he hg2 hh=>by
  have hl:=(Array.getElem?_eq_some_iff.1 hh).1
  rw [Below.heap_setCell w3 _ _ g (by simp;omega),hgr.block g (by simp;omega) (fun e1=>by
   obtain ⟨_,cur,hc⟩:=hown g e1.symm
   rw [hc] at hh
   injection hh with hh
   injection hh with _ hh
   exact he hh.symm),Below.heap_alloc w2.drew ob2 g hl]
  rfl
 refine ⟨by rw [List.length_append,h.len];rfl,?_,?_,?_,?_,?_,Nat.le_trans hM.le h.le,?_,?_⟩
 ·exact (((RecRClass.PR.drew hP).alloc ob2).grown hgr (fun e1=>hneb gp hg e1.symm) (fun g e1=>by have:=(hown g e1).1;have:=hP.low;omega)).set_ hgb hbB _
 ·have:=((blk2.drew.alloc ob2).grown hgr (hneb b hb)).set_ o (.slice V2 (k+1) cv2)
  have e2:(setA cs o [Value.slice V k cv]).setIfInBounds o (.slice V2 (k+1) cv2)=setA cs o [Value.slice V2 (k+1) cv2]:=by
   show (cs.setIfInBounds o _).setIfInBounds o _=cs.setIfInBounds o _
   rw [Array.setIfInBounds_setIfInBounds]
  rwa [e2] at this
 ·exact Go.ownsRow_setCell_other ho (a:=⟨b,o,none⟩) (fun e1=>by have:=(own_ge ho e1).1;simp at this;omega) _
 ·intro i y hi
  rcases Nat.lt_or_ge i l.length with hlt | hge
  ·rw [List.getElem?_append_left hlt] at hi
   have hik:(i+1)*R.n≤k*R.n:=Nat.mul_le_mul_right _ (by have:=h.len;omega)
   rw [Nat.add_mul,Nat.one_mul] at hik
   rw [List.drop_append_of_le_length (by omega),List.take_append_of_le_length (by rw [List.length_drop];omega)]
   exact hN _ _ _ _ _ (els2 i y hi) hag
  ·rw [List.getElem?_append_right hge] at hi
   have hi0:i=l.length:=by
    have:=(List.getElem?_eq_some_iff.1 hi).1
    simp at this;omega
   subst hi0
   simp at hi
   subst hi
   rw [h.len,← hxl,List.drop_left,List.take_of_length_le (by omega)]
   exact hN _ _ _ _ _ (R.mono hM.at_ (by simp;omega)) hag
 ·exact ((fr2.drew.alloc ob2).grown hgr (fun g e1=>(hown g e1).1)).set_ (.inr (.inl rfl)) _
 ·intro e2
  obtain ⟨e1,d2⟩:=hM.ok e2
  obtain ⟨e0,d1⟩:=h.ok e1
  exact ⟨e0,by rw [decN_snoc,d1,Option.bind_some];simp only [d2];rfl⟩
 ·intro e2 e0
  rw [decN_snoc]
  cases ho':od' with
  | true=>rw [h.bad ho' e0];rfl
  | false=>rw [(h.ok ho').2,Option.bind_some];simp only [hM.bad e2 ho'];rfl
theorem LSt.fail (h:LSt R c e B gp b T cs o t1 od w0 k l X cx t od' V cv xs w) {ob:Obj} {w2:World} {m:Nat} (hn:od' = false→c.dec t=none) (hm:k < m) (e0:od=false):decN c m t1=none:=by
 refine decN_up (k:=k+1) ?_ hm
 rw [decN_snoc]
 cases ho':od' with
 | true=>rw [h.bad ho' e0];rfl
 | false=>rw [(h.ok ho').2,Option.bind_some];simp only [hn ho'];rfl
end
theorem listDec_none1 {α:Type} {c:Cod α} {t:Bs} (h:numDec t=none):listDec c t=none:=by
 unfold listDec
 show (numDec t).bind _=none
 rw [h];rfl
theorem listDec_odd {α:Type} {c:Cod α} {t t1:Bs} {m:Int} (h:numDec t=some (m,t1)) (hm:m < 0∨1000 < m):listDec c t=none:=by
 unfold listDec
 show (numDec t).bind _=none
 rw [h,Option.bind_some,if_pos hm]
theorem listDec_eq {α:Type} {c:Cod α} {t t1:Bs} {m:Int} (h:numDec t=some (m,t1)) (h0:0≤m) (h1:m≤1000):listDec c t=decN c m.toNat t1:=by
 unfold listDec
 show (numDec t).bind _=_
 rw [h,Option.bind_some,if_neg (by omega)]
theorem reads_box (w:World) (t:TypeId) (vs:List Value):Reads (w.alloc (.cells vs.toArray t)) (w.heap.size+1) vs.length (some ⟨w.heap.size,0,none⟩) 1 vs:=
 ⟨by simp,fun _=>⟨_,rfl,by simp,fun j q hq=>by
  rw [add_flat,Nat.zero_add]
  refine ((Blk.new w t vs.toArray).cell j).trans ?_
  simpa using hq⟩⟩
end Go.Proofs.Ytfdldbfjeamlcaa.RecRL0
namespace Go.Proofs.Ytfdldbfjeamlcaa.RecRListI
set_option maxRecDepth 100000
set_option maxHeartbeats 2000000
open Go.RowKit Mem RecMem RecByte RecNum RecEach RecMath RecCod RecCods RecPort RecCommand RecCmdJ RecVal RecSame RecOwn RecRd RecRByte RecRNum RecREach RecRFlat RecRClass RecRL0
theorem rnum_out (B gp:Nat) (X:Option Addr) (t:Bs) (c:Nat) (od:Bool) (b o:Nat) (T:TypeId) (cs:Array Value) (w:World) (hP:PR B w gp X t c od) (hK:Blk w b T cs) (hz:ZAt cs o [.int .i64 0]) (hb:B≤b) (hne:b≠gp):Calls Try.prog 74 #[.pointer (some ⟨gp,0,none⟩),.pointer (some ⟨b,o,none⟩)] w fun e w' => ROut numR numC.dec B gp b T cs o t od w e w':=
 (rnum B gp X t c od b o T cs w hP hK hz hb hne).mono fun e w' h=>RPl.out 1 (fun _=>rfl) h
theorem rlistI_info:(Try.prog.info? INT).map (fun i=>(i.zero,i.size,i.bytes))=some (some (.int .i64 0),1,8):=by kernel_rfl
theorem rlistI (B gp:Nat) (X:Option Addr) (t:Bs) (c:Nat) (od:Bool) (b o:Nat) (T:TypeId) (cs:Array Value) (w:World) (hP:PR B w gp X t c od) (hK:Blk w b T cs) (hz:ZAt cs o [.slice none 0 0]) (hb:B≤b) (hne:b≠gp) :
    Calls Try.prog 116 #[.pointer (some ⟨gp,0,none⟩),.pointer (some ⟨b,o,none⟩),.func (.func 74) #[.pointer (some ⟨gp,0,none⟩)] #[]] w fun e w' => ROut (listR numR INT) (listDec numC) B gp b T cs o t od w e w':=by
 obtain ⟨i0,hi0,hz0,hz1,hz2⟩:=info_parts rlistI_info
 have HI:=Lib.hid (And.intro hi0 (And.intro hz0 (And.intro hz1 hz2)))
 have ca:w.cell? ⟨b,o,none⟩=some (.slice none 0 0):=(hK.cell o).trans (hz 0 _ rfl)
 have hor:o < cs.size:=hz.size (by simp)
 have hbs:=hK.lt
 have hgs:=hP.lt
 have hlow:=hP.low
 have HC:=Lib.hid (rnum B gp X t c od w.heap.size 0 INT #[.int .i64 0] (w.alloc (.cells #[.int .i64 0] INT)) (hP.alloc _) (Blk.new w INT #[.int .i64 0]) (zat_one _) (by omega) (by omega))
 have HK:=Lib.hid hK
 have HB:=Lib.hid (And.intro hb hne)
 clear hi0 hz0 hz1 hz2 hP hK hz
 go_enter Try.func116,Try.ntmps116
 go_wp2_with fail
 refine HC.out.mono ?_
 rintro e w1 (⟨rfl,hd,hf⟩ | ⟨⟨r,rfl⟩,X1,c1,t1,m,hd,hl,hP1,hK1,hf1⟩)
 ·have HN:=Lib.hid (And.intro hd (((FrR.refl gp b w).alloc (.cells #[.int .i64 0] INT)).trans_new hf (Nat.le_refl _)))
  clear hd hf HC ca
  go_wp2_with fail
  exact ⟨rfl,Or.inl ⟨rfl,fun _=>listDec_none1 HN.out.1,HN.out.2⟩⟩
 ·have hKb:Blk w1 b T cs:=hf1.blk (HK.out.alloc _) hne (by omega)
  have hfw:FrR gp b w w1:=((FrR.refl gp b w).alloc (.cells #[.int .i64 0] INT)).trans_new hf1 (Nat.le_refl _)
  have cn:w1.cell? ⟨w.heap.size,0,none⟩=some (.int .i64 m):=hK1.cell 0
  have fn0:=hK1.frozen 0
  have p1:w1.cell? ⟨gp,1,none⟩=some (.bool true):=hP1.blk.cell 1
  have p2:w1.cell? ⟨gp,2,none⟩=some (.bool od):=hP1.blk.cell 2
  have g2:=hP1.blk.frozen 2
  have ca1:w1.cell? ⟨b,o,none⟩=some (.slice none 0 0):=by rw [hKb.cell o,← HK.out.cell o];exact ca
  have fb:=hKb.frozen o
  have hsz:w.heap.size+1≤w1.heap.size:=by have:=hf1.size;simpa using this
  have hgs1:gp < w1.heap.size:=by omega
  have hbs1:b < w1.heap.size:=by omega
  have hns1:w.heap.size < w1.heap.size:=by omega
  have hne1:¬ (w.heap.size=gp):=by omega
  have hne2:¬ (w.heap.size=b):=by omega
  have hne3:¬ (b=gp):=hne
  have H1:=Lib.hid (And.intro hd (And.intro hl (And.intro hP1 (And.intro hKb hfw))))
  have HM:=Lib.hid hK1
  clear hd hl hP1 hK1 hKb hfw hf1 HC ca
  by_cases hodd:m < 0∨1000 < m
  ·have HO:=Lib.hid hodd
   have fin:∀ (W:World),W=(((w1.setCell ⟨gp,2,none⟩ (.bool true)).setCell ⟨w.heap.size,0,none⟩ (.int .i64 0)).setCell ⟨b,o,none⟩ (.slice none 0 0))→ROut (listR numR INT) (listDec numC) B gp b T cs o t od w (.returned (.tuple #[])) W:=fun W hW=>by
    subst hW
    refine Or.inr ⟨⟨_,rfl⟩,X1,c1,t1,true,[],[.slice none 0 0],?_,?_,⟨none,0,[],rfl,World.ownsRow_nil _ _ _ _,fun i x hi=>by simp at hi⟩,?_,H1.out.2.1,fun e=>by (cases e),fun _ _=>listDec_odd H1.out.1 HO.out⟩
    ·exact (((H1.out.2.2.1.odd true).set_ (p:=⟨w.heap.size,0,none⟩) hne1 (by simp;omega) _).set_ (p:=⟨b,o,none⟩) hne (by simpa using HB.out.1) _)
    ·exact ((H1.out.2.2.2.1.far (p:=⟨gp,2,none⟩) hne _).far (p:=⟨w.heap.size,0,none⟩) (fun e=>hne2 e.symm) _).set_ o _
    ·exact (((H1.out.2.2.2.2.set_ (p:=⟨gp,2,none⟩) (.inl rfl) _).set_ (p:=⟨w.heap.size,0,none⟩) (.inr (.inr (Nat.le_refl _))) _).set_ (p:=⟨b,o,none⟩) (.inr (.inl rfl)) _)
   have FIN:=Lib.hid fin
   clear fin
   rcases hodd with h0 | h0
   all_goals
    go_wp2_with fail
    refine wp_loop_rounds 1 ?_
    rw [rounds_succ]
    go_wp2_with fail
    go_end0
    exact FIN.out _ rfl
  ·have h0:0≤m:=by omega
   have h1:m≤1000:=by omega
   clear hodd
   obtain ⟨N,rfl⟩:∃ N:Nat,m=N:=⟨m.toNat,by omega⟩
   go_upto_region 7 with fail
   have HS:=Lib.hid (show LSt numR numC INT B gp b T cs o t1 od w 0 [] X1 c1 t1 od none 0 [] (w1.setCell ⟨b,o,none⟩ (.slice none 0 0)) from
    ⟨rfl,H1.out.2.2.1.set_ hne (by simpa using HB.out.1) _,H1.out.2.2.2.1.set_ o _,World.ownsRow_nil _ _ _ _,fun i x hi=>by (simp at hi),H1.out.2.2.2.2.set_ (.inr (.inl rfl)) _,Nat.le_refl _,fun e=>⟨e,rfl⟩,fun e e0=>by (rw [e] at e0;cases e0)⟩)
   have cn2:(w1.setCell ⟨b,o,none⟩ (.slice none 0 0)).cell? ⟨w.heap.size,0,none⟩=some (.int .i64 (N:Int)):=(HM.out.far (p:=⟨b,o,none⟩) hne2 _).cell 0
   generalize w1.setCell ⟨b,o,none⟩ (.slice none 0 0)=W2 at *
   clear cn fn0 p1 p2 g2 ca1 fb HM
   have HD:=Lib.hid (And.intro (show numDec t=some ((N:Int),t1) from H1.out.1) H1.out.2.1)
   clear H1
   go_wp2_with fail
   clear cn2
   go_loopw [32] (fun i wr=>∃ (k:Nat) (l:List Int) (X':Option Addr) (c':Nat) (t':Bs) (od':Bool) (V:Option Addr) (cv:Nat) (xs:List Value),k≤N∧i = .int .i64 k∧Hid (LSt numR numC INT B gp b T cs o t1 od w k l X' c' t' od' V cv xs wr))
    (fun i _=>N - (intOf i).toNat)
   case atStart=>exact ⟨0,[],X1,c1,t1,od,none,0,[],Nat.zero_le _,rfl,HS.out⟩
   case round =>
    obtain ⟨k,l,X',c',t',od',V,cv,xs,hk,rfl,HL⟩:=hrel
    clear HS
    by_cases hlt:k < N
    ·have hki:(k:Int) < (N:Int):=by omega
     have hws:w.heap.size≤wr.heap.size:=HL.out.fr.size
     have HC:=Lib.hid (rnum_out B gp X' t' c' od' wr.heap.size 0 INT #[.int .i64 0] (wr.alloc (.cells #[.int .i64 0] INT)) (HL.out.pr.alloc _) (Blk.new wr INT #[.int .i64 0]) (ZAt.left (zs:=[.int .i64 0]) (us:=[]) (fun i v hi=>by (simpa using hi))) (by omega) (by omega))
     go_wp2_with fail
     refine HC.out.mono ?_
     rintro e w2 (⟨rfl,hd,hf⟩ | ⟨⟨r,rfl⟩,X2,c2,t2,od2,x,vs,hP2,hK2,hM2⟩)
     ·have HN:=Lib.hid (show (od=false→listDec numC t=none)∧FrR gp b w w2 from ⟨fun e0=>by rw [listDec_eq HD.out.1 h0 h1];exact HL.out.fail (w2:=w2) (ob:=.cells #[.int .i64 0] INT) hd (by omega) e0,(HL.out.fr.alloc _).trans_new hf hws⟩)
      clear hd hf HC
      go_wp2_with fail
      exact ⟨rfl,Or.inl ⟨rfl,HN.out⟩⟩
     ·obtain rfl:vs=[.int .i64 x]:=hM2.at_
      have hZ:setA #[.int .i64 0] 0 [.int .i64 x]=List.toArray [.int .i64 x]:=setA_full rfl
      rw [hZ] at hK2
      have hrd:=HL.out.read hgs hbs hne hM2.fr
      have cx0:w2.cell? ⟨wr.heap.size,0,none⟩=some (.int .i64 x):=hK2.cell 0
      have cl:w2.cell? ⟨b,o,none⟩=some (.slice V k cv):=by
       rw [hrd.2.2.1.cell o,setA_get _ _ _ (by simp;omega),if_pos (by simp)]
       simp
      have fl:=hrd.2.2.1.frozen o
      have hws2:wr.heap.size+1≤w2.heap.size:=by have:=hM2.fr.size;simpa using this
      have hbs2:b < w2.heap.size:=by omega
      have hxs2:wr.heap.size < w2.heap.size:=by omega
      have hbe:¬ (wr.heap.size=b):=by omega
      have H2:=Lib.hid (And.intro hP2 (And.intro hM2 hrd))
      clear hP2 hK2 hM2 hrd HC hZ
      go_wp2_with fail
      go_region_law (refine step_append_any _ rfl (.tmp 39) (.tmp 41) _ rfl w.heap.size INT i0 (.int .i64 0) 1 8 Try.underlying26 HI.out.1 HI.out.2.1 HI.out.2.2.1 HI.out.2.2.2 rfl (by decide) (.slice V k cv) k xs (by simp [Act.eval,Act.put]) ((H2.out.2.2.1.drew).alloc (.cells (List.toArray [.int .i64 x]) INT)) (w2.heap.size+1) (some ⟨w2.heap.size,0,none⟩) 1 1 [.int .i64 x] (by simp [Act.eval,Act.put]) (Reads.drew (reads_box w2 INT [.int .i64 x])) (by simp [Value.oneCell']) (by simp only [maxLen];omega) (by omega) (by simp;omega) ?_;intro v3 w3 hown hg hat;obtain ⟨V3,c3,rfl⟩:=own_form2 hown;have q0:w3.cell? ⟨b,o,none⟩=some (.slice V k cv):=(by rw [World.cell?_of_block (hg.block b (by simp;omega) (fun e1=>by have:=(own_ge H2.out.2.2.1 e1.symm).1;omega))];exact cell_over _ cl);have g0:w3.frozen? ⟨b,o,none⟩=false:=(by rw [World.frozen?_of_block (hg.block b (by simp;omega) (fun e1=>by have:=(own_ge H2.out.2.2.1 e1.symm).1;omega))];exact (H2.out.2.2.2.2.1.drew.alloc _).frozen o);have H3:=Lib.hid (And.intro hown hg);clear hown hg hat)
      all_goals
       go_wp2_with fail
       go_roundw
       case measure=>simp [intOf];omega
       exact ⟨k+1,l ++ [x],X2,c2,t2,od2,V3,c3,_,by omega,by go_num,HL.out.push keepN_flat hgs hbs hne HB.out.1 rfl rfl H2.out.1 H2.out.2.1 H3.out.1 H3.out.2 hor⟩
    ·obtain rfl:k=N:=by omega
     go_wp2_with fail
     go_end0
     have h:=HL.out
     refine Or.inr ⟨⟨_,rfl⟩,X',c',t',od',l,[.slice V k cv],h.pr,h.blk,⟨V,cv,xs,?_,?_,h.els⟩,h.fr,Nat.le_trans h.le HD.out.2,fun e=>⟨(h.ok e).1,?_⟩,fun e e0=>?_⟩
     ·rw [h.len]
     ·rw [h.len];exact h.own
     ·rw [listDec_eq HD.out.1 h0 h1,Int.toNat_natCast];exact (h.ok e).2
     ·rw [listDec_eq HD.out.1 h0 h1,Int.toNat_natCast];exact h.bad e e0
end Go.Proofs.Ytfdldbfjeamlcaa.RecRListI
