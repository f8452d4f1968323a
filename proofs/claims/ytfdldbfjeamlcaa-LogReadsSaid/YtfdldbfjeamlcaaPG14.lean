/- Several texts joined: rec.port: lists of classes, where it reads. -/
import Derived.Deep.DeepCutAuto
import Derived.Test.YtfdldbfjeamlcaaPG8
import Derived.Test.YtfdldbfjeamlcaaPG13
import Derived.Test.YtfdldbfjeamlcaaPG9
set_option linter.unusedVariables false
set_option linter.unusedSimpArgs false
namespace Go.Proofs.Ytfdldbfjeamlcaa.RecRList
set_option maxRecDepth 100000
set_option maxHeartbeats 2000000
open Go.RowKit Mem RecMem RecByte RecNum RecEach RecMath RecCod RecCods RecPort RecCommand RecCmdJ RecVal RecSame RecOwn RecRd RecRByte RecRNum RecREach RecRFlat RecRClass RecRL0
def classR:=flatR 4 kL fun _=>rfl
theorem rclass_out (B gp:Nat) (X:Option Addr) (t:Bs) (c:Nat) (od:Bool) (b o:Nat) (T:TypeId) (cs:Array Value) (w:World) (hP:PR B w gp X t c od) (hK:Blk w b T cs) (hz:ZAt cs o [.int .i64 0,.int .i64 0,.int .i64 0,.int .i64 0]) (hb:B≤b) (hne:b≠gp):Calls Try.prog 109 #[.pointer (some ⟨gp,0,none⟩),.pointer (some ⟨b,o,none⟩)] w fun e w' => ROut classR classC.dec B gp b T cs o t od w e w':=
 (rclass B gp X t c od b o T cs w hP hK hz hb hne).mono fun e w' h=>RPl.out 4 (fun _=>rfl) h
theorem rlistK_info:(Try.prog.info? 154).map (fun i=>(i.zero,i.size,i.bytes))=some (some (.agg #[.int .i64 0,.int .i64 0,.int .i64 0,.int .i64 0]),4,32):=by kernel_rfl
theorem rlistK (B gp:Nat) (X:Option Addr) (t:Bs) (c:Nat) (od:Bool) (b o:Nat) (T:TypeId) (cs:Array Value) (w:World) (hP:PR B w gp X t c od) (hK:Blk w b T cs) (hz:ZAt cs o [.slice none 0 0]) (hb:B≤b) (hne:b≠gp) :
    Calls Try.prog 108 #[.pointer (some ⟨gp,0,none⟩),.pointer (some ⟨b,o,none⟩),.func (.func 109) #[.pointer (some ⟨gp,0,none⟩)] #[]] w fun e w' => ROut (listR classR 154) (listDec classC) B gp b T cs o t od w e w':=by
 obtain ⟨i0,hi0,hz0,hz1,hz2⟩:=info_parts rlistK_info
 have HI:=Lib.hid (And.intro hi0 (And.intro hz0 (And.intro hz1 hz2)))
 have ca:w.cell? ⟨b,o,none⟩=some (.slice none 0 0):=(hK.cell o).trans (hz 0 _ rfl)
 have hor:o < cs.size:=hz.size (by simp)
 have hbs:=hK.lt
 have hgs:=hP.lt
 have hlow:=hP.low
 have HC:=Lib.hid (rnum B gp X t c od w.heap.size 0 INT #[.int .i64 0] (w.alloc (.cells #[.int .i64 0] INT)) (hP.alloc _) (Blk.new w INT #[.int .i64 0]) (zat_one _) (by omega) (by omega))
 have HK:=Lib.hid hK
 have HB:=Lib.hid (And.intro hb hne)
 clear hi0 hz0 hz1 hz2 hP hK hz
 go_enter Try.func108,Try.ntmps108
 go_wp2_with fail
 refine HC.out.mono ?_
 rintro e w1 (⟨rfl,hd,hf⟩ | ⟨⟨r,rfl⟩,X1,c1,t1,m,hd,hl,hP1,hK1,hf1⟩)
 ·have HN:=Lib.hid (And.intro hd (((FrR.refl gp b w).alloc (.cells #[.int .i64 0] INT)).trans_new hf (Nat.le_refl _)))
  clear hd hf HC ca
  go_wp2_with fail
  exact ⟨rfl,Or.inl ⟨rfl,fun _=>listDec_none1 HN.out.1,HN.out.2⟩⟩
 ·have hKb:Blk w1 b T cs:=hf1.blk (HK.out.alloc _) hne (by omega)
  have hfw:FrR gp b w w1:=((FrR.refl gp b w).alloc (.cells #[.int .i64 0] INT)).trans_new hf1 (Nat.le_refl _)
  have cn:w1.cell? ⟨w.heap.size,0,none⟩=some (.int .i64 m):=hK1.cell 0
  have fn0:=hK1.frozen 0
  have p1:w1.cell? ⟨gp,1,none⟩=some (.bool true):=hP1.blk.cell 1
  have p2:w1.cell? ⟨gp,2,none⟩=some (.bool od):=hP1.blk.cell 2
  have g2:=hP1.blk.frozen 2
  have ca1:w1.cell? ⟨b,o,none⟩=some (.slice none 0 0):=by rw [hKb.cell o,← HK.out.cell o];exact ca
  have fb:=hKb.frozen o
  have hsz:w.heap.size+1≤w1.heap.size:=by have:=hf1.size;simpa using this
  have hgs1:gp < w1.heap.size:=by omega
  have hbs1:b < w1.heap.size:=by omega
  have hns1:w.heap.size < w1.heap.size:=by omega
  have hne1:¬ (w.heap.size=gp):=by omega
  have hne2:¬ (w.heap.size=b):=by omega
  have hne3:¬ (b=gp):=hne
  have H1:=Lib.hid (And.intro hd (And.intro hl (And.intro hP1 (And.intro hKb hfw))))
  have HM:=Lib.hid hK1
  clear hd hl hP1 hK1 hKb hfw hf1 HC ca
  by_cases hodd:m < 0∨1000 < m
  ·have HO:=Lib.hid hodd
   have fin:∀ (W:World),W=(((w1.setCell ⟨gp,2,none⟩ (.bool true)).setCell ⟨w.heap.size,0,none⟩ (.int .i64 0)).setCell ⟨b,o,none⟩ (.slice none 0 0))→ROut (listR classR 154) (listDec classC) B gp b T cs o t od w (.returned (.tuple #[])) W:=fun W hW=>by
    subst hW
    refine Or.inr ⟨⟨_,rfl⟩,X1,c1,t1,true,[],[.slice none 0 0],?_,?_,⟨none,0,[],rfl,World.ownsRow_nil _ _ _ _,fun i x hi=>by simp at hi⟩,?_,H1.out.2.1,fun e=>by (cases e),fun _ _=>listDec_odd H1.out.1 HO.out⟩
    ·exact (((H1.out.2.2.1.odd true).set_ (p:=⟨w.heap.size,0,none⟩) hne1 (by simp;omega) _).set_ (p:=⟨b,o,none⟩) hne (by simpa using HB.out.1) _)
    ·exact ((H1.out.2.2.2.1.far (p:=⟨gp,2,none⟩) hne _).far (p:=⟨w.heap.size,0,none⟩) (fun e=>hne2 e.symm) _).set_ o _
    ·exact (((H1.out.2.2.2.2.set_ (p:=⟨gp,2,none⟩) (.inl rfl) _).set_ (p:=⟨w.heap.size,0,none⟩) (.inr (.inr (Nat.le_refl _))) _).set_ (p:=⟨b,o,none⟩) (.inr (.inl rfl)) _)
   have FIN:=Lib.hid fin
   clear fin
   rcases hodd with h0 | h0
   all_goals
    go_wp2_with fail
    refine wp_loop_rounds 1 ?_
    rw [rounds_succ]
    go_wp2_with fail
    go_end0
    exact FIN.out _ rfl
  ·have h0:0≤m:=by omega
   have h1:m≤1000:=by omega
   clear hodd
   obtain ⟨N,rfl⟩:∃ N:Nat,m=N:=⟨m.toNat,by omega⟩
   go_upto_region 7 with fail
   have HS:=Lib.hid (show LSt classR classC 154 B gp b T cs o t1 od w 0 [] X1 c1 t1 od none 0 [] (w1.setCell ⟨b,o,none⟩ (.slice none 0 0)) from
    ⟨rfl,H1.out.2.2.1.set_ hne (by simpa using HB.out.1) _,H1.out.2.2.2.1.set_ o _,World.ownsRow_nil _ _ _ _,fun i x hi=>by (simp at hi),H1.out.2.2.2.2.set_ (.inr (.inl rfl)) _,Nat.le_refl _,fun e=>⟨e,rfl⟩,fun e e0=>by (rw [e] at e0;cases e0)⟩)
   have cn2:(w1.setCell ⟨b,o,none⟩ (.slice none 0 0)).cell? ⟨w.heap.size,0,none⟩=some (.int .i64 (N:Int)):=(HM.out.far (p:=⟨b,o,none⟩) hne2 _).cell 0
   generalize w1.setCell ⟨b,o,none⟩ (.slice none 0 0)=W2 at *
   clear cn fn0 p1 p2 g2 ca1 fb HM
   have HD:=Lib.hid (And.intro (show numDec t=some ((N:Int),t1) from H1.out.1) H1.out.2.1)
   clear H1
   go_wp2_with fail
   clear cn2
   go_loopw [32] (fun i wr=>∃ (k:Nat) (l:List KV) (X':Option Addr) (c':Nat) (t':Bs) (od':Bool) (V:Option Addr) (cv:Nat) (xs:List Value),k≤N∧i = .int .i64 k∧Hid (LSt classR classC 154 B gp b T cs o t1 od w k l X' c' t' od' V cv xs wr))
    (fun i _=>N - (intOf i).toNat)
   case atStart=>exact ⟨0,[],X1,c1,t1,od,none,0,[],Nat.zero_le _,rfl,HS.out⟩
   case round =>
    obtain ⟨k,l,X',c',t',od',V,cv,xs,hk,rfl,HL⟩:=hrel
    clear HS
    by_cases hlt:k < N
    ·have hki:(k:Int) < (N:Int):=by omega
     have hws:w.heap.size≤wr.heap.size:=HL.out.fr.size
     have HC:=Lib.hid (rclass_out B gp X' t' c' od' wr.heap.size 0 154 #[.int .i64 0,.int .i64 0,.int .i64 0,.int .i64 0] (wr.alloc (.cells #[.int .i64 0,.int .i64 0,.int .i64 0,.int .i64 0] 154)) (HL.out.pr.alloc _) (Blk.new wr 154 #[.int .i64 0,.int .i64 0,.int .i64 0,.int .i64 0]) (ZAt.left (zs:=[.int .i64 0,.int .i64 0,.int .i64 0,.int .i64 0]) (us:=[]) (fun i v hi=>by (simpa using hi))) (by omega) (by omega))
     go_wp2_with fail
     refine HC.out.mono ?_
     rintro e w2 (⟨rfl,hd,hf⟩ | ⟨⟨r,rfl⟩,X2,c2,t2,od2,x,vs,hP2,hK2,hM2⟩)
     ·have HN:=Lib.hid (show (od=false→listDec classC t=none)∧FrR gp b w w2 from ⟨fun e0=>by rw [listDec_eq HD.out.1 h0 h1];exact HL.out.fail (w2:=w2) (ob:=.cells #[.int .i64 0,.int .i64 0,.int .i64 0,.int .i64 0] 154) hd (by omega) e0,(HL.out.fr.alloc _).trans_new hf hws⟩)
      clear hd hf HC
      go_wp2_with fail
      exact ⟨rfl,Or.inl ⟨rfl,HN.out⟩⟩
     ·obtain rfl:vs=(kL x):=hM2.at_
      have hZ:setA #[.int .i64 0,.int .i64 0,.int .i64 0,.int .i64 0] 0 (kL x)=List.toArray (kL x):=setA_full rfl
      rw [hZ] at hK2
      have hrd:=HL.out.read hgs hbs hne hM2.fr
      have cx0:w2.cell? ⟨wr.heap.size,0,none⟩=some (.int .i64 x.pr):=hK2.cell 0
      have cx1:w2.cell? ⟨wr.heap.size,1,none⟩=some (.int .i64 x.wa):=hK2.cell 1
      have cx2:w2.cell? ⟨wr.heap.size,2,none⟩=some (.int .i64 x.no):=hK2.cell 2
      have cx3:w2.cell? ⟨wr.heap.size,3,none⟩=some (.int .i64 x.ea):=hK2.cell 3
      have cl:w2.cell? ⟨b,o,none⟩=some (.slice V k cv):=by
       rw [hrd.2.2.1.cell o,setA_get _ _ _ (by simp;omega),if_pos (by simp)]
       simp
      have fl:=hrd.2.2.1.frozen o
      have hws2:wr.heap.size+1≤w2.heap.size:=by have:=hM2.fr.size;simpa using this
      have hbs2:b < w2.heap.size:=by omega
      have hxs2:wr.heap.size < w2.heap.size:=by omega
      have hbe:¬ (wr.heap.size=b):=by omega
      have H2:=Lib.hid (And.intro hP2 (And.intro hM2 hrd))
      clear hP2 hK2 hM2 hrd HC hZ
      go_wp2_with fail
      go_region_law (refine step_append_any _ rfl (.tmp 39) (.tmp 41) _ rfl w.heap.size 154 i0 (.agg #[.int .i64 0,.int .i64 0,.int .i64 0,.int .i64 0]) 4 32 Try.underlying42 HI.out.1 HI.out.2.1 HI.out.2.2.1 HI.out.2.2.2 rfl (by decide) (.slice V k cv) k xs (by simp [Act.eval,Act.put]) ((H2.out.2.2.1.drew).alloc (.cells (List.toArray (kL x)) 154)) (w2.heap.size+1) (some ⟨w2.heap.size,0,none⟩) 1 1 (kL x) (by simp [Act.eval,Act.put]) (Reads.drew (reads_box w2 154 (kL x))) (by simp [Value.oneCell']) (by simp only [maxLen];omega) (by omega) (by simp;omega) ?_;intro v3 w3 hown hg hat;obtain ⟨V3,c3,rfl⟩:=own_form2 hown;have q0:w3.cell? ⟨b,o,none⟩=some (.slice V k cv):=(by rw [World.cell?_of_block (hg.block b (by simp;omega) (fun e1=>by have:=(own_ge H2.out.2.2.1 e1.symm).1;omega))];exact cell_over _ cl);have g0:w3.frozen? ⟨b,o,none⟩=false:=(by rw [World.frozen?_of_block (hg.block b (by simp;omega) (fun e1=>by have:=(own_ge H2.out.2.2.1 e1.symm).1;omega))];exact (H2.out.2.2.2.2.1.drew.alloc _).frozen o);have H3:=Lib.hid (And.intro hown hg);clear hown hg hat)
      all_goals
       go_wp2_with fail
       go_roundw
       case measure=>simp [intOf];omega
       exact ⟨k+1,l ++ [x],X2,c2,t2,od2,V3,c3,_,by omega,by go_num,HL.out.push keepN_flat hgs hbs hne HB.out.1 rfl rfl H2.out.1 H2.out.2.1 H3.out.1 H3.out.2 hor⟩
    ·obtain rfl:k=N:=by omega
     go_wp2_with fail
     go_end0
     have h:=HL.out
     refine Or.inr ⟨⟨_,rfl⟩,X',c',t',od',l,[.slice V k cv],h.pr,h.blk,⟨V,cv,xs,?_,?_,h.els⟩,h.fr,Nat.le_trans h.le HD.out.2,fun e=>⟨(h.ok e).1,?_⟩,fun e e0=>?_⟩
     ·rw [h.len]
     ·rw [h.len];exact h.own
     ·rw [listDec_eq HD.out.1 h0 h1,Int.toNat_natCast];exact (h.ok e).2
     ·rw [listDec_eq HD.out.1 h0 h1,Int.toNat_natCast];exact h.bad e e0
end Go.Proofs.Ytfdldbfjeamlcaa.RecRList
namespace Go.Proofs.Ytfdldbfjeamlcaa.RecRListE
set_option maxRecDepth 100000
set_option maxHeartbeats 2000000
open Go.RowKit Mem RecMem RecByte RecNum RecEach RecMath RecCod RecCods RecPort RecCommand RecCmdJ RecVal RecSame RecOwn RecRd RecRByte RecRNum RecREach RecRFlat RecRClass RecRL0
def keepR:=flatR 9 eL fun _=>rfl
theorem rkeep_out (B gp:Nat) (X:Option Addr) (t:Bs) (c:Nat) (od:Bool) (b o:Nat) (T:TypeId) (cs:Array Value) (w:World) (hP:PR B w gp X t c od) (hK:Blk w b T cs) (hz:ZAt cs o [.int .i64 0,.int .i64 0,.int .i64 0,.int .i64 0,.int .i64 0,.int .i64 0,.int .i64 0,.int .i64 0,.int .i64 0]) (hb:B≤b) (hne:b≠gp):Calls Try.prog 115 #[.pointer (some ⟨gp,0,none⟩),.pointer (some ⟨b,o,none⟩)] w fun e w' => ROut keepR keepC.dec B gp b T cs o t od w e w':=
 (rkeep B gp X t c od b o T cs w hP hK hz hb hne).mono fun e w' h=>RPl.out 9 (fun _=>rfl) h
theorem rlistE_info:(Try.prog.info? 112).map (fun i=>(i.zero,i.size,i.bytes))=some (some (.agg Sq.zzE),9,72):=by kernel_rfl
theorem rlistE (B gp:Nat) (X:Option Addr) (t:Bs) (c:Nat) (od:Bool) (b o:Nat) (T:TypeId) (cs:Array Value) (w:World) (hP:PR B w gp X t c od) (hK:Blk w b T cs) (hz:ZAt cs o [.slice none 0 0]) (hb:B≤b) (hne:b≠gp) :
    Calls Try.prog 114 #[.pointer (some ⟨gp,0,none⟩),.pointer (some ⟨b,o,none⟩),.func (.func 115) #[.pointer (some ⟨gp,0,none⟩)] #[]] w fun e w' => ROut (listR keepR 112) (listDec keepC) B gp b T cs o t od w e w':=by
 obtain ⟨i0,hi0,hz0,hz1,hz2⟩:=info_parts rlistE_info
 have HI:=Lib.hid (And.intro hi0 (And.intro hz0 (And.intro hz1 hz2)))
 have ca:w.cell? ⟨b,o,none⟩=some (.slice none 0 0):=(hK.cell o).trans (hz 0 _ rfl)
 have hor:o < cs.size:=hz.size (by simp)
 have hbs:=hK.lt
 have hgs:=hP.lt
 have hlow:=hP.low
 have HC:=Lib.hid (rnum B gp X t c od w.heap.size 0 INT #[.int .i64 0] (w.alloc (.cells #[.int .i64 0] INT)) (hP.alloc _) (Blk.new w INT #[.int .i64 0]) (zat_one _) (by omega) (by omega))
 have HK:=Lib.hid hK
 have HB:=Lib.hid (And.intro hb hne)
 clear hi0 hz0 hz1 hz2 hP hK hz
 go_enter Try.func114,Try.ntmps114
 go_wp2_with fail
 refine HC.out.mono ?_
 rintro e w1 (⟨rfl,hd,hf⟩ | ⟨⟨r,rfl⟩,X1,c1,t1,m,hd,hl,hP1,hK1,hf1⟩)
 ·have HN:=Lib.hid (And.intro hd (((FrR.refl gp b w).alloc (.cells #[.int .i64 0] INT)).trans_new hf (Nat.le_refl _)))
  clear hd hf HC ca
  go_wp2_with fail
  exact ⟨rfl,Or.inl ⟨rfl,fun _=>listDec_none1 HN.out.1,HN.out.2⟩⟩
 ·have hKb:Blk w1 b T cs:=hf1.blk (HK.out.alloc _) hne (by omega)
  have hfw:FrR gp b w w1:=((FrR.refl gp b w).alloc (.cells #[.int .i64 0] INT)).trans_new hf1 (Nat.le_refl _)
  have cn:w1.cell? ⟨w.heap.size,0,none⟩=some (.int .i64 m):=hK1.cell 0
  have fn0:=hK1.frozen 0
  have p1:w1.cell? ⟨gp,1,none⟩=some (.bool true):=hP1.blk.cell 1
  have p2:w1.cell? ⟨gp,2,none⟩=some (.bool od):=hP1.blk.cell 2
  have g2:=hP1.blk.frozen 2
  have ca1:w1.cell? ⟨b,o,none⟩=some (.slice none 0 0):=by rw [hKb.cell o,← HK.out.cell o];exact ca
  have fb:=hKb.frozen o
  have hsz:w.heap.size+1≤w1.heap.size:=by have:=hf1.size;simpa using this
  have hgs1:gp < w1.heap.size:=by omega
  have hbs1:b < w1.heap.size:=by omega
  have hns1:w.heap.size < w1.heap.size:=by omega
  have hne1:¬ (w.heap.size=gp):=by omega
  have hne2:¬ (w.heap.size=b):=by omega
  have hne3:¬ (b=gp):=hne
  have H1:=Lib.hid (And.intro hd (And.intro hl (And.intro hP1 (And.intro hKb hfw))))
  have HM:=Lib.hid hK1
  clear hd hl hP1 hK1 hKb hfw hf1 HC ca
  by_cases hodd:m < 0∨1000 < m
  ·have HO:=Lib.hid hodd
   have fin:∀ (W:World),W=(((w1.setCell ⟨gp,2,none⟩ (.bool true)).setCell ⟨w.heap.size,0,none⟩ (.int .i64 0)).setCell ⟨b,o,none⟩ (.slice none 0 0))→ROut (listR keepR 112) (listDec keepC) B gp b T cs o t od w (.returned (.tuple #[])) W:=fun W hW=>by
    subst hW
    refine Or.inr ⟨⟨_,rfl⟩,X1,c1,t1,true,[],[.slice none 0 0],?_,?_,⟨none,0,[],rfl,World.ownsRow_nil _ _ _ _,fun i x hi=>by simp at hi⟩,?_,H1.out.2.1,fun e=>by (cases e),fun _ _=>listDec_odd H1.out.1 HO.out⟩
    ·exact (((H1.out.2.2.1.odd true).set_ (p:=⟨w.heap.size,0,none⟩) hne1 (by simp;omega) _).set_ (p:=⟨b,o,none⟩) hne (by simpa using HB.out.1) _)
    ·exact ((H1.out.2.2.2.1.far (p:=⟨gp,2,none⟩) hne _).far (p:=⟨w.heap.size,0,none⟩) (fun e=>hne2 e.symm) _).set_ o _
    ·exact (((H1.out.2.2.2.2.set_ (p:=⟨gp,2,none⟩) (.inl rfl) _).set_ (p:=⟨w.heap.size,0,none⟩) (.inr (.inr (Nat.le_refl _))) _).set_ (p:=⟨b,o,none⟩) (.inr (.inl rfl)) _)
   have FIN:=Lib.hid fin
   clear fin
   rcases hodd with h0 | h0
   all_goals
    go_wp2_with fail
    refine wp_loop_rounds 1 ?_
    rw [rounds_succ]
    go_wp2_with fail
    go_end0
    exact FIN.out _ rfl
  ·have h0:0≤m:=by omega
   have h1:m≤1000:=by omega
   clear hodd
   obtain ⟨N,rfl⟩:∃ N:Nat,m=N:=⟨m.toNat,by omega⟩
   go_upto_region 7 with fail
   have HS:=Lib.hid (show LSt keepR keepC 112 B gp b T cs o t1 od w 0 [] X1 c1 t1 od none 0 [] (w1.setCell ⟨b,o,none⟩ (.slice none 0 0)) from
    ⟨rfl,H1.out.2.2.1.set_ hne (by simpa using HB.out.1) _,H1.out.2.2.2.1.set_ o _,World.ownsRow_nil _ _ _ _,fun i x hi=>by (simp at hi),H1.out.2.2.2.2.set_ (.inr (.inl rfl)) _,Nat.le_refl _,fun e=>⟨e,rfl⟩,fun e e0=>by (rw [e] at e0;cases e0)⟩)
   have cn2:(w1.setCell ⟨b,o,none⟩ (.slice none 0 0)).cell? ⟨w.heap.size,0,none⟩=some (.int .i64 (N:Int)):=(HM.out.far (p:=⟨b,o,none⟩) hne2 _).cell 0
   generalize w1.setCell ⟨b,o,none⟩ (.slice none 0 0)=W2 at *
   clear cn fn0 p1 p2 g2 ca1 fb HM
   have HD:=Lib.hid (And.intro (show numDec t=some ((N:Int),t1) from H1.out.1) H1.out.2.1)
   clear H1
   go_wp2_with fail
   clear cn2
   go_loopw [32] (fun i wr=>∃ (k:Nat) (l:List EV) (X':Option Addr) (c':Nat) (t':Bs) (od':Bool) (V:Option Addr) (cv:Nat) (xs:List Value),k≤N∧i = .int .i64 k∧Hid (LSt keepR keepC 112 B gp b T cs o t1 od w k l X' c' t' od' V cv xs wr))
    (fun i _=>N - (intOf i).toNat)
   case atStart=>exact ⟨0,[],X1,c1,t1,od,none,0,[],Nat.zero_le _,rfl,HS.out⟩
   case round =>
    obtain ⟨k,l,X',c',t',od',V,cv,xs,hk,rfl,HL⟩:=hrel
    clear HS
    by_cases hlt:k < N
    ·have hki:(k:Int) < (N:Int):=by omega
     have hws:w.heap.size≤wr.heap.size:=HL.out.fr.size
     have HC:=Lib.hid (rkeep_out B gp X' t' c' od' wr.heap.size 0 112 Sq.zzE (wr.alloc (.cells Sq.zzE 112)) (HL.out.pr.alloc _) (Blk.new wr 112 Sq.zzE) (ZAt.left (zs:=[.int .i64 0,.int .i64 0,.int .i64 0,.int .i64 0,.int .i64 0,.int .i64 0,.int .i64 0,.int .i64 0,.int .i64 0]) (us:=[]) (fun i v hi=>by (simpa using hi))) (by omega) (by omega))
     go_wp2_with fail
     refine HC.out.mono ?_
     rintro e w2 (⟨rfl,hd,hf⟩ | ⟨⟨r,rfl⟩,X2,c2,t2,od2,x,vs,hP2,hK2,hM2⟩)
     ·have HN:=Lib.hid (show (od=false→listDec keepC t=none)∧FrR gp b w w2 from ⟨fun e0=>by rw [listDec_eq HD.out.1 h0 h1];exact HL.out.fail (w2:=w2) (ob:=.cells Sq.zzE 112) hd (by omega) e0,(HL.out.fr.alloc _).trans_new hf hws⟩)
      clear hd hf HC
      go_wp2_with fail
      exact ⟨rfl,Or.inl ⟨rfl,HN.out⟩⟩
     ·obtain rfl:vs=(eL x):=hM2.at_
      have hZ:setA Sq.zzE 0 (eL x)=List.toArray (eL x):=setA_full rfl
      rw [hZ] at hK2
      have hrd:=HL.out.read hgs hbs hne hM2.fr
      have cx0:w2.cell? ⟨wr.heap.size,0,none⟩=some (.int .i64 x.id):=hK2.cell 0
      have cx1:w2.cell? ⟨wr.heap.size,1,none⟩=some (.int .i64 x.b0):=hK2.cell 1
      have cx2:w2.cell? ⟨wr.heap.size,2,none⟩=some (.int .i64 x.b1):=hK2.cell 2
      have cx3:w2.cell? ⟨wr.heap.size,3,none⟩=some (.int .i64 x.b2):=hK2.cell 3
      have cx4:w2.cell? ⟨wr.heap.size,4,none⟩=some (.int .i64 x.b3):=hK2.cell 4
      have cx5:w2.cell? ⟨wr.heap.size,5,none⟩=some (.int .i64 x.b4):=hK2.cell 5
      have cx6:w2.cell? ⟨wr.heap.size,6,none⟩=some (.int .i64 x.b5):=hK2.cell 6
      have cx7:w2.cell? ⟨wr.heap.size,7,none⟩=some (.int .i64 x.fr):=hK2.cell 7
      have cx8:w2.cell? ⟨wr.heap.size,8,none⟩=some (.int .i64 x.to):=hK2.cell 8
      have cl:w2.cell? ⟨b,o,none⟩=some (.slice V k cv):=by
       rw [hrd.2.2.1.cell o,setA_get _ _ _ (by simp;omega),if_pos (by simp)]
       simp
      have fl:=hrd.2.2.1.frozen o
      have hws2:wr.heap.size+1≤w2.heap.size:=by have:=hM2.fr.size;simpa using this
      have hbs2:b < w2.heap.size:=by omega
      have hxs2:wr.heap.size < w2.heap.size:=by omega
      have hbe:¬ (wr.heap.size=b):=by omega
      have H2:=Lib.hid (And.intro hP2 (And.intro hM2 hrd))
      clear hP2 hK2 hM2 hrd HC hZ
      go_wp2_with fail
      go_region_law (refine step_append_any _ rfl (.tmp 39) (.tmp 41) _ rfl w.heap.size 112 i0 (.agg Sq.zzE) 9 72 Try.underlying47 HI.out.1 HI.out.2.1 HI.out.2.2.1 HI.out.2.2.2 rfl (by decide) (.slice V k cv) k xs (by simp [Act.eval,Act.put]) ((H2.out.2.2.1.drew).alloc (.cells (List.toArray (eL x)) 112)) (w2.heap.size+1) (some ⟨w2.heap.size,0,none⟩) 1 1 (eL x) (by simp [Act.eval,Act.put]) (Reads.drew (reads_box w2 112 (eL x))) (by simp [Value.oneCell']) (by simp only [maxLen];omega) (by omega) (by simp;omega) ?_;intro v3 w3 hown hg hat;obtain ⟨V3,c3,rfl⟩:=own_form2 hown;have q0:w3.cell? ⟨b,o,none⟩=some (.slice V k cv):=(by rw [World.cell?_of_block (hg.block b (by simp;omega) (fun e1=>by have:=(own_ge H2.out.2.2.1 e1.symm).1;omega))];exact cell_over _ cl);have g0:w3.frozen? ⟨b,o,none⟩=false:=(by rw [World.frozen?_of_block (hg.block b (by simp;omega) (fun e1=>by have:=(own_ge H2.out.2.2.1 e1.symm).1;omega))];exact (H2.out.2.2.2.2.1.drew.alloc _).frozen o);have H3:=Lib.hid (And.intro hown hg);clear hown hg hat)
      all_goals
       go_wp2_with fail
       go_roundw
       case measure=>simp [intOf];omega
       exact ⟨k+1,l ++ [x],X2,c2,t2,od2,V3,c3,_,by omega,by go_num,HL.out.push keepN_flat hgs hbs hne HB.out.1 rfl rfl H2.out.1 H2.out.2.1 H3.out.1 H3.out.2 hor⟩
    ·obtain rfl:k=N:=by omega
     go_wp2_with fail
     go_end0
     have h:=HL.out
     refine Or.inr ⟨⟨_,rfl⟩,X',c',t',od',l,[.slice V k cv],h.pr,h.blk,⟨V,cv,xs,?_,?_,h.els⟩,h.fr,Nat.le_trans h.le HD.out.2,fun e=>⟨(h.ok e).1,?_⟩,fun e e0=>?_⟩
     ·rw [h.len]
     ·rw [h.len];exact h.own
     ·rw [listDec_eq HD.out.1 h0 h1,Int.toNat_natCast];exact (h.ok e).2
     ·rw [listDec_eq HD.out.1 h0 h1,Int.toNat_natCast];exact h.bad e e0
end Go.Proofs.Ytfdldbfjeamlcaa.RecRListE
namespace Go.Proofs.Ytfdldbfjeamlcaa.RecRListP
set_option maxRecDepth 100000
set_option maxHeartbeats 2000000
open Go.RowKit Mem RecMem RecByte RecNum RecEach RecMath RecCod RecCods RecPort RecCommand RecCmdJ RecVal RecSame RecOwn RecRd RecRByte RecRNum RecREach RecRFlat RecRClass RecRL0
def partR:=flatR 13 pL fun _=>rfl
theorem rpart_out (B gp:Nat) (X:Option Addr) (t:Bs) (c:Nat) (od:Bool) (b o:Nat) (T:TypeId) (cs:Array Value) (w:World) (hP:PR B w gp X t c od) (hK:Blk w b T cs) (hz:ZAt cs o [.int .i64 0,.int .i64 0,.int .i64 0,.int .i64 0,.int .i64 0,.int .i64 0,.int .i64 0,.bool false,.bool false,.bool false,.int .u8 0,.int .i64 0,.int .i64 0]) (hb:B≤b) (hne:b≠gp):Calls Try.prog 113 #[.pointer (some ⟨gp,0,none⟩),.pointer (some ⟨b,o,none⟩)] w fun e w' => ROut partR partC.dec B gp b T cs o t od w e w':=
 (rpart B gp X t c od b o T cs w hP hK hz hb hne).mono fun e w' h=>RPl.out 13 (fun _=>rfl) h
theorem rlistP_info:(Try.prog.info? 109).map (fun i=>(i.zero,i.size,i.bytes))=some (some (.agg Sq.zzP),13,88):=by kernel_rfl
theorem rlistP (B gp:Nat) (X:Option Addr) (t:Bs) (c:Nat) (od:Bool) (b o:Nat) (T:TypeId) (cs:Array Value) (w:World) (hP:PR B w gp X t c od) (hK:Blk w b T cs) (hz:ZAt cs o [.slice none 0 0]) (hb:B≤b) (hne:b≠gp) :
    Calls Try.prog 112 #[.pointer (some ⟨gp,0,none⟩),.pointer (some ⟨b,o,none⟩),.func (.func 113) #[.pointer (some ⟨gp,0,none⟩)] #[]] w fun e w' => ROut (listR partR 109) (listDec partC) B gp b T cs o t od w e w':=by
 obtain ⟨i0,hi0,hz0,hz1,hz2⟩:=info_parts rlistP_info
 have HI:=Lib.hid (And.intro hi0 (And.intro hz0 (And.intro hz1 hz2)))
 have ca:w.cell? ⟨b,o,none⟩=some (.slice none 0 0):=(hK.cell o).trans (hz 0 _ rfl)
 have hor:o < cs.size:=hz.size (by simp)
 have hbs:=hK.lt
 have hgs:=hP.lt
 have hlow:=hP.low
 have HC:=Lib.hid (rnum B gp X t c od w.heap.size 0 INT #[.int .i64 0] (w.alloc (.cells #[.int .i64 0] INT)) (hP.alloc _) (Blk.new w INT #[.int .i64 0]) (zat_one _) (by omega) (by omega))
 have HK:=Lib.hid hK
 have HB:=Lib.hid (And.intro hb hne)
 clear hi0 hz0 hz1 hz2 hP hK hz
 go_enter Try.func112,Try.ntmps112
 go_wp2_with fail
 refine HC.out.mono ?_
 rintro e w1 (⟨rfl,hd,hf⟩ | ⟨⟨r,rfl⟩,X1,c1,t1,m,hd,hl,hP1,hK1,hf1⟩)
 ·have HN:=Lib.hid (And.intro hd (((FrR.refl gp b w).alloc (.cells #[.int .i64 0] INT)).trans_new hf (Nat.le_refl _)))
  clear hd hf HC ca
  go_wp2_with fail
  exact ⟨rfl,Or.inl ⟨rfl,fun _=>listDec_none1 HN.out.1,HN.out.2⟩⟩
 ·have hKb:Blk w1 b T cs:=hf1.blk (HK.out.alloc _) hne (by omega)
  have hfw:FrR gp b w w1:=((FrR.refl gp b w).alloc (.cells #[.int .i64 0] INT)).trans_new hf1 (Nat.le_refl _)
  have cn:w1.cell? ⟨w.heap.size,0,none⟩=some (.int .i64 m):=hK1.cell 0
  have fn0:=hK1.frozen 0
  have p1:w1.cell? ⟨gp,1,none⟩=some (.bool true):=hP1.blk.cell 1
  have p2:w1.cell? ⟨gp,2,none⟩=some (.bool od):=hP1.blk.cell 2
  have g2:=hP1.blk.frozen 2
  have ca1:w1.cell? ⟨b,o,none⟩=some (.slice none 0 0):=by rw [hKb.cell o,← HK.out.cell o];exact ca
  have fb:=hKb.frozen o
  have hsz:w.heap.size+1≤w1.heap.size:=by have:=hf1.size;simpa using this
  have hgs1:gp < w1.heap.size:=by omega
  have hbs1:b < w1.heap.size:=by omega
  have hns1:w.heap.size < w1.heap.size:=by omega
  have hne1:¬ (w.heap.size=gp):=by omega
  have hne2:¬ (w.heap.size=b):=by omega
  have hne3:¬ (b=gp):=hne
  have H1:=Lib.hid (And.intro hd (And.intro hl (And.intro hP1 (And.intro hKb hfw))))
  have HM:=Lib.hid hK1
  clear hd hl hP1 hK1 hKb hfw hf1 HC ca
  by_cases hodd:m < 0∨1000 < m
  ·have HO:=Lib.hid hodd
   have fin:∀ (W:World),W=(((w1.setCell ⟨gp,2,none⟩ (.bool true)).setCell ⟨w.heap.size,0,none⟩ (.int .i64 0)).setCell ⟨b,o,none⟩ (.slice none 0 0))→ROut (listR partR 109) (listDec partC) B gp b T cs o t od w (.returned (.tuple #[])) W:=fun W hW=>by
    subst hW
    refine Or.inr ⟨⟨_,rfl⟩,X1,c1,t1,true,[],[.slice none 0 0],?_,?_,⟨none,0,[],rfl,World.ownsRow_nil _ _ _ _,fun i x hi=>by simp at hi⟩,?_,H1.out.2.1,fun e=>by (cases e),fun _ _=>listDec_odd H1.out.1 HO.out⟩
    ·exact (((H1.out.2.2.1.odd true).set_ (p:=⟨w.heap.size,0,none⟩) hne1 (by simp;omega) _).set_ (p:=⟨b,o,none⟩) hne (by simpa using HB.out.1) _)
    ·exact ((H1.out.2.2.2.1.far (p:=⟨gp,2,none⟩) hne _).far (p:=⟨w.heap.size,0,none⟩) (fun e=>hne2 e.symm) _).set_ o _
    ·exact (((H1.out.2.2.2.2.set_ (p:=⟨gp,2,none⟩) (.inl rfl) _).set_ (p:=⟨w.heap.size,0,none⟩) (.inr (.inr (Nat.le_refl _))) _).set_ (p:=⟨b,o,none⟩) (.inr (.inl rfl)) _)
   have FIN:=Lib.hid fin
   clear fin
   rcases hodd with h0 | h0
   all_goals
    go_wp2_with fail
    refine wp_loop_rounds 1 ?_
    rw [rounds_succ]
    go_wp2_with fail
    go_end0
    exact FIN.out _ rfl
  ·have h0:0≤m:=by omega
   have h1:m≤1000:=by omega
   clear hodd
   obtain ⟨N,rfl⟩:∃ N:Nat,m=N:=⟨m.toNat,by omega⟩
   go_upto_region 7 with fail
   have HS:=Lib.hid (show LSt partR partC 109 B gp b T cs o t1 od w 0 [] X1 c1 t1 od none 0 [] (w1.setCell ⟨b,o,none⟩ (.slice none 0 0)) from
    ⟨rfl,H1.out.2.2.1.set_ hne (by simpa using HB.out.1) _,H1.out.2.2.2.1.set_ o _,World.ownsRow_nil _ _ _ _,fun i x hi=>by (simp at hi),H1.out.2.2.2.2.set_ (.inr (.inl rfl)) _,Nat.le_refl _,fun e=>⟨e,rfl⟩,fun e e0=>by (rw [e] at e0;cases e0)⟩)
   have cn2:(w1.setCell ⟨b,o,none⟩ (.slice none 0 0)).cell? ⟨w.heap.size,0,none⟩=some (.int .i64 (N:Int)):=(HM.out.far (p:=⟨b,o,none⟩) hne2 _).cell 0
   generalize w1.setCell ⟨b,o,none⟩ (.slice none 0 0)=W2 at *
   clear cn fn0 p1 p2 g2 ca1 fb HM
   have HD:=Lib.hid (And.intro (show numDec t=some ((N:Int),t1) from H1.out.1) H1.out.2.1)
   clear H1
   go_wp2_with fail
   clear cn2
   go_loopw [32] (fun i wr=>∃ (k:Nat) (l:List PV) (X':Option Addr) (c':Nat) (t':Bs) (od':Bool) (V:Option Addr) (cv:Nat) (xs:List Value),k≤N∧i = .int .i64 k∧Hid (LSt partR partC 109 B gp b T cs o t1 od w k l X' c' t' od' V cv xs wr))
    (fun i _=>N - (intOf i).toNat)
   case atStart=>exact ⟨0,[],X1,c1,t1,od,none,0,[],Nat.zero_le _,rfl,HS.out⟩
   case round =>
    obtain ⟨k,l,X',c',t',od',V,cv,xs,hk,rfl,HL⟩:=hrel
    clear HS
    by_cases hlt:k < N
    ·have hki:(k:Int) < (N:Int):=by omega
     have hws:w.heap.size≤wr.heap.size:=HL.out.fr.size
     have HC:=Lib.hid (rpart_out B gp X' t' c' od' wr.heap.size 0 109 Sq.zzP (wr.alloc (.cells Sq.zzP 109)) (HL.out.pr.alloc _) (Blk.new wr 109 Sq.zzP) (ZAt.left (zs:=[.int .i64 0,.int .i64 0,.int .i64 0,.int .i64 0,.int .i64 0,.int .i64 0,.int .i64 0,.bool false,.bool false,.bool false,.int .u8 0,.int .i64 0,.int .i64 0]) (us:=[]) (fun i v hi=>by (simpa using hi))) (by omega) (by omega))
     go_wp2_with fail
     refine HC.out.mono ?_
     rintro e w2 (⟨rfl,hd,hf⟩ | ⟨⟨r,rfl⟩,X2,c2,t2,od2,x,vs,hP2,hK2,hM2⟩)
     ·have HN:=Lib.hid (show (od=false→listDec partC t=none)∧FrR gp b w w2 from ⟨fun e0=>by rw [listDec_eq HD.out.1 h0 h1];exact HL.out.fail (w2:=w2) (ob:=.cells Sq.zzP 109) hd (by omega) e0,(HL.out.fr.alloc _).trans_new hf hws⟩)
      clear hd hf HC
      go_wp2_with fail
      exact ⟨rfl,Or.inl ⟨rfl,HN.out⟩⟩
     ·obtain rfl:vs=(pL x):=hM2.at_
      have hZ:setA Sq.zzP 0 (pL x)=List.toArray (pL x):=setA_full rfl
      rw [hZ] at hK2
      have hrd:=HL.out.read hgs hbs hne hM2.fr
      have cx0:w2.cell? ⟨wr.heap.size,0,none⟩=some (.int .i64 x.jb):=hK2.cell 0
      have cx1:w2.cell? ⟨wr.heap.size,1,none⟩=some (.int .i64 x.b0):=hK2.cell 1
      have cx2:w2.cell? ⟨wr.heap.size,2,none⟩=some (.int .i64 x.b1):=hK2.cell 2
      have cx3:w2.cell? ⟨wr.heap.size,3,none⟩=some (.int .i64 x.b2):=hK2.cell 3
      have cx4:w2.cell? ⟨wr.heap.size,4,none⟩=some (.int .i64 x.b3):=hK2.cell 4
      have cx5:w2.cell? ⟨wr.heap.size,5,none⟩=some (.int .i64 x.b4):=hK2.cell 5
      have cx6:w2.cell? ⟨wr.heap.size,6,none⟩=some (.int .i64 x.b5):=hK2.cell 6
      have cx7:w2.cell? ⟨wr.heap.size,7,none⟩=some (.bool x.p):=hK2.cell 7
      have cx8:w2.cell? ⟨wr.heap.size,8,none⟩=some (.bool x.q):=hK2.cell 8
      have cx9:w2.cell? ⟨wr.heap.size,9,none⟩=some (.bool x.r):=hK2.cell 9
      have cx10:w2.cell? ⟨wr.heap.size,10,none⟩=some (.int .u8 x.ph):=hK2.cell 10
      have cx11:w2.cell? ⟨wr.heap.size,11,none⟩=some (.int .i64 x.tr):=hK2.cell 11
      have cx12:w2.cell? ⟨wr.heap.size,12,none⟩=some (.int .i64 x.si):=hK2.cell 12
      have cl:w2.cell? ⟨b,o,none⟩=some (.slice V k cv):=by
       rw [hrd.2.2.1.cell o,setA_get _ _ _ (by simp;omega),if_pos (by simp)]
       simp
      have fl:=hrd.2.2.1.frozen o
      have hws2:wr.heap.size+1≤w2.heap.size:=by have:=hM2.fr.size;simpa using this
      have hbs2:b < w2.heap.size:=by omega
      have hxs2:wr.heap.size < w2.heap.size:=by omega
      have hbe:¬ (wr.heap.size=b):=by omega
      have H2:=Lib.hid (And.intro hP2 (And.intro hM2 hrd))
      clear hP2 hK2 hM2 hrd HC hZ
      go_wp2_with fail
      go_region_law (refine step_append_any _ rfl (.tmp 39) (.tmp 41) _ rfl w.heap.size 109 i0 (.agg Sq.zzP) 13 88 Try.underlying46 HI.out.1 HI.out.2.1 HI.out.2.2.1 HI.out.2.2.2 rfl (by decide) (.slice V k cv) k xs (by simp [Act.eval,Act.put]) ((H2.out.2.2.1.drew).alloc (.cells (List.toArray (pL x)) 109)) (w2.heap.size+1) (some ⟨w2.heap.size,0,none⟩) 1 1 (pL x) (by simp [Act.eval,Act.put]) (Reads.drew (reads_box w2 109 (pL x))) (by simp [Value.oneCell']) (by simp only [maxLen];omega) (by omega) (by simp;omega) ?_;intro v3 w3 hown hg hat;obtain ⟨V3,c3,rfl⟩:=own_form2 hown;have q0:w3.cell? ⟨b,o,none⟩=some (.slice V k cv):=(by rw [World.cell?_of_block (hg.block b (by simp;omega) (fun e1=>by have:=(own_ge H2.out.2.2.1 e1.symm).1;omega))];exact cell_over _ cl);have g0:w3.frozen? ⟨b,o,none⟩=false:=(by rw [World.frozen?_of_block (hg.block b (by simp;omega) (fun e1=>by have:=(own_ge H2.out.2.2.1 e1.symm).1;omega))];exact (H2.out.2.2.2.2.1.drew.alloc _).frozen o);have H3:=Lib.hid (And.intro hown hg);clear hown hg hat)
      all_goals
       go_wp2_with fail
       go_roundw
       case measure=>simp [intOf];omega
       exact ⟨k+1,l ++ [x],X2,c2,t2,od2,V3,c3,_,by omega,by go_num,HL.out.push keepN_flat hgs hbs hne HB.out.1 rfl rfl H2.out.1 H2.out.2.1 H3.out.1 H3.out.2 hor⟩
    ·obtain rfl:k=N:=by omega
     go_wp2_with fail
     go_end0
     have h:=HL.out
     refine Or.inr ⟨⟨_,rfl⟩,X',c',t',od',l,[.slice V k cv],h.pr,h.blk,⟨V,cv,xs,?_,?_,h.els⟩,h.fr,Nat.le_trans h.le HD.out.2,fun e=>⟨(h.ok e).1,?_⟩,fun e e0=>?_⟩
     ·rw [h.len]
     ·rw [h.len];exact h.own
     ·rw [listDec_eq HD.out.1 h0 h1,Int.toNat_natCast];exact (h.ok e).2
     ·rw [listDec_eq HD.out.1 h0 h1,Int.toNat_natCast];exact h.bad e e0
end Go.Proofs.Ytfdldbfjeamlcaa.RecRListP
namespace Go.Proofs.Ytfdldbfjeamlcaa.RecRState
set_option maxRecDepth 100000
set_option maxHeartbeats 1000000
open Go.RowKit Mem RecMem RecByte RecNum RecEach RecMath RecCod RecCods RecPort RecCommand RecCmdJ RecVal RecSame RecOwn RecRd RecRByte RecRNum RecREach RecRFlat RecRClass RecRL0 RecRListI RecRAsk RecRJob RecRList RecRListE RecRListP RecRListJ
abbrev CLT:TypeId:=154
abbrev JBT:TypeId:=28
abbrev PAT:TypeId:=109
abbrev KET:TypeId:=112
def stateR:Rep SV:=((((((((((((((n3R.pair numR).pair numR).pair numR).pair numR).pair (listR classR CLT)).pair numR).pair numR).pair (listR jobR JBT)).pair (listR partR PAT)).pair (listR keepR KET)).pair afR).pair afR).pair afR)).iso ofS
theorem rstate (B gp:Nat) (X:Option Addr) (t:Bs) (c:Nat) (od:Bool) (b o:Nat) (T:TypeId) (cs:Array Value) (w:World) (hP:PR B w gp X t c od) (hK:Blk w b T cs) (hz:ZAt cs o [.int .i64 0,.int .i64 0,.int .i64 0,.int .i64 0,.int .i64 0,.int .i64 0,.int .i64 0,.slice none 0 0,.int .i64 0,.int .i64 0,.slice none 0 0,.slice none 0 0,.slice none 0 0,.slice none 0 0,.slice none 0 0,.slice none 0 0]) (hb:B≤b) (hne:b≠gp) :
    Calls Try.prog 76 #[.pointer (some ⟨gp,0,none⟩),.pointer (some ⟨b,o,none⟩)] w fun e w' => ROut stateR stateC.dec B gp b T cs o t od w e w':=by
 have HS0:=Lib.hid (And.intro hP.lt hK.lt)
 have H0:=Lib.hid (And.intro hP (And.intro hK (And.intro hz (And.intro hb hne))))
 clear hP hK hz hb hne
 go_enter Try.func76,Try.ntmps76
 have HC1:=Lib.hid (rn3_out B gp X t c od b (o) T cs w H0.out.1 H0.out.2.1 (ZAt.left (zs:=[.int .i64 0,.int .i64 0,.int .i64 0]) (us:=[.int .i64 0,.int .i64 0,.int .i64 0,.int .i64 0,.slice none 0 0,.int .i64 0,.int .i64 0,.slice none 0 0,.slice none 0 0,.slice none 0 0,.slice none 0 0,.slice none 0 0,.slice none 0 0]) H0.out.2.2.1) H0.out.2.2.2.1 H0.out.2.2.2.2)
 go_wp2_with fail
 refine HC1.out.mono ?_
 intro e w1 hj
 have hfj:=ROut.fr hj
 rcases hj with ⟨rfl,hd,hf⟩ | ⟨⟨r1,rfl⟩,X1,c1,t1,od1,x1,vs1,hP,hK,hM⟩
 ·have HN:=Lib.hid (show (od=false→stateC.dec t=none)∧FrR gp b w w1 from ⟨fun e0=>iso_none (pairDec_none1 (pairDec_none1 (pairDec_none1 (pairDec_none1 (pairDec_none1 (pairDec_none1 (pairDec_none1 (pairDec_none1 (pairDec_none1 (pairDec_none1 (pairDec_none1 (pairDec_none1 (pairDec_none1 (hd e0)))))))))))))),hf⟩)
  clear hd hf HC1
  go_wp2_with fail
  exact ⟨rfl,(Or.inl ⟨rfl,HN.out⟩)⟩
 clear hfj
 have H1:=Lib.hid (And.intro hP (And.intro hK (And.intro (ZAt.next (R:=n3R) (zs:=[.int .i64 0,.int .i64 0,.int .i64 0]) (us:=[.int .i64 0,.int .i64 0,.int .i64 0,.int .i64 0,.slice none 0 0,.int .i64 0,.int .i64 0,.slice none 0 0,.slice none 0 0,.slice none 0 0,.slice none 0 0,.slice none 0 0,.slice none 0 0]) H0.out.2.2.1 rfl (by simp) hM.at_) hM)))
 clear hP hK hM HC1
 go_wp2_with fail
 go_region
 obtain ⟨hP,hK,hZ,hM⟩:=H1.out
 have hBB:Below w1.heap.size w1 (World.drew (w1.alloc (.cells #[.pointer (some ⟨b,o+3,none⟩),.pointer (some ⟨b,o+4,none⟩),.pointer (some ⟨b,o+5,none⟩),.pointer (some ⟨b,o+6,none⟩)] 147))):=(below_alloc (Below.refl _ _)).drew
 replace hP:=hP.up hBB
 replace hK:=hK.below hBB hK.lt
 replace hM:=RMid.up hM hBB
 have HG1:=Lib.hid (And.intro (show gp < w1.heap.size by have:=H1.out.2.2.2.fr.size;have:=HS0.out.1;omega) (show b < w1.heap.size by have:=H1.out.2.2.2.fr.size;have:=HS0.out.2;omega))
 have HQ1:=Lib.hid (Blk.new w1 147 #[.pointer (some ⟨b,o+3,none⟩),.pointer (some ⟨b,o+4,none⟩),.pointer (some ⟨b,o+5,none⟩),.pointer (some ⟨b,o+6,none⟩)]).drew
 clear H1 hBB
 obtain ⟨kq1,hkq⟩:∃ n,n=w1.heap.size:=⟨_,rfl⟩
 rw [← hkq] at HG1 HQ1
 generalize hw1:World.drew (w1.alloc (.cells #[.pointer (some ⟨b,o+3,none⟩),.pointer (some ⟨b,o+4,none⟩),.pointer (some ⟨b,o+5,none⟩),.pointer (some ⟨b,o+6,none⟩)] 147))=w1b at hP hK hM HQ1 ⊢
 rw [← hkq]
 clear hkq hw1
 have H1:=Lib.hid (And.intro hP (And.intro hK (And.intro hZ hM)))
 clear hP hK hZ hM
 have q1:w1b.cell? ⟨kq1,0,none⟩=some (.pointer (some ⟨b,o+3,none⟩)):=HQ1.out.cell 0
 have HC2:=Lib.hid (rnum_out B gp X1 t1 c1 od1 b (o+3) T (setA cs (o) vs1) w1b H1.out.1 H1.out.2.1 (ZAt.left (zs:=[.int .i64 0]) (us:=[.int .i64 0,.int .i64 0,.int .i64 0,.slice none 0 0,.int .i64 0,.int .i64 0,.slice none 0 0,.slice none 0 0,.slice none 0 0,.slice none 0 0,.slice none 0 0,.slice none 0 0]) H1.out.2.2.1) H0.out.2.2.2.1 H0.out.2.2.2.2)
 go_wp2_with fail
 refine wp_loop_rounds 5 ?_
 rw [rounds_succ]
 go_wp2_with fail
 refine HC2.out.mono ?_
 intro e w2 hj
 have hfj:=ROut.fr hj
 replace hj:=ROut.step (R:=n3R) (d1:=n3C.dec) (o:=(o)) 3 rfl H1.out.2.2.2 HS0.out.1 HS0.out.2 hj
 rcases hj with ⟨rfl,hd,hf⟩ | ⟨⟨r2,rfl⟩,X2,c2,t2,od2,x2,vs2,hP,hK,hM⟩
 ·have HN:=Lib.hid (show (od=false→stateC.dec t=none)∧FrR gp b w w2 from ⟨fun e0=>iso_none (pairDec_none1 (pairDec_none1 (pairDec_none1 (pairDec_none1 (pairDec_none1 (pairDec_none1 (pairDec_none1 (pairDec_none1 (pairDec_none1 (pairDec_none1 (pairDec_none1 (pairDec_none1 (hd e0))))))))))))),hf⟩)
  clear hd hf HC2
  go_wp2_with fail
  exact ⟨rfl,(Or.inl ⟨rfl,HN.out⟩)⟩
 have HQ2:=Lib.hid (hfj.blk HQ1.out (by have:=HG1.out;omega) (by have:=HG1.out;omega))
 have q2:w2.cell? ⟨kq1,1,none⟩=some (.pointer (some ⟨b,o+4,none⟩)):=HQ2.out.cell 1
 clear q1
 clear hfj
 have H2:=Lib.hid (And.intro hP (And.intro hK (And.intro (ZAt.next (R:=(n3R.pair numR)) (zs:=[.int .i64 0,.int .i64 0,.int .i64 0,.int .i64 0]) (us:=[.int .i64 0,.int .i64 0,.int .i64 0,.slice none 0 0,.int .i64 0,.int .i64 0,.slice none 0 0,.slice none 0 0,.slice none 0 0,.slice none 0 0,.slice none 0 0,.slice none 0 0]) H0.out.2.2.1 rfl (by simp) hM.at_) hM)))
 clear hP hK hM HC2
 have HC3:=Lib.hid (rnum_out B gp X2 t2 c2 od2 b (o+4) T (setA cs (o) vs2) w2 H2.out.1 H2.out.2.1 (ZAt.left (zs:=[.int .i64 0]) (us:=[.int .i64 0,.int .i64 0,.slice none 0 0,.int .i64 0,.int .i64 0,.slice none 0 0,.slice none 0 0,.slice none 0 0,.slice none 0 0,.slice none 0 0,.slice none 0 0]) H2.out.2.2.1) H0.out.2.2.2.1 H0.out.2.2.2.2)
 go_wp2_with fail
 rw [rounds_succ]
 go_wp2_with fail
 refine HC3.out.mono ?_
 intro e w3 hj
 have hfj:=ROut.fr hj
 replace hj:=ROut.step (R:=(n3R.pair numR)) (d1:=(pairDec n3C.dec numC.dec)) (o:=(o)) 4 rfl H2.out.2.2.2 HS0.out.1 HS0.out.2 hj
 rcases hj with ⟨rfl,hd,hf⟩ | ⟨⟨r3,rfl⟩,X3,c3,t3,od3,x3,vs3,hP,hK,hM⟩
 ·have HN:=Lib.hid (show (od=false→stateC.dec t=none)∧FrR gp b w w3 from ⟨fun e0=>iso_none (pairDec_none1 (pairDec_none1 (pairDec_none1 (pairDec_none1 (pairDec_none1 (pairDec_none1 (pairDec_none1 (pairDec_none1 (pairDec_none1 (pairDec_none1 (pairDec_none1 (hd e0)))))))))))),hf⟩)
  clear hd hf HC3
  go_wp2_with fail
  exact ⟨rfl,(Or.inl ⟨rfl,HN.out⟩)⟩
 have HQ3:=Lib.hid (hfj.blk HQ2.out (by have:=HG1.out;omega) (by have:=HG1.out;omega))
 have q3:w3.cell? ⟨kq1,2,none⟩=some (.pointer (some ⟨b,o+5,none⟩)):=HQ3.out.cell 2
 clear q2
 clear hfj
 have H3:=Lib.hid (And.intro hP (And.intro hK (And.intro (ZAt.next (R:=((n3R.pair numR).pair numR)) (zs:=[.int .i64 0,.int .i64 0,.int .i64 0,.int .i64 0,.int .i64 0]) (us:=[.int .i64 0,.int .i64 0,.slice none 0 0,.int .i64 0,.int .i64 0,.slice none 0 0,.slice none 0 0,.slice none 0 0,.slice none 0 0,.slice none 0 0,.slice none 0 0]) H0.out.2.2.1 rfl (by simp) hM.at_) hM)))
 clear hP hK hM HC3
 have HC4:=Lib.hid (rnum_out B gp X3 t3 c3 od3 b (o+5) T (setA cs (o) vs3) w3 H3.out.1 H3.out.2.1 (ZAt.left (zs:=[.int .i64 0]) (us:=[.int .i64 0,.slice none 0 0,.int .i64 0,.int .i64 0,.slice none 0 0,.slice none 0 0,.slice none 0 0,.slice none 0 0,.slice none 0 0,.slice none 0 0]) H3.out.2.2.1) H0.out.2.2.2.1 H0.out.2.2.2.2)
 go_wp2_with fail
 rw [rounds_succ]
 go_wp2_with fail
 refine HC4.out.mono ?_
 intro e w4 hj
 have hfj:=ROut.fr hj
 replace hj:=ROut.step (R:=((n3R.pair numR).pair numR)) (d1:=(pairDec (pairDec n3C.dec numC.dec) numC.dec)) (o:=(o)) 5 rfl H3.out.2.2.2 HS0.out.1 HS0.out.2 hj
 rcases hj with ⟨rfl,hd,hf⟩ | ⟨⟨r4,rfl⟩,X4,c4,t4,od4,x4,vs4,hP,hK,hM⟩
 ·have HN:=Lib.hid (show (od=false→stateC.dec t=none)∧FrR gp b w w4 from ⟨fun e0=>iso_none (pairDec_none1 (pairDec_none1 (pairDec_none1 (pairDec_none1 (pairDec_none1 (pairDec_none1 (pairDec_none1 (pairDec_none1 (pairDec_none1 (pairDec_none1 (hd e0))))))))))),hf⟩)
  clear hd hf HC4
  go_wp2_with fail
  exact ⟨rfl,(Or.inl ⟨rfl,HN.out⟩)⟩
 have HQ4:=Lib.hid (hfj.blk HQ3.out (by have:=HG1.out;omega) (by have:=HG1.out;omega))
 have q4:w4.cell? ⟨kq1,3,none⟩=some (.pointer (some ⟨b,o+6,none⟩)):=HQ4.out.cell 3
 clear q3
 clear hfj
 have H4:=Lib.hid (And.intro hP (And.intro hK (And.intro (ZAt.next (R:=(((n3R.pair numR).pair numR).pair numR)) (zs:=[.int .i64 0,.int .i64 0,.int .i64 0,.int .i64 0,.int .i64 0,.int .i64 0]) (us:=[.int .i64 0,.slice none 0 0,.int .i64 0,.int .i64 0,.slice none 0 0,.slice none 0 0,.slice none 0 0,.slice none 0 0,.slice none 0 0,.slice none 0 0]) H0.out.2.2.1 rfl (by simp) hM.at_) hM)))
 clear hP hK hM HC4
 have HC5:=Lib.hid (rnum_out B gp X4 t4 c4 od4 b (o+6) T (setA cs (o) vs4) w4 H4.out.1 H4.out.2.1 (ZAt.left (zs:=[.int .i64 0]) (us:=[.slice none 0 0,.int .i64 0,.int .i64 0,.slice none 0 0,.slice none 0 0,.slice none 0 0,.slice none 0 0,.slice none 0 0,.slice none 0 0]) H4.out.2.2.1) H0.out.2.2.2.1 H0.out.2.2.2.2)
 go_wp2_with fail
 rw [rounds_succ]
 go_wp2_with fail
 refine HC5.out.mono ?_
 intro e w5 hj
 have hfj:=ROut.fr hj
 replace hj:=ROut.step (R:=(((n3R.pair numR).pair numR).pair numR)) (d1:=(pairDec (pairDec (pairDec n3C.dec numC.dec) numC.dec) numC.dec)) (o:=(o)) 6 rfl H4.out.2.2.2 HS0.out.1 HS0.out.2 hj
 rcases hj with ⟨rfl,hd,hf⟩ | ⟨⟨r5,rfl⟩,X5,c5,t5,od5,x5,vs5,hP,hK,hM⟩
 ·have HN:=Lib.hid (show (od=false→stateC.dec t=none)∧FrR gp b w w5 from ⟨fun e0=>iso_none (pairDec_none1 (pairDec_none1 (pairDec_none1 (pairDec_none1 (pairDec_none1 (pairDec_none1 (pairDec_none1 (pairDec_none1 (pairDec_none1 (hd e0)))))))))),hf⟩)
  clear hd hf HC5
  go_wp2_with fail
  exact ⟨rfl,(Or.inl ⟨rfl,HN.out⟩)⟩
 clear q4
 clear hfj
 have H5:=Lib.hid (And.intro hP (And.intro hK (And.intro (ZAt.next (R:=((((n3R.pair numR).pair numR).pair numR).pair numR)) (zs:=[.int .i64 0,.int .i64 0,.int .i64 0,.int .i64 0,.int .i64 0,.int .i64 0,.int .i64 0]) (us:=[.slice none 0 0,.int .i64 0,.int .i64 0,.slice none 0 0,.slice none 0 0,.slice none 0 0,.slice none 0 0,.slice none 0 0,.slice none 0 0]) H0.out.2.2.1 rfl (by simp) hM.at_) hM)))
 clear hP hK hM HC5
 have HC6:=Lib.hid (rlistK B gp X5 t5 c5 od5 b (o+7) T (setA cs (o) vs5) w5 H5.out.1 H5.out.2.1 (ZAt.left (zs:=[.slice none 0 0]) (us:=[.int .i64 0,.int .i64 0,.slice none 0 0,.slice none 0 0,.slice none 0 0,.slice none 0 0,.slice none 0 0,.slice none 0 0]) H5.out.2.2.1) H0.out.2.2.2.1 H0.out.2.2.2.2)
 go_wp2_with fail
 rw [rounds_succ]
 go_wp2_with fail
 refine HC6.out.mono ?_
 intro e w6 hj
 have hfj:=ROut.fr hj
 replace hj:=ROut.step (R:=((((n3R.pair numR).pair numR).pair numR).pair numR)) (d1:=(pairDec (pairDec (pairDec (pairDec n3C.dec numC.dec) numC.dec) numC.dec) numC.dec)) (o:=(o)) 7 rfl H5.out.2.2.2 HS0.out.1 HS0.out.2 hj
 rcases hj with ⟨rfl,hd,hf⟩ | ⟨⟨r6,rfl⟩,X6,c6,t6,od6,x6,vs6,hP,hK,hM⟩
 ·have HN:=Lib.hid (show (od=false→stateC.dec t=none)∧FrR gp b w w6 from ⟨fun e0=>iso_none (pairDec_none1 (pairDec_none1 (pairDec_none1 (pairDec_none1 (pairDec_none1 (pairDec_none1 (pairDec_none1 (pairDec_none1 (hd e0))))))))),hf⟩)
  clear hd hf HC6
  go_wp2_with fail
  exact ⟨rfl,(Or.inl ⟨rfl,HN.out⟩)⟩
 clear hfj
 have H6:=Lib.hid (And.intro hP (And.intro hK (And.intro (ZAt.next (R:=(((((n3R.pair numR).pair numR).pair numR).pair numR).pair (listR classR CLT))) (zs:=[.int .i64 0,.int .i64 0,.int .i64 0,.int .i64 0,.int .i64 0,.int .i64 0,.int .i64 0,.slice none 0 0]) (us:=[.int .i64 0,.int .i64 0,.slice none 0 0,.slice none 0 0,.slice none 0 0,.slice none 0 0,.slice none 0 0,.slice none 0 0]) H0.out.2.2.1 rfl (by simp) hM.at_) hM)))
 clear hP hK hM HC6
 have HC7:=Lib.hid (rnum_out B gp X6 t6 c6 od6 b (o+8) T (setA cs (o) vs6) w6 H6.out.1 H6.out.2.1 (ZAt.left (zs:=[.int .i64 0]) (us:=[.int .i64 0,.slice none 0 0,.slice none 0 0,.slice none 0 0,.slice none 0 0,.slice none 0 0,.slice none 0 0]) H6.out.2.2.1) H0.out.2.2.2.1 H0.out.2.2.2.2)
 go_wp2_with fail
 refine HC7.out.mono ?_
 intro e w7 hj
 have hfj:=ROut.fr hj
 replace hj:=ROut.step (R:=(((((n3R.pair numR).pair numR).pair numR).pair numR).pair (listR classR CLT))) (d1:=(pairDec (pairDec (pairDec (pairDec (pairDec n3C.dec numC.dec) numC.dec) numC.dec) numC.dec) (listC classC).dec)) (o:=(o)) 8 rfl H6.out.2.2.2 HS0.out.1 HS0.out.2 hj
 rcases hj with ⟨rfl,hd,hf⟩ | ⟨⟨r7,rfl⟩,X7,c7,t7,od7,x7,vs7,hP,hK,hM⟩
 ·have HN:=Lib.hid (show (od=false→stateC.dec t=none)∧FrR gp b w w7 from ⟨fun e0=>iso_none (pairDec_none1 (pairDec_none1 (pairDec_none1 (pairDec_none1 (pairDec_none1 (pairDec_none1 (pairDec_none1 (hd e0)))))))),hf⟩)
  clear hd hf HC7
  go_wp2_with fail
  exact ⟨rfl,(Or.inl ⟨rfl,HN.out⟩)⟩
 clear hfj
 have H7:=Lib.hid (And.intro hP (And.intro hK (And.intro (ZAt.next (R:=((((((n3R.pair numR).pair numR).pair numR).pair numR).pair (listR classR CLT)).pair numR)) (zs:=[.int .i64 0,.int .i64 0,.int .i64 0,.int .i64 0,.int .i64 0,.int .i64 0,.int .i64 0,.slice none 0 0,.int .i64 0]) (us:=[.int .i64 0,.slice none 0 0,.slice none 0 0,.slice none 0 0,.slice none 0 0,.slice none 0 0,.slice none 0 0]) H0.out.2.2.1 rfl (by simp) hM.at_) hM)))
 clear hP hK hM HC7
 have HC8:=Lib.hid (rnum_out B gp X7 t7 c7 od7 b (o+9) T (setA cs (o) vs7) w7 H7.out.1 H7.out.2.1 (ZAt.left (zs:=[.int .i64 0]) (us:=[.slice none 0 0,.slice none 0 0,.slice none 0 0,.slice none 0 0,.slice none 0 0,.slice none 0 0]) H7.out.2.2.1) H0.out.2.2.2.1 H0.out.2.2.2.2)
 go_wp2_with fail
 refine HC8.out.mono ?_
 intro e w8 hj
 have hfj:=ROut.fr hj
 replace hj:=ROut.step (R:=((((((n3R.pair numR).pair numR).pair numR).pair numR).pair (listR classR CLT)).pair numR)) (d1:=(pairDec (pairDec (pairDec (pairDec (pairDec (pairDec n3C.dec numC.dec) numC.dec) numC.dec) numC.dec) (listC classC).dec) numC.dec)) (o:=(o)) 9 rfl H7.out.2.2.2 HS0.out.1 HS0.out.2 hj
 rcases hj with ⟨rfl,hd,hf⟩ | ⟨⟨r8,rfl⟩,X8,c8,t8,od8,x8,vs8,hP,hK,hM⟩
 ·have HN:=Lib.hid (show (od=false→stateC.dec t=none)∧FrR gp b w w8 from ⟨fun e0=>iso_none (pairDec_none1 (pairDec_none1 (pairDec_none1 (pairDec_none1 (pairDec_none1 (pairDec_none1 (hd e0))))))),hf⟩)
  clear hd hf HC8
  go_wp2_with fail
  exact ⟨rfl,(Or.inl ⟨rfl,HN.out⟩)⟩
 clear hfj
 have H8:=Lib.hid (And.intro hP (And.intro hK (And.intro (ZAt.next (R:=(((((((n3R.pair numR).pair numR).pair numR).pair numR).pair (listR classR CLT)).pair numR).pair numR)) (zs:=[.int .i64 0,.int .i64 0,.int .i64 0,.int .i64 0,.int .i64 0,.int .i64 0,.int .i64 0,.slice none 0 0,.int .i64 0,.int .i64 0]) (us:=[.slice none 0 0,.slice none 0 0,.slice none 0 0,.slice none 0 0,.slice none 0 0,.slice none 0 0]) H0.out.2.2.1 rfl (by simp) hM.at_) hM)))
 clear hP hK hM HC8
 have HC9:=Lib.hid (rlistJ B gp X8 t8 c8 od8 b (o+10) T (setA cs (o) vs8) w8 H8.out.1 H8.out.2.1 (ZAt.left (zs:=[.slice none 0 0]) (us:=[.slice none 0 0,.slice none 0 0,.slice none 0 0,.slice none 0 0,.slice none 0 0]) H8.out.2.2.1) H0.out.2.2.2.1 H0.out.2.2.2.2)
 go_wp2_with fail
 refine HC9.out.mono ?_
 intro e w9 hj
 have hfj:=ROut.fr hj
 replace hj:=ROut.step (R:=(((((((n3R.pair numR).pair numR).pair numR).pair numR).pair (listR classR CLT)).pair numR).pair numR)) (d1:=(pairDec (pairDec (pairDec (pairDec (pairDec (pairDec (pairDec n3C.dec numC.dec) numC.dec) numC.dec) numC.dec) (listC classC).dec) numC.dec) numC.dec)) (o:=(o)) 10 rfl H8.out.2.2.2 HS0.out.1 HS0.out.2 hj
 rcases hj with ⟨rfl,hd,hf⟩ | ⟨⟨r9,rfl⟩,X9,c9,t9,od9,x9,vs9,hP,hK,hM⟩
 ·have HN:=Lib.hid (show (od=false→stateC.dec t=none)∧FrR gp b w w9 from ⟨fun e0=>iso_none (pairDec_none1 (pairDec_none1 (pairDec_none1 (pairDec_none1 (pairDec_none1 (hd e0)))))),hf⟩)
  clear hd hf HC9
  go_wp2_with fail
  exact ⟨rfl,(Or.inl ⟨rfl,HN.out⟩)⟩
 clear hfj
 have H9:=Lib.hid (And.intro hP (And.intro hK (And.intro (ZAt.next (R:=((((((((n3R.pair numR).pair numR).pair numR).pair numR).pair (listR classR CLT)).pair numR).pair numR).pair (listR jobR JBT))) (zs:=[.int .i64 0,.int .i64 0,.int .i64 0,.int .i64 0,.int .i64 0,.int .i64 0,.int .i64 0,.slice none 0 0,.int .i64 0,.int .i64 0,.slice none 0 0]) (us:=[.slice none 0 0,.slice none 0 0,.slice none 0 0,.slice none 0 0,.slice none 0 0]) H0.out.2.2.1 rfl (by simp) hM.at_) hM)))
 clear hP hK hM HC9
 have HC10:=Lib.hid (rlistP B gp X9 t9 c9 od9 b (o+11) T (setA cs (o) vs9) w9 H9.out.1 H9.out.2.1 (ZAt.left (zs:=[.slice none 0 0]) (us:=[.slice none 0 0,.slice none 0 0,.slice none 0 0,.slice none 0 0]) H9.out.2.2.1) H0.out.2.2.2.1 H0.out.2.2.2.2)
 go_wp2_with fail
 refine HC10.out.mono ?_
 intro e w10 hj
 have hfj:=ROut.fr hj
 replace hj:=ROut.step (R:=((((((((n3R.pair numR).pair numR).pair numR).pair numR).pair (listR classR CLT)).pair numR).pair numR).pair (listR jobR JBT))) (d1:=(pairDec (pairDec (pairDec (pairDec (pairDec (pairDec (pairDec (pairDec n3C.dec numC.dec) numC.dec) numC.dec) numC.dec) (listC classC).dec) numC.dec) numC.dec) (listC jobC).dec)) (o:=(o)) 11 rfl H9.out.2.2.2 HS0.out.1 HS0.out.2 hj
 rcases hj with ⟨rfl,hd,hf⟩ | ⟨⟨r10,rfl⟩,X10,c10,t10,od10,x10,vs10,hP,hK,hM⟩
 ·have HN:=Lib.hid (show (od=false→stateC.dec t=none)∧FrR gp b w w10 from ⟨fun e0=>iso_none (pairDec_none1 (pairDec_none1 (pairDec_none1 (pairDec_none1 (hd e0))))),hf⟩)
  clear hd hf HC10
  go_wp2_with fail
  exact ⟨rfl,(Or.inl ⟨rfl,HN.out⟩)⟩
 clear hfj
 have H10:=Lib.hid (And.intro hP (And.intro hK (And.intro (ZAt.next (R:=(((((((((n3R.pair numR).pair numR).pair numR).pair numR).pair (listR classR CLT)).pair numR).pair numR).pair (listR jobR JBT)).pair (listR partR PAT))) (zs:=[.int .i64 0,.int .i64 0,.int .i64 0,.int .i64 0,.int .i64 0,.int .i64 0,.int .i64 0,.slice none 0 0,.int .i64 0,.int .i64 0,.slice none 0 0,.slice none 0 0]) (us:=[.slice none 0 0,.slice none 0 0,.slice none 0 0,.slice none 0 0]) H0.out.2.2.1 rfl (by simp) hM.at_) hM)))
 clear hP hK hM HC10
 have HC11:=Lib.hid (rlistE B gp X10 t10 c10 od10 b (o+12) T (setA cs (o) vs10) w10 H10.out.1 H10.out.2.1 (ZAt.left (zs:=[.slice none 0 0]) (us:=[.slice none 0 0,.slice none 0 0,.slice none 0 0]) H10.out.2.2.1) H0.out.2.2.2.1 H0.out.2.2.2.2)
 go_wp2_with fail
 refine HC11.out.mono ?_
 intro e w11 hj
 have hfj:=ROut.fr hj
 replace hj:=ROut.step (R:=(((((((((n3R.pair numR).pair numR).pair numR).pair numR).pair (listR classR CLT)).pair numR).pair numR).pair (listR jobR JBT)).pair (listR partR PAT))) (d1:=(pairDec (pairDec (pairDec (pairDec (pairDec (pairDec (pairDec (pairDec (pairDec n3C.dec numC.dec) numC.dec) numC.dec) numC.dec) (listC classC).dec) numC.dec) numC.dec) (listC jobC).dec) (listC partC).dec)) (o:=(o)) 12 rfl H10.out.2.2.2 HS0.out.1 HS0.out.2 hj
 rcases hj with ⟨rfl,hd,hf⟩ | ⟨⟨r11,rfl⟩,X11,c11,t11,od11,x11,vs11,hP,hK,hM⟩
 ·have HN:=Lib.hid (show (od=false→stateC.dec t=none)∧FrR gp b w w11 from ⟨fun e0=>iso_none (pairDec_none1 (pairDec_none1 (pairDec_none1 (hd e0)))),hf⟩)
  clear hd hf HC11
  go_wp2_with fail
  exact ⟨rfl,(Or.inl ⟨rfl,HN.out⟩)⟩
 clear hfj
 have H11:=Lib.hid (And.intro hP (And.intro hK (And.intro (ZAt.next (R:=((((((((((n3R.pair numR).pair numR).pair numR).pair numR).pair (listR classR CLT)).pair numR).pair numR).pair (listR jobR JBT)).pair (listR partR PAT)).pair (listR keepR KET))) (zs:=[.int .i64 0,.int .i64 0,.int .i64 0,.int .i64 0,.int .i64 0,.int .i64 0,.int .i64 0,.slice none 0 0,.int .i64 0,.int .i64 0,.slice none 0 0,.slice none 0 0,.slice none 0 0]) (us:=[.slice none 0 0,.slice none 0 0,.slice none 0 0]) H0.out.2.2.1 rfl (by simp) hM.at_) hM)))
 clear hP hK hM HC11
 go_wp2_with fail
 go_region
 obtain ⟨hP,hK,hZ,hM⟩:=H11.out
 have hBB:Below w11.heap.size w11 (World.drew (w11.alloc (.cells #[.pointer (some ⟨b,o+13,none⟩),.pointer (some ⟨b,o+14,none⟩),.pointer (some ⟨b,o+15,none⟩)] 195))):=(below_alloc (Below.refl _ _)).drew
 replace hP:=hP.up hBB
 replace hK:=hK.below hBB hK.lt
 replace hM:=RMid.up hM hBB
 have HG11:=Lib.hid (And.intro (show gp < w11.heap.size by have:=H11.out.2.2.2.fr.size;have:=HS0.out.1;omega) (show b < w11.heap.size by have:=H11.out.2.2.2.fr.size;have:=HS0.out.2;omega))
 have HQ11:=Lib.hid (Blk.new w11 195 #[.pointer (some ⟨b,o+13,none⟩),.pointer (some ⟨b,o+14,none⟩),.pointer (some ⟨b,o+15,none⟩)]).drew
 clear H11 hBB
 obtain ⟨kq11,hkq⟩:∃ n,n=w11.heap.size:=⟨_,rfl⟩
 rw [← hkq] at HG11 HQ11
 generalize hw11:World.drew (w11.alloc (.cells #[.pointer (some ⟨b,o+13,none⟩),.pointer (some ⟨b,o+14,none⟩),.pointer (some ⟨b,o+15,none⟩)] 195))=w11b at hP hK hM HQ11 ⊢
 rw [← hkq]
 clear hkq hw11
 have H11:=Lib.hid (And.intro hP (And.intro hK (And.intro hZ hM)))
 clear hP hK hZ hM
 have q11:w11b.cell? ⟨kq11,0,none⟩=some (.pointer (some ⟨b,o+13,none⟩)):=HQ11.out.cell 0
 have HC12:=Lib.hid (rlistI B gp X11 t11 c11 od11 b (o+13) T (setA cs (o) vs11) w11b H11.out.1 H11.out.2.1 (ZAt.left (zs:=[.slice none 0 0]) (us:=[.slice none 0 0,.slice none 0 0]) H11.out.2.2.1) H0.out.2.2.2.1 H0.out.2.2.2.2)
 go_wp2_with fail
 refine wp_loop_rounds 4 ?_
 rw [rounds_succ]
 go_wp2_with fail
 refine HC12.out.mono ?_
 intro e w12 hj
 have hfj:=ROut.fr hj
 replace hj:=ROut.step (R:=((((((((((n3R.pair numR).pair numR).pair numR).pair numR).pair (listR classR CLT)).pair numR).pair numR).pair (listR jobR JBT)).pair (listR partR PAT)).pair (listR keepR KET))) (d1:=(pairDec (pairDec (pairDec (pairDec (pairDec (pairDec (pairDec (pairDec (pairDec (pairDec n3C.dec numC.dec) numC.dec) numC.dec) numC.dec) (listC classC).dec) numC.dec) numC.dec) (listC jobC).dec) (listC partC).dec) (listC keepC).dec)) (o:=(o)) 13 rfl H11.out.2.2.2 HS0.out.1 HS0.out.2 hj
 rcases hj with ⟨rfl,hd,hf⟩ | ⟨⟨r12,rfl⟩,X12,c12,t12,od12,x12,vs12,hP,hK,hM⟩
 ·have HN:=Lib.hid (show (od=false→stateC.dec t=none)∧FrR gp b w w12 from ⟨fun e0=>iso_none (pairDec_none1 (pairDec_none1 (hd e0))),hf⟩)
  clear hd hf HC12
  go_wp2_with fail
  exact ⟨rfl,(Or.inl ⟨rfl,HN.out⟩)⟩
 have HQ12:=Lib.hid (hfj.blk HQ11.out (by have:=HG11.out;omega) (by have:=HG11.out;omega))
 have q12:w12.cell? ⟨kq11,1,none⟩=some (.pointer (some ⟨b,o+14,none⟩)):=HQ12.out.cell 1
 clear q11
 clear hfj
 have H12:=Lib.hid (And.intro hP (And.intro hK (And.intro (ZAt.next (R:=(((((((((((n3R.pair numR).pair numR).pair numR).pair numR).pair (listR classR CLT)).pair numR).pair numR).pair (listR jobR JBT)).pair (listR partR PAT)).pair (listR keepR KET)).pair afR)) (zs:=[.int .i64 0,.int .i64 0,.int .i64 0,.int .i64 0,.int .i64 0,.int .i64 0,.int .i64 0,.slice none 0 0,.int .i64 0,.int .i64 0,.slice none 0 0,.slice none 0 0,.slice none 0 0,.slice none 0 0]) (us:=[.slice none 0 0,.slice none 0 0]) H0.out.2.2.1 rfl (by simp) hM.at_) hM)))
 clear hP hK hM HC12
 have HC13:=Lib.hid (rlistI B gp X12 t12 c12 od12 b (o+14) T (setA cs (o) vs12) w12 H12.out.1 H12.out.2.1 (ZAt.left (zs:=[.slice none 0 0]) (us:=[.slice none 0 0]) H12.out.2.2.1) H0.out.2.2.2.1 H0.out.2.2.2.2)
 go_wp2_with fail
 rw [rounds_succ]
 go_wp2_with fail
 refine HC13.out.mono ?_
 intro e w13 hj
 have hfj:=ROut.fr hj
 replace hj:=ROut.step (R:=(((((((((((n3R.pair numR).pair numR).pair numR).pair numR).pair (listR classR CLT)).pair numR).pair numR).pair (listR jobR JBT)).pair (listR partR PAT)).pair (listR keepR KET)).pair afR)) (d1:=(pairDec (pairDec (pairDec (pairDec (pairDec (pairDec (pairDec (pairDec (pairDec (pairDec (pairDec n3C.dec numC.dec) numC.dec) numC.dec) numC.dec) (listC classC).dec) numC.dec) numC.dec) (listC jobC).dec) (listC partC).dec) (listC keepC).dec) (listC numC).dec)) (o:=(o)) 14 rfl H12.out.2.2.2 HS0.out.1 HS0.out.2 hj
 rcases hj with ⟨rfl,hd,hf⟩ | ⟨⟨r13,rfl⟩,X13,c13,t13,od13,x13,vs13,hP,hK,hM⟩
 ·have HN:=Lib.hid (show (od=false→stateC.dec t=none)∧FrR gp b w w13 from ⟨fun e0=>iso_none (pairDec_none1 (hd e0)),hf⟩)
  clear hd hf HC13
  go_wp2_with fail
  exact ⟨rfl,(Or.inl ⟨rfl,HN.out⟩)⟩
 have HQ13:=Lib.hid (hfj.blk HQ12.out (by have:=HG11.out;omega) (by have:=HG11.out;omega))
 have q13:w13.cell? ⟨kq11,2,none⟩=some (.pointer (some ⟨b,o+15,none⟩)):=HQ13.out.cell 2
 clear q12
 clear hfj
 have H13:=Lib.hid (And.intro hP (And.intro hK (And.intro (ZAt.next (R:=((((((((((((n3R.pair numR).pair numR).pair numR).pair numR).pair (listR classR CLT)).pair numR).pair numR).pair (listR jobR JBT)).pair (listR partR PAT)).pair (listR keepR KET)).pair afR).pair afR)) (zs:=[.int .i64 0,.int .i64 0,.int .i64 0,.int .i64 0,.int .i64 0,.int .i64 0,.int .i64 0,.slice none 0 0,.int .i64 0,.int .i64 0,.slice none 0 0,.slice none 0 0,.slice none 0 0,.slice none 0 0,.slice none 0 0]) (us:=[.slice none 0 0]) H0.out.2.2.1 rfl (by simp) hM.at_) hM)))
 clear hP hK hM HC13
 have HC14:=Lib.hid (rlistI B gp X13 t13 c13 od13 b (o+15) T (setA cs (o) vs13) w13 H13.out.1 H13.out.2.1 (ZAt.left (zs:=[.slice none 0 0]) (us:=[]) H13.out.2.2.1) H0.out.2.2.2.1 H0.out.2.2.2.2)
 go_wp2_with fail
 rw [rounds_succ]
 go_wp2_with fail
 refine HC14.out.mono ?_
 intro e w14 hj
 have hfj:=ROut.fr hj
 replace hj:=ROut.step (R:=((((((((((((n3R.pair numR).pair numR).pair numR).pair numR).pair (listR classR CLT)).pair numR).pair numR).pair (listR jobR JBT)).pair (listR partR PAT)).pair (listR keepR KET)).pair afR).pair afR)) (d1:=(pairDec (pairDec (pairDec (pairDec (pairDec (pairDec (pairDec (pairDec (pairDec (pairDec (pairDec (pairDec n3C.dec numC.dec) numC.dec) numC.dec) numC.dec) (listC classC).dec) numC.dec) numC.dec) (listC jobC).dec) (listC partC).dec) (listC keepC).dec) (listC numC).dec) (listC numC).dec)) (o:=(o)) 15 rfl H13.out.2.2.2 HS0.out.1 HS0.out.2 hj
 rcases hj with ⟨rfl,hd,hf⟩ | ⟨⟨r14,rfl⟩,X14,c14,t14,od14,x14,vs14,hP,hK,hM⟩
 ·have HN:=Lib.hid (show (od=false→stateC.dec t=none)∧FrR gp b w w14 from ⟨fun e0=>iso_none (hd e0),hf⟩)
  clear hd hf HC14
  go_wp2_with fail
  exact ⟨rfl,(Or.inl ⟨rfl,HN.out⟩)⟩
 clear q13
 clear hfj
 have HE:=Lib.hid (And.intro hP (And.intro hK hM))
 clear hP hK hM HC14
 go_wp2_with fail
 rw [rounds_succ]
 go_wp2_with fail
 go_end0
 exact (ROut.iso (f:=sOf) (g:=ofS) (fun _=>rfl) (Or.inr ⟨⟨_,rfl⟩,X14,c14,t14,od14,x14,vs14,HE.out⟩))
end Go.Proofs.Ytfdldbfjeamlcaa.RecRState
namespace Go.Proofs.Ytfdldbfjeamlcaa.RecRRec
set_option maxRecDepth 100000
set_option maxHeartbeats 1000000
open Go.RowKit Mem RecMem RecByte RecNum RecEach RecMath RecCod RecCods RecPort RecCommand RecCmdJ RecVal RecSame RecOwn RecRd RecRByte RecRNum RecREach RecRFlat RecRClass RecRL0 RecRListI RecRAsk RecRJob RecRList RecRListE RecRListP RecRListJ RecRState RecRCmd
def recR:Rep RV where
 n:=45
 At w F r vs:=∃ s c,vs=[.int .i64 r.g] ++ (s ++ c)∧stateR.At w F r.s s∧cmdR.At w F r.c c
 len:=by rintro w F r vs ⟨s,c,rfl,h1,h2⟩;rw [List.length_append,List.length_append,stateR.len h1,cmdR.len h2];rfl
 keep:=by rintro w w' F r vs ⟨s,c,rfl,h1,h2⟩ hk hs;exact ⟨s,c,rfl,stateR.keep h1 hk hs,cmdR.keep h2 hk hs⟩
 mono:=by rintro w F F' r vs ⟨s,c,rfl,h1,h2⟩ hF;exact ⟨s,c,rfl,stateR.mono h1 hF,cmdR.mono h2 hF⟩
theorem list_nil {α:Type} {R:Rep α} {e:TypeId} {w:World} {F:Nat} : (listR R e).At w F [] [.slice none 0 0]:=⟨none,0,[],rfl,World.ownsRow_nil _ _ _ _,fun i x hi=>by simp at hi⟩
theorem stateR_nil {w:World} {F:Nat} : stateR.At w F SV.z [.int .i64 0,.int .i64 0,.int .i64 0,.int .i64 0,.int .i64 0,.int .i64 0,.int .i64 0,.slice none 0 0,.int .i64 0,.int .i64 0,.slice none 0 0,.slice none 0 0,.slice none 0 0,.slice none 0 0,.slice none 0 0,.slice none 0 0]:=
 ⟨_,_,rfl,⟨_,_,rfl,⟨_,_,rfl,⟨_,_,rfl,⟨_,_,rfl,⟨_,_,rfl,⟨_,_,rfl,⟨_,_,rfl,⟨_,_,rfl,⟨_,_,rfl,⟨_,_,rfl,⟨_,_,rfl,⟨_,_,rfl,show [.int .i64 0,.int .i64 0,.int .i64 0]=n3L ((0,0),0) from rfl,show [.int .i64 0]=numL 0 from rfl⟩,show [.int .i64 0]=numL 0 from rfl⟩,show [.int .i64 0]=numL 0 from rfl⟩,show [.int .i64 0]=numL 0 from rfl⟩,list_nil⟩,show [.int .i64 0]=numL 0 from rfl⟩,show [.int .i64 0]=numL 0 from rfl⟩,list_nil⟩,list_nil⟩,list_nil⟩,list_nil⟩,list_nil⟩,list_nil⟩
theorem rec_none {t:Bs} (h:numDec t=none):recDec t=none:=by
 unfold recDec
 show (numDec t).bind _=none
 rw [h];rfl
theorem rec_odd {t t1:Bs} {g:Int} (h:numDec t=some (g,t1)) (hg:g < 0∨2147483647 < g):recDec t=none:=by
 unfold recDec
 show (numDec t).bind _=none
 rw [h,Option.bind_some,if_pos hg]
theorem rec_cmd {t t1:Bs} (h:numDec t=some (0,t1)):recDec t=(cmdDec t1).map fun q=>(⟨0,SV.z,q.1⟩,q.2):=by
 unfold recDec
 show (numDec t).bind _=_
 rw [h,Option.bind_some,if_neg (by simp),if_pos rfl]
theorem rec_state {t t1:Bs} {g:Int} (h:numDec t=some (g,t1)) (h0:0 < g) (h1:g≤2147483647):recDec t=(stateC.dec t1).map fun q=>(⟨g,q.1,CV.z⟩,q.2):=by
 unfold recDec
 show (numDec t).bind _=_
 rw [h,Option.bind_some,if_neg (by simp only;omega),if_neg (by simp only;omega)]
theorem rrecord (B gp:Nat) (X:Option Addr) (t:Bs) (c:Nat) (b o:Nat) (T:TypeId) (cs:Array Value) (w:World) (hP:PR B w gp X t c false) (hK:Blk w b T cs) (hz:ZAt cs o ([.int .i64 0] ++ ([.int .i64 0,.int .i64 0,.int .i64 0,.int .i64 0,.int .i64 0,.int .i64 0,.int .i64 0,.slice none 0 0,.int .i64 0,.int .i64 0,.slice none 0 0,.slice none 0 0,.slice none 0 0,.slice none 0 0,.slice none 0 0,.slice none 0 0] ++ [.int .u8 0,.int .i64 0,.int .i64 0,.int .i64 0,.int .i64 0,.int .i64 0,.int .i64 0,.bool false,.bool false,.bool false,.bool false,.int .i64 0,.int .i64 0,.bool false,.slice none 0 0,.int .u8 0,.int .i64 0,.int .i64 0,.int .i64 0,.int .i64 0,.int .i64 0,.int .i64 0,.int .i64 0,.int .i64 0,.int .i64 0,.int .i64 0,.int .i64 0,.bool false]))) (hb:B≤b) (hne:b≠gp) :
    Calls Try.prog 44 #[.pointer (some ⟨gp,0,none⟩),.pointer (some ⟨b,o,none⟩)] w fun e w' => ROut recR recDec B gp b T cs o t false w e w':=by
 have hor:o+45≤cs.size:=hz.size (by simp)
 have HS0:=Lib.hid (And.intro hP.lt hK.lt)
 have H0:=Lib.hid (And.intro hP (And.intro hK (And.intro hz (And.intro hb hne))))
 clear hP hK hz hb
 have HC1:=Lib.hid (rnum B gp X t c false b o T cs w H0.out.1 H0.out.2.1 (ZAt.left (zs:=[.int .i64 0]) (us:=[.int .i64 0,.int .i64 0,.int .i64 0,.int .i64 0,.int .i64 0,.int .i64 0,.int .i64 0,.slice none 0 0,.int .i64 0,.int .i64 0,.slice none 0 0,.slice none 0 0,.slice none 0 0,.slice none 0 0,.slice none 0 0,.slice none 0 0] ++ [.int .u8 0,.int .i64 0,.int .i64 0,.int .i64 0,.int .i64 0,.int .i64 0,.int .i64 0,.bool false,.bool false,.bool false,.bool false,.int .i64 0,.int .i64 0,.bool false,.slice none 0 0,.int .u8 0,.int .i64 0,.int .i64 0,.int .i64 0,.int .i64 0,.int .i64 0,.int .i64 0,.int .i64 0,.int .i64 0,.int .i64 0,.int .i64 0,.int .i64 0,.bool false]) H0.out.2.2.1) H0.out.2.2.2.1 H0.out.2.2.2.2)
 go_enter Try.func44,Try.ntmps44
 go_wp2_with fail
 refine HC1.out.mono ?_
 rintro e w1 (⟨rfl,hd,hf⟩ | ⟨⟨r1,rfl⟩,X1,c1,t1,g,hd,hl,hP1,hK1,hf1⟩)
 ·have HN:=Lib.hid (show recDec t=none∧FrR gp b w w1 from ⟨rec_none hd,hf⟩)
  clear hd hf HC1
  go_wp2_with fail
  exact ⟨rfl,Or.inl ⟨rfl,fun _=>HN.out.1,HN.out.2⟩⟩
 have kg:w1.cell? ⟨b,o,none⟩=some (.int .i64 g):=by
  rw [hK1.cell o,setA_get _ _ _ (by simp;omega),if_pos (by simp)];simp
 have po:w1.cell? ⟨gp,2,none⟩=some (.bool false):=hP1.blk.cell 2
 have pf:=hP1.blk.frozen 2
 have hgs1:=hP1.lt
 have hne0:¬ (b=gp):=hne
 have HZ1:=Lib.hid (show ZAt (setA cs o [.int .i64 g]) (o+1) ([.int .i64 0,.int .i64 0,.int .i64 0,.int .i64 0,.int .i64 0,.int .i64 0,.int .i64 0,.slice none 0 0,.int .i64 0,.int .i64 0,.slice none 0 0,.slice none 0 0,.slice none 0 0,.slice none 0 0,.slice none 0 0,.slice none 0 0] ++ [.int .u8 0,.int .i64 0,.int .i64 0,.int .i64 0,.int .i64 0,.int .i64 0,.int .i64 0,.bool false,.bool false,.bool false,.bool false,.int .i64 0,.int .i64 0,.bool false,.slice none 0 0,.int .u8 0,.int .i64 0,.int .i64 0,.int .i64 0,.int .i64 0,.int .i64 0,.int .i64 0,.int .i64 0,.int .i64 0,.int .i64 0,.int .i64 0,.int .i64 0,.bool false]) from zat_next 1 (zs:=[.int .i64 0]) (us:=[.int .i64 0,.int .i64 0,.int .i64 0,.int .i64 0,.int .i64 0,.int .i64 0,.int .i64 0,.slice none 0 0,.int .i64 0,.int .i64 0,.slice none 0 0,.slice none 0 0,.slice none 0 0,.slice none 0 0,.slice none 0 0,.slice none 0 0] ++ [.int .u8 0,.int .i64 0,.int .i64 0,.int .i64 0,.int .i64 0,.int .i64 0,.int .i64 0,.bool false,.bool false,.bool false,.bool false,.int .i64 0,.int .i64 0,.bool false,.slice none 0 0,.int .u8 0,.int .i64 0,.int .i64 0,.int .i64 0,.int .i64 0,.int .i64 0,.int .i64 0,.int .i64 0,.int .i64 0,.int .i64 0,.int .i64 0,.int .i64 0,.bool false]) (vs:=[.int .i64 g]) H0.out.2.2.1 rfl rfl (by simp))
 have HG:=Lib.hid (And.intro hd (And.intro hl hl))
 clear hd hl HC1
 by_cases hgn:g < 0
 ·have HO:=Lib.hid (show g < 0∨2147483647 < g from .inl hgn)
  have hg00:¬ (g=0):=by omega
  have hPo:=hP1.odd true
  have hKo:=hK1.far (p:=⟨gp,2,none⟩) H0.out.2.2.2.2 (.bool true)
  have hFo:=hf1.set_ (p:=⟨gp,2,none⟩) (.inl rfl) (.bool true)
  have kg2:(w1.setCell ⟨gp,2,none⟩ (.bool true)).cell? ⟨b,o,none⟩=some (.int .i64 g):=by
   rw [hKo.cell o,setA_get _ _ _ (by simp;omega),if_pos (by simp)];simp
  clear hP1 hK1 hf1
  go_upto_region 2 with fail
  generalize (w1.setCell ⟨gp,2,none⟩ (.bool true))=W1 at *
  have H1:=Lib.hid (And.intro hPo (And.intro hKo (And.intro HZ1.out (And.intro hFo trivial))))
  clear hPo hKo hFo
  have HC2:=Lib.hid (rstate B gp X1 t1 c1 true b (o+1) T (setA cs o [.int .i64 g]) W1 H1.out.1 H1.out.2.1 (ZAt.left (zs:=[.int .i64 0,.int .i64 0,.int .i64 0,.int .i64 0,.int .i64 0,.int .i64 0,.int .i64 0,.slice none 0 0,.int .i64 0,.int .i64 0,.slice none 0 0,.slice none 0 0,.slice none 0 0,.slice none 0 0,.slice none 0 0,.slice none 0 0]) (us:=[.int .u8 0,.int .i64 0,.int .i64 0,.int .i64 0,.int .i64 0,.int .i64 0,.int .i64 0,.bool false,.bool false,.bool false,.bool false,.int .i64 0,.int .i64 0,.bool false,.slice none 0 0,.int .u8 0,.int .i64 0,.int .i64 0,.int .i64 0,.int .i64 0,.int .i64 0,.int .i64 0,.int .i64 0,.int .i64 0,.int .i64 0,.int .i64 0,.int .i64 0,.bool false]) H1.out.2.2.1) H0.out.2.2.2.1 H0.out.2.2.2.2)
  clear po pf kg
  go_wp2_with fail
  refine HC2.out.mono ?_
  rintro e w2 (⟨rfl,hd,hf⟩ | ⟨⟨r2,rfl⟩,X2,c2,t2,od2,x,vs,hP,hK,hM⟩)
  ·have HN:=Lib.hid (show recDec t=none∧FrR gp b w w2 from ⟨by exact rec_odd HG.out.1 HO.out,H1.out.2.2.2.1.trans hf⟩)
   clear hd hf HC2
   go_wp2_with fail
   exact ⟨rfl,Or.inl ⟨rfl,fun _=>HN.out.1,HN.out.2⟩⟩
  ·have HE:=Lib.hid (And.intro hP (And.intro hK hM))
   clear hP hK hM HC2
   go_wp2_with fail
   go_end0
   have hs:=H1.out.2.2.2.1.size
   have hl:=stateR.len HE.out.2.2.at_
   refine Or.inr ⟨⟨_,rfl⟩,X2,c2,t2,od2,⟨g,x,CV.z⟩,[.int .i64 g] ++ (vs ++ [.int .u8 0,.int .i64 0,.int .i64 0,.int .i64 0,.int .i64 0,.int .i64 0,.int .i64 0,.bool false,.bool false,.bool false,.bool false,.int .i64 0,.int .i64 0,.bool false,.slice none 0 0,.int .u8 0,.int .i64 0,.int .i64 0,.int .i64 0,.int .i64 0,.int .i64 0,.int .i64 0,.int .i64 0,.int .i64 0,.int .i64 0,.int .i64 0,.int .i64 0,.bool false]),HE.out.1,?_,⟨vs,_,rfl,stateR.mono HE.out.2.2.at_ hs,cmdR_nil rfl⟩,H1.out.2.2.2.1.trans HE.out.2.2.fr,Nat.le_trans HE.out.2.2.le HG.out.2.2,fun e=>?_,fun e _=>?_⟩
   ·have hz2:=H1.out.2.2.1
    have e1:setA (setA (setA cs o [.int .i64 g]) (o+1) vs) (o+1+vs.length) [.int .u8 0,.int .i64 0,.int .i64 0,.int .i64 0,.int .i64 0,.int .i64 0,.int .i64 0,.bool false,.bool false,.bool false,.bool false,.int .i64 0,.int .i64 0,.bool false,.slice none 0 0,.int .u8 0,.int .i64 0,.int .i64 0,.int .i64 0,.int .i64 0,.int .i64 0,.int .i64 0,.int .i64 0,.int .i64 0,.int .i64 0,.int .i64 0,.int .i64 0,.bool false]=setA (setA cs o [.int .i64 g]) (o+1) vs:=by
     have h28:=ZAt.right (zs:=[.int .i64 0,.int .i64 0,.int .i64 0,.int .i64 0,.int .i64 0,.int .i64 0,.int .i64 0,.slice none 0 0,.int .i64 0,.int .i64 0,.slice none 0 0,.slice none 0 0,.slice none 0 0,.slice none 0 0,.slice none 0 0,.slice none 0 0]) (us:=[.int .u8 0,.int .i64 0,.int .i64 0,.int .i64 0,.int .i64 0,.int .i64 0,.int .i64 0,.bool false,.bool false,.bool false,.bool false,.int .i64 0,.int .i64 0,.bool false,.slice none 0 0,.int .u8 0,.int .i64 0,.int .i64 0,.int .i64 0,.int .i64 0,.int .i64 0,.int .i64 0,.int .i64 0,.int .i64 0,.int .i64 0,.int .i64 0,.int .i64 0,.bool false]) hz2
     have hs28:=h28.size (by simp)
     rw [setA_size] at hs28
     simp only [List.length_cons,List.length_nil] at hs28
     refine setA_same ?_ (by rw [setA_size,setA_size,hl];exact hs28)
     rw [hl]
     exact h28.set_ (by rw [hl];exact Nat.le_refl _) (by rw [setA_size,hl];show o+1+16≤cs.size;omega)
    rw [setA_app,setA_app]
    show Blk w2 b T (setA (setA (setA cs o [.int .i64 g]) (o+1) vs) (o+1+vs.length) [.int .u8 0,.int .i64 0,.int .i64 0,.int .i64 0,.int .i64 0,.int .i64 0,.int .i64 0,.bool false,.bool false,.bool false,.bool false,.int .i64 0,.int .i64 0,.bool false,.slice none 0 0,.int .u8 0,.int .i64 0,.int .i64 0,.int .i64 0,.int .i64 0,.int .i64 0,.int .i64 0,.int .i64 0,.int .i64 0,.int .i64 0,.int .i64 0,.int .i64 0,.bool false])
    rw [e1]
    exact HE.out.2.1
   ·have:=(HE.out.2.2.ok e).1;cases this
   ·exact rec_odd HG.out.1 HO.out
 by_cases hgm:2147483647 < g
 ·have HO:=Lib.hid (show g < 0∨2147483647 < g from .inr hgm)
  have hg00:¬ (g=0):=by omega
  have hPo:=hP1.odd true
  have hKo:=hK1.far (p:=⟨gp,2,none⟩) H0.out.2.2.2.2 (.bool true)
  have hFo:=hf1.set_ (p:=⟨gp,2,none⟩) (.inl rfl) (.bool true)
  have kg2:(w1.setCell ⟨gp,2,none⟩ (.bool true)).cell? ⟨b,o,none⟩=some (.int .i64 g):=by
   rw [hKo.cell o,setA_get _ _ _ (by simp;omega),if_pos (by simp)];simp
  clear hP1 hK1 hf1
  go_upto_region 2 with fail
  generalize (w1.setCell ⟨gp,2,none⟩ (.bool true))=W1 at *
  have H1:=Lib.hid (And.intro hPo (And.intro hKo (And.intro HZ1.out (And.intro hFo trivial))))
  clear hPo hKo hFo
  have HC2:=Lib.hid (rstate B gp X1 t1 c1 true b (o+1) T (setA cs o [.int .i64 g]) W1 H1.out.1 H1.out.2.1 (ZAt.left (zs:=[.int .i64 0,.int .i64 0,.int .i64 0,.int .i64 0,.int .i64 0,.int .i64 0,.int .i64 0,.slice none 0 0,.int .i64 0,.int .i64 0,.slice none 0 0,.slice none 0 0,.slice none 0 0,.slice none 0 0,.slice none 0 0,.slice none 0 0]) (us:=[.int .u8 0,.int .i64 0,.int .i64 0,.int .i64 0,.int .i64 0,.int .i64 0,.int .i64 0,.bool false,.bool false,.bool false,.bool false,.int .i64 0,.int .i64 0,.bool false,.slice none 0 0,.int .u8 0,.int .i64 0,.int .i64 0,.int .i64 0,.int .i64 0,.int .i64 0,.int .i64 0,.int .i64 0,.int .i64 0,.int .i64 0,.int .i64 0,.int .i64 0,.bool false]) H1.out.2.2.1) H0.out.2.2.2.1 H0.out.2.2.2.2)
  clear po pf kg
  go_wp2_with fail
  refine HC2.out.mono ?_
  rintro e w2 (⟨rfl,hd,hf⟩ | ⟨⟨r2,rfl⟩,X2,c2,t2,od2,x,vs,hP,hK,hM⟩)
  ·have HN:=Lib.hid (show recDec t=none∧FrR gp b w w2 from ⟨by exact rec_odd HG.out.1 HO.out,H1.out.2.2.2.1.trans hf⟩)
   clear hd hf HC2
   go_wp2_with fail
   exact ⟨rfl,Or.inl ⟨rfl,fun _=>HN.out.1,HN.out.2⟩⟩
  ·have HE:=Lib.hid (And.intro hP (And.intro hK hM))
   clear hP hK hM HC2
   go_wp2_with fail
   go_end0
   have hs:=H1.out.2.2.2.1.size
   have hl:=stateR.len HE.out.2.2.at_
   refine Or.inr ⟨⟨_,rfl⟩,X2,c2,t2,od2,⟨g,x,CV.z⟩,[.int .i64 g] ++ (vs ++ [.int .u8 0,.int .i64 0,.int .i64 0,.int .i64 0,.int .i64 0,.int .i64 0,.int .i64 0,.bool false,.bool false,.bool false,.bool false,.int .i64 0,.int .i64 0,.bool false,.slice none 0 0,.int .u8 0,.int .i64 0,.int .i64 0,.int .i64 0,.int .i64 0,.int .i64 0,.int .i64 0,.int .i64 0,.int .i64 0,.int .i64 0,.int .i64 0,.int .i64 0,.bool false]),HE.out.1,?_,⟨vs,_,rfl,stateR.mono HE.out.2.2.at_ hs,cmdR_nil rfl⟩,H1.out.2.2.2.1.trans HE.out.2.2.fr,Nat.le_trans HE.out.2.2.le HG.out.2.2,fun e=>?_,fun e _=>?_⟩
   ·have hz2:=H1.out.2.2.1
    have e1:setA (setA (setA cs o [.int .i64 g]) (o+1) vs) (o+1+vs.length) [.int .u8 0,.int .i64 0,.int .i64 0,.int .i64 0,.int .i64 0,.int .i64 0,.int .i64 0,.bool false,.bool false,.bool false,.bool false,.int .i64 0,.int .i64 0,.bool false,.slice none 0 0,.int .u8 0,.int .i64 0,.int .i64 0,.int .i64 0,.int .i64 0,.int .i64 0,.int .i64 0,.int .i64 0,.int .i64 0,.int .i64 0,.int .i64 0,.int .i64 0,.bool false]=setA (setA cs o [.int .i64 g]) (o+1) vs:=by
     have h28:=ZAt.right (zs:=[.int .i64 0,.int .i64 0,.int .i64 0,.int .i64 0,.int .i64 0,.int .i64 0,.int .i64 0,.slice none 0 0,.int .i64 0,.int .i64 0,.slice none 0 0,.slice none 0 0,.slice none 0 0,.slice none 0 0,.slice none 0 0,.slice none 0 0]) (us:=[.int .u8 0,.int .i64 0,.int .i64 0,.int .i64 0,.int .i64 0,.int .i64 0,.int .i64 0,.bool false,.bool false,.bool false,.bool false,.int .i64 0,.int .i64 0,.bool false,.slice none 0 0,.int .u8 0,.int .i64 0,.int .i64 0,.int .i64 0,.int .i64 0,.int .i64 0,.int .i64 0,.int .i64 0,.int .i64 0,.int .i64 0,.int .i64 0,.int .i64 0,.bool false]) hz2
     have hs28:=h28.size (by simp)
     rw [setA_size] at hs28
     simp only [List.length_cons,List.length_nil] at hs28
     refine setA_same ?_ (by rw [setA_size,setA_size,hl];exact hs28)
     rw [hl]
     exact h28.set_ (by rw [hl];exact Nat.le_refl _) (by rw [setA_size,hl];show o+1+16≤cs.size;omega)
    rw [setA_app,setA_app]
    show Blk w2 b T (setA (setA (setA cs o [.int .i64 g]) (o+1) vs) (o+1+vs.length) [.int .u8 0,.int .i64 0,.int .i64 0,.int .i64 0,.int .i64 0,.int .i64 0,.int .i64 0,.bool false,.bool false,.bool false,.bool false,.int .i64 0,.int .i64 0,.bool false,.slice none 0 0,.int .u8 0,.int .i64 0,.int .i64 0,.int .i64 0,.int .i64 0,.int .i64 0,.int .i64 0,.int .i64 0,.int .i64 0,.int .i64 0,.int .i64 0,.int .i64 0,.bool false])
    rw [e1]
    exact HE.out.2.1
   ·have:=(HE.out.2.2.ok e).1;cases this
   ·exact rec_odd HG.out.1 HO.out
 by_cases hg00:g=0
 ·subst hg00
  have hPo:=hP1.odd false
  have hKo:=hK1.far (p:=⟨gp,2,none⟩) H0.out.2.2.2.2 (.bool false)
  have hFo:=hf1.set_ (p:=⟨gp,2,none⟩) (.inl rfl) (.bool false)
  have kg2:(w1.setCell ⟨gp,2,none⟩ (.bool false)).cell? ⟨b,o,none⟩=some (.int .i64 0):=by
   rw [hKo.cell o,setA_get _ _ _ (by simp;omega),if_pos (by simp)];simp
  clear hP1 hK1 hf1
  go_upto_region 2 with fail
  generalize (w1.setCell ⟨gp,2,none⟩ (.bool false))=W1 at *
  have H1:=Lib.hid (And.intro hPo (And.intro hKo (And.intro HZ1.out (And.intro hFo trivial))))
  clear hPo hKo hFo
  have HC2:=Lib.hid (rcommand B gp X1 t1 c1 false b (o+17) T (setA cs o [.int .i64 0]) W1 H1.out.1 H1.out.2.1 (ZAt.right (zs:=[.int .i64 0,.int .i64 0,.int .i64 0,.int .i64 0,.int .i64 0,.int .i64 0,.int .i64 0,.slice none 0 0,.int .i64 0,.int .i64 0,.slice none 0 0,.slice none 0 0,.slice none 0 0,.slice none 0 0,.slice none 0 0,.slice none 0 0]) (us:=[.int .u8 0,.int .i64 0,.int .i64 0,.int .i64 0,.int .i64 0,.int .i64 0,.int .i64 0,.bool false,.bool false,.bool false,.bool false,.int .i64 0,.int .i64 0,.bool false,.slice none 0 0,.int .u8 0,.int .i64 0,.int .i64 0,.int .i64 0,.int .i64 0,.int .i64 0,.int .i64 0,.int .i64 0,.int .i64 0,.int .i64 0,.int .i64 0,.int .i64 0,.bool false]) H1.out.2.2.1) H0.out.2.2.2.1 H0.out.2.2.2.2)
  clear po pf kg
  go_wp2_with fail
  refine HC2.out.mono ?_
  rintro e w2 (⟨rfl,hd,hf⟩ | ⟨⟨r2,rfl⟩,X2,c2,t2,od2,x,vs,hP,hK,hM⟩)
  ·have HN:=Lib.hid (show recDec t=none∧FrR gp b w w2 from ⟨by rw [rec_cmd HG.out.1,hd rfl];rfl,H1.out.2.2.2.1.trans hf⟩)
   clear hd hf HC2
   go_wp2_with fail
   exact ⟨rfl,Or.inl ⟨rfl,fun _=>HN.out.1,HN.out.2⟩⟩
  ·have HE:=Lib.hid (And.intro hP (And.intro hK hM))
   clear hP hK hM HC2
   go_wp2_with fail
   go_end0
   have hs:=H1.out.2.2.2.1.size
   have hl:=cmdR.len HE.out.2.2.at_
   refine Or.inr ⟨⟨_,rfl⟩,X2,c2,t2,od2,⟨0,SV.z,x⟩,[.int .i64 0] ++ ([.int .i64 0,.int .i64 0,.int .i64 0,.int .i64 0,.int .i64 0,.int .i64 0,.int .i64 0,.slice none 0 0,.int .i64 0,.int .i64 0,.slice none 0 0,.slice none 0 0,.slice none 0 0,.slice none 0 0,.slice none 0 0,.slice none 0 0] ++ vs),HE.out.1,?_,⟨_,vs,rfl,stateR_nil,cmdR.mono HE.out.2.2.at_ hs⟩,H1.out.2.2.2.1.trans HE.out.2.2.fr,Nat.le_trans HE.out.2.2.le HG.out.2.2,fun e=>⟨rfl,by rw [rec_cmd HG.out.1,(HE.out.2.2.ok e).2];rfl⟩,fun e _=>by rw [rec_cmd HG.out.1,HE.out.2.2.bad e rfl];rfl⟩
   have e1:setA (setA cs o [.int .i64 0]) (o+1) [.int .i64 0,.int .i64 0,.int .i64 0,.int .i64 0,.int .i64 0,.int .i64 0,.int .i64 0,.slice none 0 0,.int .i64 0,.int .i64 0,.slice none 0 0,.slice none 0 0,.slice none 0 0,.slice none 0 0,.slice none 0 0,.slice none 0 0]=setA cs o [.int .i64 0]:=setA_same (ZAt.left (us:=[.int .u8 0,.int .i64 0,.int .i64 0,.int .i64 0,.int .i64 0,.int .i64 0,.int .i64 0,.bool false,.bool false,.bool false,.bool false,.int .i64 0,.int .i64 0,.bool false,.slice none 0 0,.int .u8 0,.int .i64 0,.int .i64 0,.int .i64 0,.int .i64 0,.int .i64 0,.int .i64 0,.int .i64 0,.int .i64 0,.int .i64 0,.int .i64 0,.int .i64 0,.bool false]) H1.out.2.2.1) (by rw [setA_size];simp;omega)
   rw [setA_app,setA_app]
   show Blk w2 b T (setA (setA (setA cs o [.int .i64 0]) (o+1) [.int .i64 0,.int .i64 0,.int .i64 0,.int .i64 0,.int .i64 0,.int .i64 0,.int .i64 0,.slice none 0 0,.int .i64 0,.int .i64 0,.slice none 0 0,.slice none 0 0,.slice none 0 0,.slice none 0 0,.slice none 0 0,.slice none 0 0]) (o+1+16) vs)
   rw [e1]
   exact HE.out.2.1
 ·have hg0:0 < g:=by omega
  have hg1:g≤2147483647:=by omega
  have d0:decide (g < 0)=false:=decide_eq_false hgn
  have d1:decide (2147483647 < g)=false:=decide_eq_false hgm
  have hPo:=hP1.odd false
  have hKo:=hK1.far (p:=⟨gp,2,none⟩) H0.out.2.2.2.2 (.bool false)
  have hFo:=hf1.set_ (p:=⟨gp,2,none⟩) (.inl rfl) (.bool false)
  have kg2:(w1.setCell ⟨gp,2,none⟩ (.bool false)).cell? ⟨b,o,none⟩=some (.int .i64 g):=by
   rw [hKo.cell o,setA_get _ _ _ (by simp;omega),if_pos (by simp)];simp
  clear hP1 hK1 hf1
  go_upto_region 2 with fail
  generalize (w1.setCell ⟨gp,2,none⟩ (.bool false))=W1 at *
  have H1:=Lib.hid (And.intro hPo (And.intro hKo (And.intro HZ1.out (And.intro hFo trivial))))
  clear hPo hKo hFo
  have HC2:=Lib.hid (rstate B gp X1 t1 c1 false b (o+1) T (setA cs o [.int .i64 g]) W1 H1.out.1 H1.out.2.1 (ZAt.left (zs:=[.int .i64 0,.int .i64 0,.int .i64 0,.int .i64 0,.int .i64 0,.int .i64 0,.int .i64 0,.slice none 0 0,.int .i64 0,.int .i64 0,.slice none 0 0,.slice none 0 0,.slice none 0 0,.slice none 0 0,.slice none 0 0,.slice none 0 0]) (us:=[.int .u8 0,.int .i64 0,.int .i64 0,.int .i64 0,.int .i64 0,.int .i64 0,.int .i64 0,.bool false,.bool false,.bool false,.bool false,.int .i64 0,.int .i64 0,.bool false,.slice none 0 0,.int .u8 0,.int .i64 0,.int .i64 0,.int .i64 0,.int .i64 0,.int .i64 0,.int .i64 0,.int .i64 0,.int .i64 0,.int .i64 0,.int .i64 0,.int .i64 0,.bool false]) H1.out.2.2.1) H0.out.2.2.2.1 H0.out.2.2.2.2)
  clear po pf kg
  go_wp2_with fail
  refine HC2.out.mono ?_
  rintro e w2 (⟨rfl,hd,hf⟩ | ⟨⟨r2,rfl⟩,X2,c2,t2,od2,x,vs,hP,hK,hM⟩)
  ·have HN:=Lib.hid (show recDec t=none∧FrR gp b w w2 from ⟨by rw [rec_state HG.out.1 hg0 hg1,hd rfl];rfl,H1.out.2.2.2.1.trans hf⟩)
   clear hd hf HC2
   go_wp2_with fail
   exact ⟨rfl,Or.inl ⟨rfl,fun _=>HN.out.1,HN.out.2⟩⟩
  ·have HE:=Lib.hid (And.intro hP (And.intro hK hM))
   clear hP hK hM HC2
   go_wp2_with fail
   go_end0
   have hs:=H1.out.2.2.2.1.size
   have hl:=stateR.len HE.out.2.2.at_
   refine Or.inr ⟨⟨_,rfl⟩,X2,c2,t2,od2,⟨g,x,CV.z⟩,[.int .i64 g] ++ (vs ++ [.int .u8 0,.int .i64 0,.int .i64 0,.int .i64 0,.int .i64 0,.int .i64 0,.int .i64 0,.bool false,.bool false,.bool false,.bool false,.int .i64 0,.int .i64 0,.bool false,.slice none 0 0,.int .u8 0,.int .i64 0,.int .i64 0,.int .i64 0,.int .i64 0,.int .i64 0,.int .i64 0,.int .i64 0,.int .i64 0,.int .i64 0,.int .i64 0,.int .i64 0,.bool false]),HE.out.1,?_,⟨vs,_,rfl,stateR.mono HE.out.2.2.at_ hs,cmdR_nil rfl⟩,H1.out.2.2.2.1.trans HE.out.2.2.fr,Nat.le_trans HE.out.2.2.le HG.out.2.2,fun e=>?_,fun e _=>?_⟩
   ·have hz2:=H1.out.2.2.1
    have e1:setA (setA (setA cs o [.int .i64 g]) (o+1) vs) (o+1+vs.length) [.int .u8 0,.int .i64 0,.int .i64 0,.int .i64 0,.int .i64 0,.int .i64 0,.int .i64 0,.bool false,.bool false,.bool false,.bool false,.int .i64 0,.int .i64 0,.bool false,.slice none 0 0,.int .u8 0,.int .i64 0,.int .i64 0,.int .i64 0,.int .i64 0,.int .i64 0,.int .i64 0,.int .i64 0,.int .i64 0,.int .i64 0,.int .i64 0,.int .i64 0,.bool false]=setA (setA cs o [.int .i64 g]) (o+1) vs:=by
     have h28:=ZAt.right (zs:=[.int .i64 0,.int .i64 0,.int .i64 0,.int .i64 0,.int .i64 0,.int .i64 0,.int .i64 0,.slice none 0 0,.int .i64 0,.int .i64 0,.slice none 0 0,.slice none 0 0,.slice none 0 0,.slice none 0 0,.slice none 0 0,.slice none 0 0]) (us:=[.int .u8 0,.int .i64 0,.int .i64 0,.int .i64 0,.int .i64 0,.int .i64 0,.int .i64 0,.bool false,.bool false,.bool false,.bool false,.int .i64 0,.int .i64 0,.bool false,.slice none 0 0,.int .u8 0,.int .i64 0,.int .i64 0,.int .i64 0,.int .i64 0,.int .i64 0,.int .i64 0,.int .i64 0,.int .i64 0,.int .i64 0,.int .i64 0,.int .i64 0,.bool false]) hz2
     have hs28:=h28.size (by simp)
     rw [setA_size] at hs28
     simp only [List.length_cons,List.length_nil] at hs28
     refine setA_same ?_ (by rw [setA_size,setA_size,hl];exact hs28)
     rw [hl]
     exact h28.set_ (by rw [hl];exact Nat.le_refl _) (by rw [setA_size,hl];show o+1+16≤cs.size;omega)
    rw [setA_app,setA_app]
    show Blk w2 b T (setA (setA (setA cs o [.int .i64 g]) (o+1) vs) (o+1+vs.length) [.int .u8 0,.int .i64 0,.int .i64 0,.int .i64 0,.int .i64 0,.int .i64 0,.int .i64 0,.bool false,.bool false,.bool false,.bool false,.int .i64 0,.int .i64 0,.bool false,.slice none 0 0,.int .u8 0,.int .i64 0,.int .i64 0,.int .i64 0,.int .i64 0,.int .i64 0,.int .i64 0,.int .i64 0,.int .i64 0,.int .i64 0,.int .i64 0,.int .i64 0,.bool false])
    rw [e1]
    exact HE.out.2.1
   ·exact ⟨rfl,by rw [rec_state HG.out.1 hg0 hg1,(HE.out.2.2.ok e).2];rfl⟩
   ·rw [rec_state HG.out.1 hg0 hg1,HE.out.2.2.bad e rfl];rfl
end Go.Proofs.Ytfdldbfjeamlcaa.RecRRec
