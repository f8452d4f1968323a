/- Several texts joined: rec.port: what a job is asked for by, where it reads. -/
import Derived.Test.YtfdldbfjeamlcaaPG8
set_option linter.unusedVariables false
set_option linter.unusedSimpArgs false
namespace Go.Proofs.Ytfdldbfjeamlcaa.RecRAsk
set_option maxRecDepth 100000
set_option maxHeartbeats 1000000
open Go.RowKit Mem RecMem RecByte RecNum RecEach RecMath RecCod RecCods RecPort RecCommand RecCmdJ RecVal RecSame RecOwn RecRd RecRByte RecRNum RecREach RecRFlat RecRClass RecRL0 RecRListI
section
variable {α β:Type} {R:Rep α} {S:Rep β} {d1:Bs→Option (α × Bs)} {d2:Bs→Option (β × Bs)} {B gp b:Nat} {T:TypeId} {cs:Array Value} {o:Nat} {t t1:Bs} {od od1:Bool} {w w1 w2:World} {x:α} {vs:List Value} {e:Ending}
theorem ROut.step (n:Nat) (hn:R.n=n) (hM:RMid R d1 gp b t od w w1 x vs t1 od1) (hg:gp < w.heap.size) (hb:b < w.heap.size) (h:ROut S d2 B gp b T (setA cs o vs) (o+n) t1 od1 w1 e w2):ROut (R.pair S) (pairDec d1 d2) B gp b T cs o t od w e w2:=by
 rcases h with ⟨rfl,h1,h2⟩ | ⟨hr,X,c,t2,od2,y,us,h1,h2,h3⟩
 ·exact hM.fail h1 h2
 ·refine .inr ⟨hr,X,c,t2,od2,(x,y),vs ++ us,h1,?_,hM.pair h3 hg hb⟩
  rw [setA_app,R.len hM.at_,hn]
  exact h2
theorem ROut.fr (h:ROut R d1 B gp b T cs o t od w e w1):FrR gp b w w1:=by
 rcases h with ⟨_,_,h2⟩ | ⟨_,X,c,t2,od2,y,us,h1,h2,h3⟩
 ·exact h2
 ·exact h3.fr
theorem RMid.up {t1:Bs} (h:RMid R d1 gp b t od w w1 x vs t1 od1) (hB:Below w1.heap.size w1 w2):RMid R d1 gp b t od w w2 x vs t1 od1:=
 ⟨R.keep h.at_ (fun k _ hk=>hB.block k hk) hB.size,h.fr.up hB,h.le,h.ok,h.bad⟩
end
def n3R:Rep I3:=flatR 3 n3L fun _=>rfl
def wantsR:Rep ((I3 × B3) × Bool):=flatR 7 wantsL fun _=>rfl
abbrev afR:Rep (List Int):=listR numR INT
def askR:Rep QV:=(((((((numR.pair numR).pair wantsR).pair numR).pair numR).pair truthR).pair afR)).iso ofQ
def jobR:Rep JV:=(((numR.pair askR).pair byteR).pair numR).iso ofJ
theorem keepN_num {e:TypeId} : KeepN e numR:=keepN_flat
theorem keepN_byte {e:TypeId} : KeepN e byteR:=keepN_flat
theorem keepN_truth {e:TypeId} : KeepN e truthR:=keepN_flat
theorem keepN_wants {e:TypeId} : KeepN e wantsR:=keepN_flat
theorem keepN_ask {e:TypeId} (he:INT≠e):KeepN e askR:=keepN_iso (keepN_pair (keepN_pair (keepN_pair (keepN_pair (keepN_pair (keepN_pair keepN_num keepN_num) keepN_wants) keepN_num) keepN_num) keepN_truth) (keepN_ints he))
theorem keepN_job {e:TypeId} (he:INT≠e):KeepN e jobR:=keepN_iso (keepN_pair (keepN_pair (keepN_pair keepN_num (keepN_ask he)) keepN_byte) keepN_num)
theorem rwants_out (B gp:Nat) (X:Option Addr) (t:Bs) (c:Nat) (od:Bool) (b o:Nat) (T:TypeId) (cs:Array Value) (w:World) (hP:PR B w gp X t c od) (hK:Blk w b T cs) (hz:ZAt cs o [.int .i64 0,.int .i64 0,.int .i64 0,.bool false,.bool false,.bool false,.bool false]) (hb:B≤b) (hne:b≠gp):Calls Try.prog 124 #[.pointer (some ⟨gp,0,none⟩),.pointer (some ⟨b,o,none⟩)] w fun e w' => ROut wantsR wantsC.dec B gp b T cs o t od w e w':=
 (rwants B gp X t c od b o T cs w hP hK hz hb hne).mono fun e w' h=>RPl.out 7 (fun _=>rfl) h
theorem rtruth_out (B gp:Nat) (X:Option Addr) (t:Bs) (c:Nat) (od:Bool) (b o:Nat) (T:TypeId) (cs:Array Value) (w:World) (hP:PR B w gp X t c od) (hK:Blk w b T cs) (hz:ZAt cs o [.bool false]) (hb:B≤b) (hne:b≠gp):Calls Try.prog 106 #[.pointer (some ⟨gp,0,none⟩),.pointer (some ⟨b,o,none⟩)] w fun e w' => ROut truthR truthC.dec B gp b T cs o t od w e w':=
 (rtruth B gp X t c od b o T cs w hP hK hz hb hne).mono fun e w' h=>RPl.out 1 (fun _=>rfl) h
theorem rbyte_out (B gp:Nat) (X:Option Addr) (t:Bs) (c:Nat) (od:Bool) (b o:Nat) (T:TypeId) (cs:Array Value) (w:World) (hP:PR B w gp X t c od) (hK:Blk w b T cs) (hz:ZAt cs o [.int .u8 0]) (hb:B≤b) (hne:b≠gp):Calls Try.prog 102 #[.pointer (some ⟨gp,0,none⟩),.pointer (some ⟨b,o,none⟩)] w fun e w' => ROut byteR byteC.dec B gp b T cs o t od w e w':=
 (rbyte B gp X t c od b o T cs w hP hK hz hb hne).mono fun e w' h=>RPl.out 1 (fun _=>rfl) h
theorem rn3_out (B gp:Nat) (X:Option Addr) (t:Bs) (c:Nat) (od:Bool) (b o:Nat) (T:TypeId) (cs:Array Value) (w:World) (hP:PR B w gp X t c od) (hK:Blk w b T cs) (hz:ZAt cs o [.int .i64 0,.int .i64 0,.int .i64 0]) (hb:B≤b) (hne:b≠gp):Calls Try.prog 107 #[.slice (some ⟨b,o,none⟩) 3 3,.func (.func 74) #[.pointer (some ⟨gp,0,none⟩)] #[]] w fun e w' => ROut n3R n3C.dec B gp b T cs o t od w e w':=
 (rn3 B gp X t c od b o T cs w hP hK hz hb hne).mono fun e w' h=>RPl.out 3 (fun _=>rfl) h
theorem rasked (B gp:Nat) (X:Option Addr) (t:Bs) (c:Nat) (od:Bool) (b o:Nat) (T:TypeId) (cs:Array Value) (w:World) (hP:PR B w gp X t c od) (hK:Blk w b T cs) (hz:ZAt cs (o+1) [.int .i64 0,.int .i64 0,.int .i64 0,.int .i64 0,.int .i64 0,.bool false,.bool false,.bool false,.bool false,.int .i64 0,.int .i64 0,.bool false,.slice none 0 0]) (hb:B≤b) (hne:b≠gp) :
    Calls Try.prog 103 #[.pointer (some ⟨gp,0,none⟩),.pointer (some ⟨b,o,none⟩)] w fun e w' => ROut askR askC.dec B gp b T cs (o+1) t od w e w':=by
 have HS0:=Lib.hid (And.intro hP.lt hK.lt)
 have H0:=Lib.hid (And.intro hP (And.intro hK (And.intro hz (And.intro hb hne))))
 clear hP hK hz hb hne
 go_enter Try.func103,Try.ntmps103
 have HC1:=Lib.hid (rnum_out B gp X t c od b (o+1) T cs w H0.out.1 H0.out.2.1 (ZAt.left (zs:=[.int .i64 0]) (us:=[.int .i64 0,.int .i64 0,.int .i64 0,.int .i64 0,.bool false,.bool false,.bool false,.bool false,.int .i64 0,.int .i64 0,.bool false,.slice none 0 0]) H0.out.2.2.1) H0.out.2.2.2.1 H0.out.2.2.2.2)
 go_wp2_with fail
 refine HC1.out.mono ?_
 intro e w1 hj
 rcases hj with ⟨rfl,hd,hf⟩ | ⟨⟨r1,rfl⟩,X1,c1,t1,od1,x1,vs1,hP,hK,hM⟩
 ·have HN:=Lib.hid (show (od=false→askC.dec t=none)∧FrR gp b w w1 from ⟨fun e0=>iso_none (pairDec_none1 (pairDec_none1 (pairDec_none1 (pairDec_none1 (pairDec_none1 (pairDec_none1 (hd e0))))))),hf⟩)
  clear hd hf HC1
  go_wp2_with fail
  exact ⟨rfl,(Or.inl ⟨rfl,HN.out⟩)⟩
 have H1:=Lib.hid (And.intro hP (And.intro hK (And.intro (ZAt.next (R:=numR) (zs:=[.int .i64 0]) (us:=[.int .i64 0,.int .i64 0,.int .i64 0,.int .i64 0,.bool false,.bool false,.bool false,.bool false,.int .i64 0,.int .i64 0,.bool false,.slice none 0 0]) H0.out.2.2.1 rfl (by simp) hM.at_) hM)))
 clear hP hK hM HC1
 have HC2:=Lib.hid (rnum_out B gp X1 t1 c1 od1 b (o+2) T (setA cs (o+1) vs1) w1 H1.out.1 H1.out.2.1 (ZAt.left (zs:=[.int .i64 0]) (us:=[.int .i64 0,.int .i64 0,.int .i64 0,.bool false,.bool false,.bool false,.bool false,.int .i64 0,.int .i64 0,.bool false,.slice none 0 0]) H1.out.2.2.1) H0.out.2.2.2.1 H0.out.2.2.2.2)
 go_wp2_with fail
 refine HC2.out.mono ?_
 intro e w2 hj
 replace hj:=ROut.step (R:=numR) (d1:=numC.dec) (o:=(o+1)) 1 rfl H1.out.2.2.2 HS0.out.1 HS0.out.2 hj
 rcases hj with ⟨rfl,hd,hf⟩ | ⟨⟨r2,rfl⟩,X2,c2,t2,od2,x2,vs2,hP,hK,hM⟩
 ·have HN:=Lib.hid (show (od=false→askC.dec t=none)∧FrR gp b w w2 from ⟨fun e0=>iso_none (pairDec_none1 (pairDec_none1 (pairDec_none1 (pairDec_none1 (pairDec_none1 (hd e0)))))),hf⟩)
  clear hd hf HC2
  go_wp2_with fail
  exact ⟨rfl,(Or.inl ⟨rfl,HN.out⟩)⟩
 have H2:=Lib.hid (And.intro hP (And.intro hK (And.intro (ZAt.next (R:=(numR.pair numR)) (zs:=[.int .i64 0,.int .i64 0]) (us:=[.int .i64 0,.int .i64 0,.int .i64 0,.bool false,.bool false,.bool false,.bool false,.int .i64 0,.int .i64 0,.bool false,.slice none 0 0]) H0.out.2.2.1 rfl (by simp) hM.at_) hM)))
 clear hP hK hM HC2
 have HC3:=Lib.hid (rwants_out B gp X2 t2 c2 od2 b (o+3) T (setA cs (o+1) vs2) w2 H2.out.1 H2.out.2.1 (ZAt.left (zs:=[.int .i64 0,.int .i64 0,.int .i64 0,.bool false,.bool false,.bool false,.bool false]) (us:=[.int .i64 0,.int .i64 0,.bool false,.slice none 0 0]) H2.out.2.2.1) H0.out.2.2.2.1 H0.out.2.2.2.2)
 go_wp2_with fail
 refine HC3.out.mono ?_
 intro e w3 hj
 replace hj:=ROut.step (R:=(numR.pair numR)) (d1:=(pairDec numC.dec numC.dec)) (o:=(o+1)) 2 rfl H2.out.2.2.2 HS0.out.1 HS0.out.2 hj
 rcases hj with ⟨rfl,hd,hf⟩ | ⟨⟨r3,rfl⟩,X3,c3,t3,od3,x3,vs3,hP,hK,hM⟩
 ·have HN:=Lib.hid (show (od=false→askC.dec t=none)∧FrR gp b w w3 from ⟨fun e0=>iso_none (pairDec_none1 (pairDec_none1 (pairDec_none1 (pairDec_none1 (hd e0))))),hf⟩)
  clear hd hf HC3
  go_wp2_with fail
  exact ⟨rfl,(Or.inl ⟨rfl,HN.out⟩)⟩
 have H3:=Lib.hid (And.intro hP (And.intro hK (And.intro (ZAt.next (R:=((numR.pair numR).pair wantsR)) (zs:=[.int .i64 0,.int .i64 0,.int .i64 0,.int .i64 0,.int .i64 0,.bool false,.bool false,.bool false,.bool false]) (us:=[.int .i64 0,.int .i64 0,.bool false,.slice none 0 0]) H0.out.2.2.1 rfl (by simp) hM.at_) hM)))
 clear hP hK hM HC3
 have HC4:=Lib.hid (rnum_out B gp X3 t3 c3 od3 b (o+10) T (setA cs (o+1) vs3) w3 H3.out.1 H3.out.2.1 (ZAt.left (zs:=[.int .i64 0]) (us:=[.int .i64 0,.bool false,.slice none 0 0]) H3.out.2.2.1) H0.out.2.2.2.1 H0.out.2.2.2.2)
 go_wp2_with fail
 refine HC4.out.mono ?_
 intro e w4 hj
 replace hj:=ROut.step (R:=((numR.pair numR).pair wantsR)) (d1:=(pairDec (pairDec numC.dec numC.dec) wantsC.dec)) (o:=(o+1)) 9 rfl H3.out.2.2.2 HS0.out.1 HS0.out.2 hj
 rcases hj with ⟨rfl,hd,hf⟩ | ⟨⟨r4,rfl⟩,X4,c4,t4,od4,x4,vs4,hP,hK,hM⟩
 ·have HN:=Lib.hid (show (od=false→askC.dec t=none)∧FrR gp b w w4 from ⟨fun e0=>iso_none (pairDec_none1 (pairDec_none1 (pairDec_none1 (hd e0)))),hf⟩)
  clear hd hf HC4
  go_wp2_with fail
  exact ⟨rfl,(Or.inl ⟨rfl,HN.out⟩)⟩
 have H4:=Lib.hid (And.intro hP (And.intro hK (And.intro (ZAt.next (R:=(((numR.pair numR).pair wantsR).pair numR)) (zs:=[.int .i64 0,.int .i64 0,.int .i64 0,.int .i64 0,.int .i64 0,.bool false,.bool false,.bool false,.bool false,.int .i64 0]) (us:=[.int .i64 0,.bool false,.slice none 0 0]) H0.out.2.2.1 rfl (by simp) hM.at_) hM)))
 clear hP hK hM HC4
 have HC5:=Lib.hid (rnum_out B gp X4 t4 c4 od4 b (o+11) T (setA cs (o+1) vs4) w4 H4.out.1 H4.out.2.1 (ZAt.left (zs:=[.int .i64 0]) (us:=[.bool false,.slice none 0 0]) H4.out.2.2.1) H0.out.2.2.2.1 H0.out.2.2.2.2)
 go_wp2_with fail
 refine HC5.out.mono ?_
 intro e w5 hj
 replace hj:=ROut.step (R:=(((numR.pair numR).pair wantsR).pair numR)) (d1:=(pairDec (pairDec (pairDec numC.dec numC.dec) wantsC.dec) numC.dec)) (o:=(o+1)) 10 rfl H4.out.2.2.2 HS0.out.1 HS0.out.2 hj
 rcases hj with ⟨rfl,hd,hf⟩ | ⟨⟨r5,rfl⟩,X5,c5,t5,od5,x5,vs5,hP,hK,hM⟩
 ·have HN:=Lib.hid (show (od=false→askC.dec t=none)∧FrR gp b w w5 from ⟨fun e0=>iso_none (pairDec_none1 (pairDec_none1 (hd e0))),hf⟩)
  clear hd hf HC5
  go_wp2_with fail
  exact ⟨rfl,(Or.inl ⟨rfl,HN.out⟩)⟩
 have H5:=Lib.hid (And.intro hP (And.intro hK (And.intro (ZAt.next (R:=((((numR.pair numR).pair wantsR).pair numR).pair numR)) (zs:=[.int .i64 0,.int .i64 0,.int .i64 0,.int .i64 0,.int .i64 0,.bool false,.bool false,.bool false,.bool false,.int .i64 0,.int .i64 0]) (us:=[.bool false,.slice none 0 0]) H0.out.2.2.1 rfl (by simp) hM.at_) hM)))
 clear hP hK hM HC5
 have HC6:=Lib.hid (rtruth_out B gp X5 t5 c5 od5 b (o+12) T (setA cs (o+1) vs5) w5 H5.out.1 H5.out.2.1 (ZAt.left (zs:=[.bool false]) (us:=[.slice none 0 0]) H5.out.2.2.1) H0.out.2.2.2.1 H0.out.2.2.2.2)
 go_wp2_with fail
 refine HC6.out.mono ?_
 intro e w6 hj
 replace hj:=ROut.step (R:=((((numR.pair numR).pair wantsR).pair numR).pair numR)) (d1:=(pairDec (pairDec (pairDec (pairDec numC.dec numC.dec) wantsC.dec) numC.dec) numC.dec)) (o:=(o+1)) 11 rfl H5.out.2.2.2 HS0.out.1 HS0.out.2 hj
 rcases hj with ⟨rfl,hd,hf⟩ | ⟨⟨r6,rfl⟩,X6,c6,t6,od6,x6,vs6,hP,hK,hM⟩
 ·have HN:=Lib.hid (show (od=false→askC.dec t=none)∧FrR gp b w w6 from ⟨fun e0=>iso_none (pairDec_none1 (hd e0)),hf⟩)
  clear hd hf HC6
  go_wp2_with fail
  exact ⟨rfl,(Or.inl ⟨rfl,HN.out⟩)⟩
 have H6:=Lib.hid (And.intro hP (And.intro hK (And.intro (ZAt.next (R:=(((((numR.pair numR).pair wantsR).pair numR).pair numR).pair truthR)) (zs:=[.int .i64 0,.int .i64 0,.int .i64 0,.int .i64 0,.int .i64 0,.bool false,.bool false,.bool false,.bool false,.int .i64 0,.int .i64 0,.bool false]) (us:=[.slice none 0 0]) H0.out.2.2.1 rfl (by simp) hM.at_) hM)))
 clear hP hK hM HC6
 have HC7:=Lib.hid (rlistI B gp X6 t6 c6 od6 b (o+13) T (setA cs (o+1) vs6) w6 H6.out.1 H6.out.2.1 (ZAt.left (zs:=[.slice none 0 0]) (us:=[]) H6.out.2.2.1) H0.out.2.2.2.1 H0.out.2.2.2.2)
 go_wp2_with fail
 refine HC7.out.mono ?_
 intro e w7 hj
 replace hj:=ROut.step (R:=(((((numR.pair numR).pair wantsR).pair numR).pair numR).pair truthR)) (d1:=(pairDec (pairDec (pairDec (pairDec (pairDec numC.dec numC.dec) wantsC.dec) numC.dec) numC.dec) truthC.dec)) (o:=(o+1)) 12 rfl H6.out.2.2.2 HS0.out.1 HS0.out.2 hj
 rcases hj with ⟨rfl,hd,hf⟩ | ⟨⟨r7,rfl⟩,X7,c7,t7,od7,x7,vs7,hP,hK,hM⟩
 ·have HN:=Lib.hid (show (od=false→askC.dec t=none)∧FrR gp b w w7 from ⟨fun e0=>iso_none (hd e0),hf⟩)
  clear hd hf HC7
  go_wp2_with fail
  exact ⟨rfl,(Or.inl ⟨rfl,HN.out⟩)⟩
 have HE:=Lib.hid (And.intro hP (And.intro hK hM))
 clear hP hK hM HC7
 go_wp2_with fail
 go_end0
 exact (ROut.iso (f:=qOf) (g:=ofQ) (fun _=>rfl) (Or.inr ⟨⟨_,rfl⟩,X7,c7,t7,od7,x7,vs7,HE.out⟩))
end Go.Proofs.Ytfdldbfjeamlcaa.RecRAsk
namespace Go.Proofs.Ytfdldbfjeamlcaa.RecRCmd
set_option maxRecDepth 100000
set_option maxHeartbeats 1000000
open Go.RowKit Mem RecMem RecByte RecNum RecEach RecMath RecCod RecCods RecPort RecCommand RecCmdJ RecVal RecSame RecOwn RecRd RecRByte RecRNum RecREach RecRFlat RecRClass RecRL0 RecRListI RecRAsk
theorem setA_same {cs:Array Value} {o:Nat} {vs:List Value} (h:ZAt cs o vs) (hs:o+vs.length≤cs.size):setA cs o vs=cs:=by
 apply Array.ext_getElem?
 intro j
 rw [setA_get vs cs o hs j]
 by_cases hj:o≤j∧j < o+vs.length
 ·rw [if_pos hj]
  obtain ⟨d,rfl⟩:∃ d,j=o+d:=⟨j - o,by omega⟩
  rw [show o+d - o=d by omega]
  have hd:d < vs.length:=by omega
  have:=h d _ (List.getElem?_eq_getElem hd)
  rw [this,List.getElem?_eq_getElem hd]
 ·rw [if_neg hj]
theorem zat_self {cs:Array Value} {o:Nat} {vs:List Value} (hs:o+vs.length≤cs.size):ZAt (setA cs o vs) o vs:=fun i v hi=>by
 have:=(List.getElem?_eq_some_iff.1 hi).1
 rw [setA_get vs cs o hs,if_pos (by omega),show o+i - o=i by omega]
 exact hi
theorem setA_over {cs:Array Value} {o:Nat} {us vs:List Value} (hl:us.length≤vs.length) (hs:o+vs.length≤cs.size):setA (setA cs o us) o vs=setA cs o vs:=by
 apply Array.ext_getElem?
 intro j
 rw [setA_get vs _ o (by rw [setA_size];exact hs) j,setA_get vs cs o hs j,setA_get us cs o (by omega) j]
 by_cases hj:o≤j∧j < o+vs.length
 ·rw [if_pos hj,if_pos hj]
 ·rw [if_neg hj,if_neg hj,if_neg (by omega)]
theorem zat_sub {cs:Array Value} {o:Nat} {zs:List Value} (h:ZAt cs o zs) (a:Nat) (us:List Value) (hu:(zs.drop a).take us.length=us):ZAt cs (o+a) us:=fun i v hi=>by
 rw [Nat.add_assoc]
 have hl:=(List.getElem?_eq_some_iff.1 hi).1
 refine h (a+i) v ?_
 rw [← List.getElem?_drop]
 rw [← hu,List.getElem?_take_of_lt hl] at hi
 exact hi
theorem setA_sub {cs:Array Value} {o:Nat} {zs:List Value} (hs:o+zs.length≤cs.size) (a:Nat) (us vs:List Value) (hl:a+us.length≤zs.length) (hv:vs=zs.take a ++ (us ++ zs.drop (a+us.length))):setA (setA cs o zs) (o+a) us=setA cs o vs:=by
 have hvl:vs.length=zs.length:=by rw [hv];simp;omega
 have h1:setA (setA cs o zs) o vs=setA cs o vs:=setA_over (by omega) (by omega)
 rw [← h1,hv,setA_app,setA_app]
 have hta:(zs.take a).length=a:=by simp;omega
 have hz:=zat_self (cs:=cs) (o:=o) (vs:=zs) hs
 have e1:setA (setA cs o zs) o (zs.take a)=setA cs o zs:=setA_same (fun i v hi=>hz i v (by
  have hi2:i < a:=by have:=(List.getElem?_eq_some_iff.1 hi).1;omega
  rwa [List.getElem?_take_of_lt hi2] at hi)) (by rw [setA_size];omega)
 have e2:setA (setA (setA cs o zs) (o+a) us) (o+a+us.length) (zs.drop (a+us.length))=setA (setA cs o zs) (o+a) us:=by
  refine setA_same ?_ (by rw [setA_size,setA_size,List.length_drop];omega)
  refine ZAt.set_ ?_ (Nat.le_refl _) (by rw [setA_size];omega)
  intro i v hi
  rw [List.getElem?_drop] at hi
  have:=hz (a+us.length+i) v hi
  rw [show o+a+us.length+i=o+(a+us.length+i) by omega]
  exact this
 rw [e1,hta,e2]
def cmdR:Rep CV where
 n:=28
 At w F c vs:=∃ Y cy,vs=cL c Y cy∧afR.At w F c.af [.slice Y c.af.length cy]
 len:=by rintro w F c vs ⟨Y,cy,rfl,_⟩;rfl
 keep:=by rintro w w' F c vs ⟨Y,cy,rfl,h⟩ hk hs;exact ⟨Y,cy,rfl,afR.keep h hk hs⟩
 mono:=by rintro w F F' c vs ⟨Y,cy,rfl,h⟩ hF;exact ⟨Y,cy,rfl,afR.mono h hF⟩
theorem af_nil {w:World} {F:Nat} : afR.At w F [] [.slice none 0 0]:=⟨none,0,[],rfl,World.ownsRow_nil _ _ _ _,fun i x hi=>by simp at hi⟩
theorem cmdR_nil {w:World} {F:Nat} {c:CV} (h:c.af=[]):cmdR.At w F c (cL c none 0):=⟨none,0,rfl,by rw [h];exact af_nil⟩
theorem ask_form {w:World} {F:Nat} {x:QV} {vs:List Value} (h:askR.At w F x vs):∃ V c,vs=qL x V c∧afR.At w F x.af [.slice V x.af.length c]:=by
 obtain ⟨u1,u2,rfl,⟨u3,u4,rfl,⟨u5,u6,rfl,⟨u7,u8,rfl,⟨u9,u10,rfl,⟨u11,u12,rfl,g11,g12⟩,g10⟩,g8⟩,g6⟩,g4⟩,g2⟩:=h
 obtain ⟨V,c,xs,rfl,hr⟩:=g2
 have e1:u11=[.int .i64 _]:=g11
 have e2:u12=[.int .i64 _]:=g12
 have e3:u10=wantsL _:=g10
 have e4:u8=[.int .i64 _]:=g8
 have e5:u6=[.int .i64 _]:=g6
 have e6:u4=[.bool _]:=g4
 subst e1 e2 e3 e4 e5 e6
 exact ⟨V,c,rfl,V,c,xs,rfl,hr⟩
theorem dec_job {k:Int} {t:Bs} (h:isJob k):cmdDec (k :: t)=(askC.dec t).map fun p=>(setQ k p.1,p.2):=by
 simp only [cmdDec,if_pos h]
theorem dec_id {k:Int} {t:Bs} (h:isId k):cmdDec (k :: t)=(numC.dec t).map fun p=>({ CV.z with kd:=k,ci:=p.1 },p.2):=by
 have h1:¬ isJob k:=by (unfold isJob;unfold isId at h;omega)
 simp only [cmdDec,h1,h,if_true,if_false]
theorem dec_keep {k:Int} {t:Bs} (h:isKeep k):cmdDec (k :: t)=((pairC boxC spanC).dec t).map fun p=>(setK k p.1,p.2):=by
 have h1:¬ isJob k:=by (unfold isJob;unfold isKeep at h;omega)
 have h2:¬ isId k:=by (unfold isId;unfold isKeep at h;omega)
 simp only [cmdDec,h1,h2,h,if_true,if_false]
theorem dec_well {k:Int} {t:Bs} (h:isWell k):cmdDec (k :: t)=((pairC numC truthC).dec t).map fun p=>({ CV.z with kd:=k,ci:=p.1.1,we:=p.1.2 },p.2):=by
 have h1:¬ isJob k:=by (unfold isJob;unfold isWell at h;omega)
 have h2:¬ isId k:=by (unfold isId;unfold isWell at h;omega)
 have h3:¬ isKeep k:=by (unfold isKeep;unfold isWell at h;omega)
 simp only [cmdDec,h1,h2,h3,h,if_true,if_false]
theorem dec_n {k:Int} {t:Bs} (h:isN k):cmdDec (k :: t)=(numC.dec t).map fun p=>({ CV.z with kd:=k,n:=p.1 },p.2):=by
 have h1:¬ isJob k:=by (unfold isJob;unfold isN at h;omega)
 have h2:¬ isId k:=by (unfold isId;unfold isN at h;omega)
 have h3:¬ isKeep k:=by (unfold isKeep;unfold isN at h;omega)
 have h4:¬ isWell k:=by (unfold isWell;unfold isN at h;omega)
 simp only [cmdDec,h1,h2,h3,h4,h,if_true,if_false]
theorem dec_z {k:Int} {t:Bs} (h:¬ (1≤k∧k≤15)):cmdDec (k :: t)=none:=by
 have h1:¬ isJob k:=by (unfold isJob;omega)
 have h2:¬ isId k:=by (unfold isId;omega)
 have h3:¬ isKeep k:=by (unfold isKeep;omega)
 have h4:¬ isWell k:=by (unfold isWell;omega)
 have h5:¬ isN k:=by (unfold isN;omega)
 simp only [cmdDec,h1,h2,h3,h4,h5,if_false]
theorem setA_one0 {cs:Array Value} {o:Nat} {k:Int} (hz:ZAt cs o [.int .u8 0,.int .i64 0,.int .i64 0,.int .i64 0,.int .i64 0,.int .i64 0,.int .i64 0,.bool false,.bool false,.bool false,.bool false,.int .i64 0,.int .i64 0,.bool false,.slice none 0 0,.int .u8 0,.int .i64 0,.int .i64 0,.int .i64 0,.int .i64 0,.int .i64 0,.int .i64 0,.int .i64 0,.int .i64 0,.int .i64 0,.int .i64 0,.int .i64 0,.bool false]) (hs:o+28≤cs.size):setA cs o [.int .u8 k]=setA cs o (cL (⟨k,0,0,0,0,0,0,false,false,false,false,0,0,false,[],0,0,0,0,0,0,0,0,0,0,0,0,false⟩:CV) none 0):=by
 have h0:setA cs o [.int .u8 0,.int .i64 0,.int .i64 0,.int .i64 0,.int .i64 0,.int .i64 0,.int .i64 0,.bool false,.bool false,.bool false,.bool false,.int .i64 0,.int .i64 0,.bool false,.slice none 0 0,.int .u8 0,.int .i64 0,.int .i64 0,.int .i64 0,.int .i64 0,.int .i64 0,.int .i64 0,.int .i64 0,.int .i64 0,.int .i64 0,.int .i64 0,.int .i64 0,.bool false]=cs:=setA_same hz hs
 have:=setA_sub (cs:=cs) (o:=o) (zs:=[.int .u8 0,.int .i64 0,.int .i64 0,.int .i64 0,.int .i64 0,.int .i64 0,.int .i64 0,.bool false,.bool false,.bool false,.bool false,.int .i64 0,.int .i64 0,.bool false,.slice none 0 0,.int .u8 0,.int .i64 0,.int .i64 0,.int .i64 0,.int .i64 0,.int .i64 0,.int .i64 0,.int .i64 0,.int .i64 0,.int .i64 0,.int .i64 0,.int .i64 0,.bool false]) hs 0 [.int .u8 k] (cL (⟨k,0,0,0,0,0,0,false,false,false,false,0,0,false,[],0,0,0,0,0,0,0,0,0,0,0,0,false⟩:CV) none 0) (by simp) rfl
 rwa [h0] at this
theorem rcmdJob (B gp:Nat) (X:Option Addr) (t:Bs) (c:Nat) (od:Bool) (b o:Nat) (T:TypeId) (cs:Array Value) (w:World) (hP:PR B w gp X t c od) (hK:Blk w b T cs) (hz:ZAt cs o [.int .u8 0,.int .i64 0,.int .i64 0,.int .i64 0,.int .i64 0,.int .i64 0,.int .i64 0,.bool false,.bool false,.bool false,.bool false,.int .i64 0,.int .i64 0,.bool false,.slice none 0 0,.int .u8 0,.int .i64 0,.int .i64 0,.int .i64 0,.int .i64 0,.int .i64 0,.int .i64 0,.int .i64 0,.int .i64 0,.int .i64 0,.int .i64 0,.int .i64 0,.bool false]) (hb:B≤b) (hne:b≠gp) (t1:Bs) (k:Int) (hk:k=1) (ht:t=k :: t1) :
    Calls Try.prog 75 #[.pointer (some ⟨gp,0,none⟩),.pointer (some ⟨b,o,none⟩)] w fun e w' => ROut cmdR cmdDec B gp b T cs o t od w e w':=by
 have hor:o+28≤cs.size:=hz.size (by simp)
 all_goals
  have HKK:=Lib.hid hk
  clear hk
  have HS0:=Lib.hid (And.intro hP.lt hK.lt)
  have H0:=Lib.hid (And.intro hP (And.intro hK (And.intro hz (And.intro hb hne))))
  clear hP hK hz hb hne
  have HT:=Lib.hid ht
  have HC1:=Lib.hid (rbyte B gp X t c od b o T cs w H0.out.1 H0.out.2.1 (ZAt.left (zs:=[.int .u8 0]) (us:=[.int .i64 0,.int .i64 0,.int .i64 0,.int .i64 0,.int .i64 0,.int .i64 0,.bool false,.bool false,.bool false,.bool false,.int .i64 0,.int .i64 0,.bool false,.slice none 0 0,.int .u8 0,.int .i64 0,.int .i64 0,.int .i64 0,.int .i64 0,.int .i64 0,.int .i64 0,.int .i64 0,.int .i64 0,.int .i64 0,.int .i64 0,.int .i64 0,.bool false]) H0.out.2.2.1) H0.out.2.2.2.1 H0.out.2.2.2.2)
  clear ht
  go_enter Try.func75,Try.ntmps75
  go_wp2_with fail
  refine HC1.out.mono ?_
  rintro e w1 (⟨rfl,hd,hf⟩ | ⟨⟨r1,rfl⟩,X1,c1,t1',k',hd,hl,hP,hK,hf⟩)
  ·rw [HT.out] at hd;cases hd
  rw [HT.out] at hd
  obtain ⟨e1,e2⟩:k' = k∧t1' = t1:=by cases hd;exact ⟨rfl,rfl⟩
  subst e1 e2
  have kc:w1.cell? ⟨b,o,none⟩=some (.int .u8 k'):=by
   rw [hK.cell o,setA_get _ _ _ (by simp;omega),if_pos (by simp)];simp
  rw [HKK.out] at kc
  rw [setA_one0 H0.out.2.2.1 hor] at hK
  have H1:=Lib.hid (And.intro hP (And.intro hK (And.intro (show ZAt (setA cs o (cL (⟨k',0,0,0,0,0,0,false,false,false,false,0,0,false,[],0,0,0,0,0,0,0,0,0,0,0,0,false⟩:CV) none 0)) o (cL (⟨k',0,0,0,0,0,0,false,false,false,false,0,0,false,[],0,0,0,0,0,0,0,0,0,0,0,0,false⟩:CV) none 0) from zat_self hor) (And.intro hf hl))))
  clear hP hK hf hd hl HC1
  have HC2:=Lib.hid (rasked B gp X1 t1' c1 od b (o+1) T (setA cs o (cL (⟨k',0,0,0,0,0,0,false,false,false,false,0,0,false,[],0,0,0,0,0,0,0,0,0,0,0,0,false⟩:CV) none 0)) w1 H1.out.1 H1.out.2.1 (zat_sub H1.out.2.2.1 2 [.int .i64 0,.int .i64 0,.int .i64 0,.int .i64 0,.int .i64 0,.bool false,.bool false,.bool false,.bool false,.int .i64 0,.int .i64 0,.bool false,.slice none 0 0] rfl) H0.out.2.2.2.1 H0.out.2.2.2.2)
  have HI:=Lib.hid (show isJob k' by have:=HKK.out;unfold isJob;omega)
  go_wp2_with fail
  refine HC2.out.mono ?_
  rintro e w2 (⟨rfl,hd,hf⟩ | ⟨⟨r2,rfl⟩,X2,c2,t2,od2,x,vs,hP,hK,hM⟩)
  ·have HN:=Lib.hid (show (od=false→cmdDec t=none)∧FrR gp b w w2 from ⟨fun e0=>by rw [HT.out,dec_job HI.out];exact iso_none (hd e0),H1.out.2.2.2.1.trans hf⟩)
   clear hd hf HC2
   go_wp2_with fail
   exact ⟨rfl,Or.inl ⟨rfl,HN.out⟩⟩
  ·obtain ⟨V,cv,rfl,hA⟩:=ask_form hM.at_
   rw [show o+1+1=o+2 from rfl,setA_sub (zs:=(cL (⟨k',0,0,0,0,0,0,false,false,false,false,0,0,false,[],0,0,0,0,0,0,0,0,0,0,0,0,false⟩:CV) none 0)) hor 2 (qL x V cv) (cL (setQ k' x) V cv) (by simp) rfl] at hK
   have HE:=Lib.hid (And.intro hP (And.intro hK (And.intro hM hA)))
   clear hP hK hM hA HC2
   go_wp2_with fail
   go_end0
   have hs:=H1.out.2.2.2.1.size
   refine Or.inr ⟨⟨_,rfl⟩,X2,c2,t2,od2,_,_,HE.out.1,HE.out.2.1,⟨V,cv,rfl,afR.mono HE.out.2.2.2 hs⟩,H1.out.2.2.2.1.trans HE.out.2.2.1.fr,by have:=HE.out.2.2.1.le;rw [HT.out,List.length_cons];omega,fun e=>⟨(HE.out.2.2.1.ok e).1,?_⟩,fun e e0=>?_⟩
   ·rw [HT.out,dec_job HI.out,(HE.out.2.2.1.ok e).2];rfl
   ·rw [HT.out,dec_job HI.out];exact iso_none (HE.out.2.2.1.bad e e0)
theorem rcmdId (B gp:Nat) (X:Option Addr) (t:Bs) (c:Nat) (od:Bool) (b o:Nat) (T:TypeId) (cs:Array Value) (w:World) (hP:PR B w gp X t c od) (hK:Blk w b T cs) (hz:ZAt cs o [.int .u8 0,.int .i64 0,.int .i64 0,.int .i64 0,.int .i64 0,.int .i64 0,.int .i64 0,.bool false,.bool false,.bool false,.bool false,.int .i64 0,.int .i64 0,.bool false,.slice none 0 0,.int .u8 0,.int .i64 0,.int .i64 0,.int .i64 0,.int .i64 0,.int .i64 0,.int .i64 0,.int .i64 0,.int .i64 0,.int .i64 0,.int .i64 0,.int .i64 0,.bool false]) (hb:B≤b) (hne:b≠gp) (t1:Bs) (k:Int) (hk:k=2∨k=3∨k=4∨k=6) (ht:t=k :: t1) :
    Calls Try.prog 75 #[.pointer (some ⟨gp,0,none⟩),.pointer (some ⟨b,o,none⟩)] w fun e w' => ROut cmdR cmdDec B gp b T cs o t od w e w':=by
 have hor:o+28≤cs.size:=hz.size (by simp)
 rcases hk with hk | hk | hk | hk
 all_goals
  have HKK:=Lib.hid hk
  clear hk
  have HS0:=Lib.hid (And.intro hP.lt hK.lt)
  have H0:=Lib.hid (And.intro hP (And.intro hK (And.intro hz (And.intro hb hne))))
  clear hP hK hz hb hne
  have HT:=Lib.hid ht
  have HC1:=Lib.hid (rbyte B gp X t c od b o T cs w H0.out.1 H0.out.2.1 (ZAt.left (zs:=[.int .u8 0]) (us:=[.int .i64 0,.int .i64 0,.int .i64 0,.int .i64 0,.int .i64 0,.int .i64 0,.bool false,.bool false,.bool false,.bool false,.int .i64 0,.int .i64 0,.bool false,.slice none 0 0,.int .u8 0,.int .i64 0,.int .i64 0,.int .i64 0,.int .i64 0,.int .i64 0,.int .i64 0,.int .i64 0,.int .i64 0,.int .i64 0,.int .i64 0,.int .i64 0,.bool false]) H0.out.2.2.1) H0.out.2.2.2.1 H0.out.2.2.2.2)
  clear ht
  go_enter Try.func75,Try.ntmps75
  go_wp2_with fail
  refine HC1.out.mono ?_
  rintro e w1 (⟨rfl,hd,hf⟩ | ⟨⟨r1,rfl⟩,X1,c1,t1',k',hd,hl,hP,hK,hf⟩)
  ·rw [HT.out] at hd;cases hd
  rw [HT.out] at hd
  obtain ⟨e1,e2⟩:k' = k∧t1' = t1:=by cases hd;exact ⟨rfl,rfl⟩
  subst e1 e2
  have kc:w1.cell? ⟨b,o,none⟩=some (.int .u8 k'):=by
   rw [hK.cell o,setA_get _ _ _ (by simp;omega),if_pos (by simp)];simp
  rw [HKK.out] at kc
  rw [setA_one0 H0.out.2.2.1 hor] at hK
  have H1:=Lib.hid (And.intro hP (And.intro hK (And.intro (show ZAt (setA cs o (cL (⟨k',0,0,0,0,0,0,false,false,false,false,0,0,false,[],0,0,0,0,0,0,0,0,0,0,0,0,false⟩:CV) none 0)) o (cL (⟨k',0,0,0,0,0,0,false,false,false,false,0,0,false,[],0,0,0,0,0,0,0,0,0,0,0,0,false⟩:CV) none 0) from zat_self hor) (And.intro hf hl))))
  clear hP hK hf hd hl HC1
  have HC2:=Lib.hid (rnum B gp X1 t1' c1 od b (o+17) T (setA cs o (cL (⟨k',0,0,0,0,0,0,false,false,false,false,0,0,false,[],0,0,0,0,0,0,0,0,0,0,0,0,false⟩:CV) none 0)) w1 H1.out.1 H1.out.2.1 (zat_sub H1.out.2.2.1 17 [.int .i64 0] rfl) H0.out.2.2.2.1 H0.out.2.2.2.2)
  have HI:=Lib.hid (show isId k' by have:=HKK.out;unfold isId;omega)
  go_wp2_with fail
  refine HC2.out.mono ?_
  rintro e w2 (⟨rfl,hd,hf⟩ | ⟨⟨r2,rfl⟩,X2,c2,t2,x,hd,hl,hP,hK,hf⟩)
  ·have HN:=Lib.hid (show (od=false→cmdDec t=none)∧FrR gp b w w2 from ⟨fun _=>by rw [HT.out,dec_id HI.out,show numC.dec t1' = none from hd];rfl,H1.out.2.2.2.1.trans hf⟩)
   clear hd hf HC2
   go_wp2_with fail
   exact ⟨rfl,Or.inl ⟨rfl,HN.out⟩⟩
  ·rw [setA_sub (zs:=(cL (⟨k',0,0,0,0,0,0,false,false,false,false,0,0,false,[],0,0,0,0,0,0,0,0,0,0,0,0,false⟩:CV) none 0)) hor 17 (numL x) (cL (⟨k',0,0,0,0,0,0,false,false,false,false,0,0,false,[],0,0,x,0,0,0,0,0,0,0,0,0,false⟩:CV) none 0) (by simp) rfl] at hK
   have hdc:cmdDec t=some ((⟨k',0,0,0,0,0,0,false,false,false,false,0,0,false,[],0,0,x,0,0,0,0,0,0,0,0,0,false⟩:CV),t2):=by rw [HT.out,dec_id HI.out,show numC.dec t1' = some (x,t2) from hd];rfl
   have HE:=Lib.hid (And.intro hP (And.intro hK (And.intro hdc (And.intro hl hf))))
   clear hP hK hd hdc hl hf HC2
   go_wp2_with fail
   go_end0
   exact Or.inr ⟨⟨_,rfl⟩,X2,c2,t2,od,_,_,HE.out.1,HE.out.2.1,cmdR_nil rfl,H1.out.2.2.2.1.trans HE.out.2.2.2.2,by have:=HE.out.2.2.2.1;rw [HT.out,List.length_cons];omega,fun e=>⟨e,HE.out.2.2.1⟩,fun e e0=>by (rw [e] at e0;cases e0)⟩
theorem rcmdKeep (B gp:Nat) (X:Option Addr) (t:Bs) (c:Nat) (od:Bool) (b o:Nat) (T:TypeId) (cs:Array Value) (w:World) (hP:PR B w gp X t c od) (hK:Blk w b T cs) (hz:ZAt cs o [.int .u8 0,.int .i64 0,.int .i64 0,.int .i64 0,.int .i64 0,.int .i64 0,.int .i64 0,.bool false,.bool false,.bool false,.bool false,.int .i64 0,.int .i64 0,.bool false,.slice none 0 0,.int .u8 0,.int .i64 0,.int .i64 0,.int .i64 0,.int .i64 0,.int .i64 0,.int .i64 0,.int .i64 0,.int .i64 0,.int .i64 0,.int .i64 0,.int .i64 0,.bool false]) (hb:B≤b) (hne:b≠gp) (t1:Bs) (k:Int) (hk:k=5) (ht:t=k :: t1) :
    Calls Try.prog 75 #[.pointer (some ⟨gp,0,none⟩),.pointer (some ⟨b,o,none⟩)] w fun e w' => ROut cmdR cmdDec B gp b T cs o t od w e w':=by
 have hor:o+28≤cs.size:=hz.size (by simp)
 all_goals
  have HKK:=Lib.hid hk
  clear hk
  have HS0:=Lib.hid (And.intro hP.lt hK.lt)
  have H0:=Lib.hid (And.intro hP (And.intro hK (And.intro hz (And.intro hb hne))))
  clear hP hK hz hb hne
  have HT:=Lib.hid ht
  have HC1:=Lib.hid (rbyte B gp X t c od b o T cs w H0.out.1 H0.out.2.1 (ZAt.left (zs:=[.int .u8 0]) (us:=[.int .i64 0,.int .i64 0,.int .i64 0,.int .i64 0,.int .i64 0,.int .i64 0,.bool false,.bool false,.bool false,.bool false,.int .i64 0,.int .i64 0,.bool false,.slice none 0 0,.int .u8 0,.int .i64 0,.int .i64 0,.int .i64 0,.int .i64 0,.int .i64 0,.int .i64 0,.int .i64 0,.int .i64 0,.int .i64 0,.int .i64 0,.int .i64 0,.bool false]) H0.out.2.2.1) H0.out.2.2.2.1 H0.out.2.2.2.2)
  clear ht
  go_enter Try.func75,Try.ntmps75
  go_wp2_with fail
  refine HC1.out.mono ?_
  rintro e w1 (⟨rfl,hd,hf⟩ | ⟨⟨r1,rfl⟩,X1,c1,t1',k',hd,hl,hP,hK,hf⟩)
  ·rw [HT.out] at hd;cases hd
  rw [HT.out] at hd
  obtain ⟨e1,e2⟩:k' = k∧t1' = t1:=by cases hd;exact ⟨rfl,rfl⟩
  subst e1 e2
  have kc:w1.cell? ⟨b,o,none⟩=some (.int .u8 k'):=by
   rw [hK.cell o,setA_get _ _ _ (by simp;omega),if_pos (by simp)];simp
  rw [HKK.out] at kc
  rw [setA_one0 H0.out.2.2.1 hor] at hK
  have H1:=Lib.hid (And.intro hP (And.intro hK (And.intro (show ZAt (setA cs o (cL (⟨k',0,0,0,0,0,0,false,false,false,false,0,0,false,[],0,0,0,0,0,0,0,0,0,0,0,0,false⟩:CV) none 0)) o (cL (⟨k',0,0,0,0,0,0,false,false,false,false,0,0,false,[],0,0,0,0,0,0,0,0,0,0,0,0,false⟩:CV) none 0) from zat_self hor) (And.intro hf hl))))
  clear hP hK hf hd hl HC1
  have HC2:=Lib.hid (rbox B gp X1 t1' c1 od b (o+18) T (setA cs o (cL (⟨k',0,0,0,0,0,0,false,false,false,false,0,0,false,[],0,0,0,0,0,0,0,0,0,0,0,0,false⟩:CV) none 0)) w1 H1.out.1 H1.out.2.1 (zat_sub H1.out.2.2.1 18 [.int .i64 0,.int .i64 0,.int .i64 0,.int .i64 0,.int .i64 0,.int .i64 0] rfl) H0.out.2.2.2.1 H0.out.2.2.2.2)
  have HI:=Lib.hid (show isKeep k' by have:=HKK.out;unfold isKeep;omega)
  go_wp2_with fail
  refine HC2.out.mono ?_
  rintro e w2 (⟨rfl,hd,hf⟩ | ⟨⟨r2,rfl⟩,X2,c2,t2,x,hd,hl,hP,hK,hf⟩)
  ·have HN:=Lib.hid (show (od=false→cmdDec t=none)∧FrR gp b w w2 from ⟨fun _=>by rw [HT.out,dec_keep HI.out,show (pairC boxC spanC).dec t1' = none from pairDec_none1 (d2:=spanC.dec) hd];rfl,H1.out.2.2.2.1.trans hf⟩)
   clear hd hf HC2
   go_wp2_with fail
   exact ⟨rfl,Or.inl ⟨rfl,HN.out⟩⟩
  rw [setA_sub (zs:=(cL (⟨k',0,0,0,0,0,0,false,false,false,false,0,0,false,[],0,0,0,0,0,0,0,0,0,0,0,0,false⟩:CV) none 0)) hor 18 (boxL x) (cL (⟨k',0,0,0,0,0,0,false,false,false,false,0,0,false,[],0,0,0,x.1.1.1,x.1.1.2,x.1.2,x.2.1.1,x.2.1.2,x.2.2,0,0,0,false⟩:CV) none 0) (by simp) rfl] at hK
  have H2:=Lib.hid (And.intro hP (And.intro hK (And.intro (show ZAt (setA cs o (cL (⟨k',0,0,0,0,0,0,false,false,false,false,0,0,false,[],0,0,0,x.1.1.1,x.1.1.2,x.1.2,x.2.1.1,x.2.1.2,x.2.2,0,0,0,false⟩:CV) none 0)) o (cL (⟨k',0,0,0,0,0,0,false,false,false,false,0,0,false,[],0,0,0,x.1.1.1,x.1.1.2,x.1.2,x.2.1.1,x.2.1.2,x.2.2,0,0,0,false⟩:CV) none 0) from zat_self hor) (And.intro hd (And.intro hl hf)))))
  clear hP hK hd hl hf HC2
  have HC3:=Lib.hid (rspan B gp X2 t2 c2 od b (o+24) T (setA cs o (cL (⟨k',0,0,0,0,0,0,false,false,false,false,0,0,false,[],0,0,0,x.1.1.1,x.1.1.2,x.1.2,x.2.1.1,x.2.1.2,x.2.2,0,0,0,false⟩:CV) none 0)) w2 H2.out.1 H2.out.2.1 (zat_sub H2.out.2.2.1 24 [.int .i64 0,.int .i64 0] rfl) H0.out.2.2.2.1 H0.out.2.2.2.2)
  go_wp2_with fail
  refine HC3.out.mono ?_
  rintro e w3 (⟨rfl,hd,hf⟩ | ⟨⟨r3,rfl⟩,X3,c3,t3,y,hd,hl,hP,hK,hf⟩)
  ·have HN:=Lib.hid (show (od=false→cmdDec t=none)∧FrR gp b w w3 from ⟨fun _=>by rw [HT.out,dec_keep HI.out,show (pairC boxC spanC).dec t1' = none from pairDec_none2 H2.out.2.2.2.1 hd];rfl,(H1.out.2.2.2.1.trans H2.out.2.2.2.2.2).trans hf⟩)
   clear hd hf HC3
   go_wp2_with fail
   exact ⟨rfl,Or.inl ⟨rfl,HN.out⟩⟩
  rw [setA_sub (zs:=(cL (⟨k',0,0,0,0,0,0,false,false,false,false,0,0,false,[],0,0,0,x.1.1.1,x.1.1.2,x.1.2,x.2.1.1,x.2.1.2,x.2.2,0,0,0,false⟩:CV) none 0)) hor 24 (spanL y) (cL (⟨k',0,0,0,0,0,0,false,false,false,false,0,0,false,[],0,0,0,x.1.1.1,x.1.1.2,x.1.2,x.2.1.1,x.2.1.2,x.2.2,y.1,y.2,0,false⟩:CV) none 0) (by simp) rfl] at hK
  have hdc:cmdDec t=some (setK k' (x,y),t3):=by rw [HT.out,dec_keep HI.out,show (pairC boxC spanC).dec t1' = some ((x,y),t3) from pairDec_some H2.out.2.2.2.1 hd];rfl
  have HE:=Lib.hid (And.intro hP (And.intro hK (And.intro hdc (And.intro hl hf))))
  clear hP hK hd hdc hl hf HC3
  go_wp2_with fail
  go_end0
  exact Or.inr ⟨⟨_,rfl⟩,X3,c3,t3,od,_,_,HE.out.1,HE.out.2.1,cmdR_nil rfl,(H1.out.2.2.2.1.trans H2.out.2.2.2.2.2).trans HE.out.2.2.2.2,by have:=HE.out.2.2.2.1;have:=H2.out.2.2.2.2.1;rw [HT.out,List.length_cons];omega,fun e=>⟨e,HE.out.2.2.1⟩,fun e e0=>by (rw [e] at e0;cases e0)⟩
theorem rcmdWell (B gp:Nat) (X:Option Addr) (t:Bs) (c:Nat) (od:Bool) (b o:Nat) (T:TypeId) (cs:Array Value) (w:World) (hP:PR B w gp X t c od) (hK:Blk w b T cs) (hz:ZAt cs o [.int .u8 0,.int .i64 0,.int .i64 0,.int .i64 0,.int .i64 0,.int .i64 0,.int .i64 0,.bool false,.bool false,.bool false,.bool false,.int .i64 0,.int .i64 0,.bool false,.slice none 0 0,.int .u8 0,.int .i64 0,.int .i64 0,.int .i64 0,.int .i64 0,.int .i64 0,.int .i64 0,.int .i64 0,.int .i64 0,.int .i64 0,.int .i64 0,.int .i64 0,.bool false]) (hb:B≤b) (hne:b≠gp) (t1:Bs) (k:Int) (hk:k=8∨k=9) (ht:t=k :: t1) :
    Calls Try.prog 75 #[.pointer (some ⟨gp,0,none⟩),.pointer (some ⟨b,o,none⟩)] w fun e w' => ROut cmdR cmdDec B gp b T cs o t od w e w':=by
 have hor:o+28≤cs.size:=hz.size (by simp)
 rcases hk with hk | hk
 all_goals
  have HKK:=Lib.hid hk
  clear hk
  have HS0:=Lib.hid (And.intro hP.lt hK.lt)
  have H0:=Lib.hid (And.intro hP (And.intro hK (And.intro hz (And.intro hb hne))))
  clear hP hK hz hb hne
  have HT:=Lib.hid ht
  have HC1:=Lib.hid (rbyte B gp X t c od b o T cs w H0.out.1 H0.out.2.1 (ZAt.left (zs:=[.int .u8 0]) (us:=[.int .i64 0,.int .i64 0,.int .i64 0,.int .i64 0,.int .i64 0,.int .i64 0,.bool false,.bool false,.bool false,.bool false,.int .i64 0,.int .i64 0,.bool false,.slice none 0 0,.int .u8 0,.int .i64 0,.int .i64 0,.int .i64 0,.int .i64 0,.int .i64 0,.int .i64 0,.int .i64 0,.int .i64 0,.int .i64 0,.int .i64 0,.int .i64 0,.bool false]) H0.out.2.2.1) H0.out.2.2.2.1 H0.out.2.2.2.2)
  clear ht
  go_enter Try.func75,Try.ntmps75
  go_wp2_with fail
  refine HC1.out.mono ?_
  rintro e w1 (⟨rfl,hd,hf⟩ | ⟨⟨r1,rfl⟩,X1,c1,t1',k',hd,hl,hP,hK,hf⟩)
  ·rw [HT.out] at hd;cases hd
  rw [HT.out] at hd
  obtain ⟨e1,e2⟩:k' = k∧t1' = t1:=by cases hd;exact ⟨rfl,rfl⟩
  subst e1 e2
  have kc:w1.cell? ⟨b,o,none⟩=some (.int .u8 k'):=by
   rw [hK.cell o,setA_get _ _ _ (by simp;omega),if_pos (by simp)];simp
  rw [HKK.out] at kc
  rw [setA_one0 H0.out.2.2.1 hor] at hK
  have H1:=Lib.hid (And.intro hP (And.intro hK (And.intro (show ZAt (setA cs o (cL (⟨k',0,0,0,0,0,0,false,false,false,false,0,0,false,[],0,0,0,0,0,0,0,0,0,0,0,0,false⟩:CV) none 0)) o (cL (⟨k',0,0,0,0,0,0,false,false,false,false,0,0,false,[],0,0,0,0,0,0,0,0,0,0,0,0,false⟩:CV) none 0) from zat_self hor) (And.intro hf hl))))
  clear hP hK hf hd hl HC1
  have HC2:=Lib.hid (rnum B gp X1 t1' c1 od b (o+17) T (setA cs o (cL (⟨k',0,0,0,0,0,0,false,false,false,false,0,0,false,[],0,0,0,0,0,0,0,0,0,0,0,0,false⟩:CV) none 0)) w1 H1.out.1 H1.out.2.1 (zat_sub H1.out.2.2.1 17 [.int .i64 0] rfl) H0.out.2.2.2.1 H0.out.2.2.2.2)
  have HI:=Lib.hid (show isWell k' by have:=HKK.out;unfold isWell;omega)
  go_wp2_with fail
  refine HC2.out.mono ?_
  rintro e w2 (⟨rfl,hd,hf⟩ | ⟨⟨r2,rfl⟩,X2,c2,t2,x,hd,hl,hP,hK,hf⟩)
  ·have HN:=Lib.hid (show (od=false→cmdDec t=none)∧FrR gp b w w2 from ⟨fun _=>by rw [HT.out,dec_well HI.out,show (pairC numC truthC).dec t1' = none from pairDec_none1 (d2:=truthDec) hd];rfl,H1.out.2.2.2.1.trans hf⟩)
   clear hd hf HC2
   go_wp2_with fail
   exact ⟨rfl,Or.inl ⟨rfl,HN.out⟩⟩
  rw [setA_sub (zs:=(cL (⟨k',0,0,0,0,0,0,false,false,false,false,0,0,false,[],0,0,0,0,0,0,0,0,0,0,0,0,false⟩:CV) none 0)) hor 17 (numL x) (cL (⟨k',0,0,0,0,0,0,false,false,false,false,0,0,false,[],0,0,x,0,0,0,0,0,0,0,0,0,false⟩:CV) none 0) (by simp) rfl] at hK
  have H2:=Lib.hid (And.intro hP (And.intro hK (And.intro (show ZAt (setA cs o (cL (⟨k',0,0,0,0,0,0,false,false,false,false,0,0,false,[],0,0,x,0,0,0,0,0,0,0,0,0,false⟩:CV) none 0)) o (cL (⟨k',0,0,0,0,0,0,false,false,false,false,0,0,false,[],0,0,x,0,0,0,0,0,0,0,0,0,false⟩:CV) none 0) from zat_self hor) (And.intro hd (And.intro hl hf)))))
  clear hP hK hd hl hf HC2
  have HC3:=Lib.hid (rtruth B gp X2 t2 c2 od b (o+27) T (setA cs o (cL (⟨k',0,0,0,0,0,0,false,false,false,false,0,0,false,[],0,0,x,0,0,0,0,0,0,0,0,0,false⟩:CV) none 0)) w2 H2.out.1 H2.out.2.1 (zat_sub H2.out.2.2.1 27 [.bool false] rfl) H0.out.2.2.2.1 H0.out.2.2.2.2)
  go_wp2_with fail
  refine HC3.out.mono ?_
  rintro e w3 (⟨rfl,hd,hf⟩ | ⟨⟨r3,rfl⟩,X3,c3,t3,y,hd,hl,hP,hK,hf⟩)
  ·have HN:=Lib.hid (show (od=false→cmdDec t=none)∧FrR gp b w w3 from ⟨fun _=>by rw [HT.out,dec_well HI.out,show (pairC numC truthC).dec t1' = none from pairDec_none2 H2.out.2.2.2.1 hd];rfl,(H1.out.2.2.2.1.trans H2.out.2.2.2.2.2).trans hf⟩)
   clear hd hf HC3
   go_wp2_with fail
   exact ⟨rfl,Or.inl ⟨rfl,HN.out⟩⟩
  rw [setA_sub (zs:=(cL (⟨k',0,0,0,0,0,0,false,false,false,false,0,0,false,[],0,0,x,0,0,0,0,0,0,0,0,0,false⟩:CV) none 0)) hor 27 (truthL y) (cL (⟨k',0,0,0,0,0,0,false,false,false,false,0,0,false,[],0,0,x,0,0,0,0,0,0,0,0,0,y⟩:CV) none 0) (by simp) rfl] at hK
  have hdc:cmdDec t=some ((⟨k',0,0,0,0,0,0,false,false,false,false,0,0,false,[],0,0,x,0,0,0,0,0,0,0,0,0,y⟩:CV),t3):=by rw [HT.out,dec_well HI.out,show (pairC numC truthC).dec t1' = some ((x,y),t3) from pairDec_some H2.out.2.2.2.1 hd];rfl
  have HE:=Lib.hid (And.intro hP (And.intro hK (And.intro hdc (And.intro hl hf))))
  clear hP hK hd hdc hl hf HC3
  go_wp2_with fail
  go_end0
  exact Or.inr ⟨⟨_,rfl⟩,X3,c3,t3,od,_,_,HE.out.1,HE.out.2.1,cmdR_nil rfl,(H1.out.2.2.2.1.trans H2.out.2.2.2.2.2).trans HE.out.2.2.2.2,by have:=HE.out.2.2.2.1;have:=H2.out.2.2.2.2.1;rw [HT.out,List.length_cons];omega,fun e=>⟨e,HE.out.2.2.1⟩,fun e e0=>by (rw [e] at e0;cases e0)⟩
theorem rcmdN (B gp:Nat) (X:Option Addr) (t:Bs) (c:Nat) (od:Bool) (b o:Nat) (T:TypeId) (cs:Array Value) (w:World) (hP:PR B w gp X t c od) (hK:Blk w b T cs) (hz:ZAt cs o [.int .u8 0,.int .i64 0,.int .i64 0,.int .i64 0,.int .i64 0,.int .i64 0,.int .i64 0,.bool false,.bool false,.bool false,.bool false,.int .i64 0,.int .i64 0,.bool false,.slice none 0 0,.int .u8 0,.int .i64 0,.int .i64 0,.int .i64 0,.int .i64 0,.int .i64 0,.int .i64 0,.int .i64 0,.int .i64 0,.int .i64 0,.int .i64 0,.int .i64 0,.bool false]) (hb:B≤b) (hne:b≠gp) (t1:Bs) (k:Int) (hk:k=7∨k=10∨k=11∨k=12∨k=13∨k=14∨k=15) (ht:t=k :: t1) :
    Calls Try.prog 75 #[.pointer (some ⟨gp,0,none⟩),.pointer (some ⟨b,o,none⟩)] w fun e w' => ROut cmdR cmdDec B gp b T cs o t od w e w':=by
 have hor:o+28≤cs.size:=hz.size (by simp)
 rcases hk with hk | hk | hk | hk | hk | hk | hk
 all_goals
  have HKK:=Lib.hid hk
  clear hk
  have HS0:=Lib.hid (And.intro hP.lt hK.lt)
  have H0:=Lib.hid (And.intro hP (And.intro hK (And.intro hz (And.intro hb hne))))
  clear hP hK hz hb hne
  have HT:=Lib.hid ht
  have HC1:=Lib.hid (rbyte B gp X t c od b o T cs w H0.out.1 H0.out.2.1 (ZAt.left (zs:=[.int .u8 0]) (us:=[.int .i64 0,.int .i64 0,.int .i64 0,.int .i64 0,.int .i64 0,.int .i64 0,.bool false,.bool false,.bool false,.bool false,.int .i64 0,.int .i64 0,.bool false,.slice none 0 0,.int .u8 0,.int .i64 0,.int .i64 0,.int .i64 0,.int .i64 0,.int .i64 0,.int .i64 0,.int .i64 0,.int .i64 0,.int .i64 0,.int .i64 0,.int .i64 0,.bool false]) H0.out.2.2.1) H0.out.2.2.2.1 H0.out.2.2.2.2)
  clear ht
  go_enter Try.func75,Try.ntmps75
  go_wp2_with fail
  refine HC1.out.mono ?_
  rintro e w1 (⟨rfl,hd,hf⟩ | ⟨⟨r1,rfl⟩,X1,c1,t1',k',hd,hl,hP,hK,hf⟩)
  ·rw [HT.out] at hd;cases hd
  rw [HT.out] at hd
  obtain ⟨e1,e2⟩:k' = k∧t1' = t1:=by cases hd;exact ⟨rfl,rfl⟩
  subst e1 e2
  have kc:w1.cell? ⟨b,o,none⟩=some (.int .u8 k'):=by
   rw [hK.cell o,setA_get _ _ _ (by simp;omega),if_pos (by simp)];simp
  rw [HKK.out] at kc
  rw [setA_one0 H0.out.2.2.1 hor] at hK
  have H1:=Lib.hid (And.intro hP (And.intro hK (And.intro (show ZAt (setA cs o (cL (⟨k',0,0,0,0,0,0,false,false,false,false,0,0,false,[],0,0,0,0,0,0,0,0,0,0,0,0,false⟩:CV) none 0)) o (cL (⟨k',0,0,0,0,0,0,false,false,false,false,0,0,false,[],0,0,0,0,0,0,0,0,0,0,0,0,false⟩:CV) none 0) from zat_self hor) (And.intro hf hl))))
  clear hP hK hf hd hl HC1
  have HC2:=Lib.hid (rnum B gp X1 t1' c1 od b (o+26) T (setA cs o (cL (⟨k',0,0,0,0,0,0,false,false,false,false,0,0,false,[],0,0,0,0,0,0,0,0,0,0,0,0,false⟩:CV) none 0)) w1 H1.out.1 H1.out.2.1 (zat_sub H1.out.2.2.1 26 [.int .i64 0] rfl) H0.out.2.2.2.1 H0.out.2.2.2.2)
  have HI:=Lib.hid (show isN k' by have:=HKK.out;unfold isN;omega)
  go_wp2_with fail
  refine HC2.out.mono ?_
  rintro e w2 (⟨rfl,hd,hf⟩ | ⟨⟨r2,rfl⟩,X2,c2,t2,x,hd,hl,hP,hK,hf⟩)
  ·have HN:=Lib.hid (show (od=false→cmdDec t=none)∧FrR gp b w w2 from ⟨fun _=>by rw [HT.out,dec_n HI.out,show numC.dec t1' = none from hd];rfl,H1.out.2.2.2.1.trans hf⟩)
   clear hd hf HC2
   go_wp2_with fail
   exact ⟨rfl,Or.inl ⟨rfl,HN.out⟩⟩
  ·rw [setA_sub (zs:=(cL (⟨k',0,0,0,0,0,0,false,false,false,false,0,0,false,[],0,0,0,0,0,0,0,0,0,0,0,0,false⟩:CV) none 0)) hor 26 (numL x) (cL (⟨k',0,0,0,0,0,0,false,false,false,false,0,0,false,[],0,0,0,0,0,0,0,0,0,0,0,x,false⟩:CV) none 0) (by simp) rfl] at hK
   have hdc:cmdDec t=some ((⟨k',0,0,0,0,0,0,false,false,false,false,0,0,false,[],0,0,0,0,0,0,0,0,0,0,0,x,false⟩:CV),t2):=by rw [HT.out,dec_n HI.out,show numC.dec t1' = some (x,t2) from hd];rfl
   have HE:=Lib.hid (And.intro hP (And.intro hK (And.intro hdc (And.intro hl hf))))
   clear hP hK hd hdc hl hf HC2
   go_wp2_with fail
   go_end0
   exact Or.inr ⟨⟨_,rfl⟩,X2,c2,t2,od,_,_,HE.out.1,HE.out.2.1,cmdR_nil rfl,H1.out.2.2.2.1.trans HE.out.2.2.2.2,by have:=HE.out.2.2.2.1;rw [HT.out,List.length_cons];omega,fun e=>⟨e,HE.out.2.2.1⟩,fun e e0=>by (rw [e] at e0;cases e0)⟩
theorem rcmdZ (B gp:Nat) (X:Option Addr) (t:Bs) (c:Nat) (od:Bool) (b o:Nat) (T:TypeId) (cs:Array Value) (w:World) (hP:PR B w gp X t c od) (hK:Blk w b T cs) (hz:ZAt cs o [.int .u8 0,.int .i64 0,.int .i64 0,.int .i64 0,.int .i64 0,.int .i64 0,.int .i64 0,.bool false,.bool false,.bool false,.bool false,.int .i64 0,.int .i64 0,.bool false,.slice none 0 0,.int .u8 0,.int .i64 0,.int .i64 0,.int .i64 0,.int .i64 0,.int .i64 0,.int .i64 0,.int .i64 0,.int .i64 0,.int .i64 0,.int .i64 0,.int .i64 0,.bool false]) (hb:B≤b) (hne:b≠gp) (t1:Bs) (k:Int) (hkz:¬ (1≤k∧k≤15)) (ht:t=k :: t1) :
    Calls Try.prog 75 #[.pointer (some ⟨gp,0,none⟩),.pointer (some ⟨b,o,none⟩)] w fun e w' => ROut cmdR cmdDec B gp b T cs o t od w e w':=by
 have hor:o+28≤cs.size:=hz.size (by simp)
 have HS0:=Lib.hid (And.intro hP.lt hK.lt)
 have H0:=Lib.hid (And.intro hP (And.intro hK (And.intro hz (And.intro hb hne))))
 clear hP hK hz hb hne
 have HT:=Lib.hid ht
 have HC1:=Lib.hid (rbyte B gp X t c od b o T cs w H0.out.1 H0.out.2.1 (ZAt.left (zs:=[.int .u8 0]) (us:=[.int .i64 0,.int .i64 0,.int .i64 0,.int .i64 0,.int .i64 0,.int .i64 0,.bool false,.bool false,.bool false,.bool false,.int .i64 0,.int .i64 0,.bool false,.slice none 0 0,.int .u8 0,.int .i64 0,.int .i64 0,.int .i64 0,.int .i64 0,.int .i64 0,.int .i64 0,.int .i64 0,.int .i64 0,.int .i64 0,.int .i64 0,.int .i64 0,.bool false]) H0.out.2.2.1) H0.out.2.2.2.1 H0.out.2.2.2.2)
 clear ht
 go_enter Try.func75,Try.ntmps75
 go_wp2_with fail
 refine HC1.out.mono ?_
 rintro e w1 (⟨rfl,hd,hf⟩ | ⟨⟨r1,rfl⟩,X1,c1,t1',k',hd,hl,hP,hK,hf⟩)
 ·rw [HT.out] at hd;cases hd
 rw [HT.out] at hd
 obtain ⟨e1,e2⟩:k' = k∧t1' = t1:=by cases hd;exact ⟨rfl,rfl⟩
 subst e1 e2
 have kc:w1.cell? ⟨b,o,none⟩=some (.int .u8 k'):=by
  rw [hK.cell o,setA_get _ _ _ (by simp;omega),if_pos (by simp)];simp
 rw [setA_one0 H0.out.2.2.1 hor] at hK
 have H1:=Lib.hid (And.intro hP (And.intro hK (And.intro (show ZAt (setA cs o (cL (⟨k',0,0,0,0,0,0,false,false,false,false,0,0,false,[],0,0,0,0,0,0,0,0,0,0,0,0,false⟩:CV) none 0)) o (cL (⟨k',0,0,0,0,0,0,false,false,false,false,0,0,false,[],0,0,0,0,0,0,0,0,0,0,0,0,false⟩:CV) none 0) from zat_self hor) (And.intro hf hl))))
 clear hP hK hf hd hl HC1
 have KK:=Lib.hid hkz
 clear hkz
 have po:w1.cell? ⟨gp,2,none⟩=some (.bool od):=H1.out.1.blk.cell 2
 have pf:=H1.out.1.blk.frozen 2
 have ne1:(k' == 1)=false:=by rw [beq_eq_false_iff_ne];have:=KK.out;omega
 have ne2:(k' == 2)=false:=by rw [beq_eq_false_iff_ne];have:=KK.out;omega
 have ne3:(k' == 3)=false:=by rw [beq_eq_false_iff_ne];have:=KK.out;omega
 have ne4:(k' == 4)=false:=by rw [beq_eq_false_iff_ne];have:=KK.out;omega
 have ne5:(k' == 5)=false:=by rw [beq_eq_false_iff_ne];have:=KK.out;omega
 have ne6:(k' == 6)=false:=by rw [beq_eq_false_iff_ne];have:=KK.out;omega
 have ne7:(k' == 7)=false:=by rw [beq_eq_false_iff_ne];have:=KK.out;omega
 have ne8:(k' == 8)=false:=by rw [beq_eq_false_iff_ne];have:=KK.out;omega
 have ne9:(k' == 9)=false:=by rw [beq_eq_false_iff_ne];have:=KK.out;omega
 have ne10:(k' == 10)=false:=by rw [beq_eq_false_iff_ne];have:=KK.out;omega
 have ne11:(k' == 11)=false:=by rw [beq_eq_false_iff_ne];have:=KK.out;omega
 have ne12:(k' == 12)=false:=by rw [beq_eq_false_iff_ne];have:=KK.out;omega
 have ne13:(k' == 13)=false:=by rw [beq_eq_false_iff_ne];have:=KK.out;omega
 have ne14:(k' == 14)=false:=by rw [beq_eq_false_iff_ne];have:=KK.out;omega
 have ne15:(k' == 15)=false:=by rw [beq_eq_false_iff_ne];have:=KK.out;omega
 go_wp2_with fail
 go_end0
 exact Or.inr ⟨⟨_,rfl⟩,X1,c1,_,true,_,_,H1.out.1.odd true,H1.out.2.1.far (p:=⟨gp,2,none⟩) H0.out.2.2.2.2 _,cmdR_nil rfl,H1.out.2.2.2.1.set_ (.inl rfl) _,by rw [HT.out,List.length_cons];omega,fun e=>by (cases e),fun _ _=>by rw [HT.out];exact dec_z KK.out⟩
theorem rcommand (B gp:Nat) (X:Option Addr) (t:Bs) (c:Nat) (od:Bool) (b o:Nat) (T:TypeId) (cs:Array Value) (w:World) (hP:PR B w gp X t c od) (hK:Blk w b T cs) (hz:ZAt cs o [.int .u8 0,.int .i64 0,.int .i64 0,.int .i64 0,.int .i64 0,.int .i64 0,.int .i64 0,.bool false,.bool false,.bool false,.bool false,.int .i64 0,.int .i64 0,.bool false,.slice none 0 0,.int .u8 0,.int .i64 0,.int .i64 0,.int .i64 0,.int .i64 0,.int .i64 0,.int .i64 0,.int .i64 0,.int .i64 0,.int .i64 0,.int .i64 0,.int .i64 0,.bool false]) (hb:B≤b) (hne:b≠gp):Calls Try.prog 75 #[.pointer (some ⟨gp,0,none⟩),.pointer (some ⟨b,o,none⟩)] w fun e w' => ROut cmdR cmdDec B gp b T cs o t od w e w':=by
 match t,hP with
 | [],hP =>
  have H0:=Lib.hid (And.intro hP (And.intro hK (And.intro hz (And.intro hb hne))))
  have HC1:=Lib.hid (rbyte B gp X [] c od b o T cs w hP hK (ZAt.left (zs:=[.int .u8 0]) (us:=[.int .i64 0,.int .i64 0,.int .i64 0,.int .i64 0,.int .i64 0,.int .i64 0,.bool false,.bool false,.bool false,.bool false,.int .i64 0,.int .i64 0,.bool false,.slice none 0 0,.int .u8 0,.int .i64 0,.int .i64 0,.int .i64 0,.int .i64 0,.int .i64 0,.int .i64 0,.int .i64 0,.int .i64 0,.int .i64 0,.int .i64 0,.int .i64 0,.bool false]) hz) hb hne)
  clear hP hK hz hb hne
  go_enter Try.func75,Try.ntmps75
  go_wp2_with fail
  refine HC1.out.mono ?_
  rintro e w1 (⟨rfl,hd,hf⟩ | ⟨⟨r1,rfl⟩,X1,c1,t1,k,hd,hl,hP,hK,hf⟩)
  ·have HN:=Lib.hid hf
   clear hd hf HC1
   go_wp2_with fail
   exact ⟨rfl,Or.inl ⟨rfl,fun _=>rfl,HN.out⟩⟩
  ·cases hd
 | k :: t1,hP =>
  by_cases hk:1≤k∧k≤15
  ·by_cases hJ:k=1
   ·exact rcmdJob B gp X _ c od b o T cs w hP hK hz hb hne t1 k hJ rfl
   by_cases hI:k=2∨k=3∨k=4∨k=6
   ·exact rcmdId B gp X _ c od b o T cs w hP hK hz hb hne t1 k hI rfl
   by_cases hK2:k=5
   ·exact rcmdKeep B gp X _ c od b o T cs w hP hK hz hb hne t1 k hK2 rfl
   by_cases hW:k=8∨k=9
   ·exact rcmdWell B gp X _ c od b o T cs w hP hK hz hb hne t1 k hW rfl
   exact rcmdN B gp X _ c od b o T cs w hP hK hz hb hne t1 k (by omega) rfl
  ·exact rcmdZ B gp X _ c od b o T cs w hP hK hz hb hne t1 k hk rfl
end Go.Proofs.Ytfdldbfjeamlcaa.RecRCmd
