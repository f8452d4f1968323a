/- Several texts joined: rec.port: what a job is asked for by, commands, records of commands, where it writes. -/
import Derived.BigQuiet
import Derived.Deep.QuietTactic
import Derived.Lib.QuietBelow
import Derived.Lib.SliceRun
import Derived.Test.YtfdldbfjeamlcaaPG1
set_option linter.unusedVariables false
set_option linter.unusedSimpArgs false
namespace Go.Proofs.Ytfdldbfjeamlcaa.RecCmd
set_option maxRecDepth 100000
set_option maxHeartbeats 2000000
open Go.RowKit Mem RecMem RecByte RecNum RecEach RecMath RecPort
def RB (w:World) (g:Nat) (c:CV) (Y:Option Addr) (cy:Nat):Prop:=Blk w g 51 (recA c Y cy)
theorem RB.fz {w:World} {g:Nat} {c:CV} {Y:Option Addr} {cy:Nat} (h:RB w g c Y cy) (i:Nat):w.frozen? ⟨g,i,none⟩=false:=Blk.frozen h i
theorem RB.fr {gp g:Nat} {v v':Value} {w w':World} {c:CV} {Y:Option Addr} {cy:Nat} (h:RB w g c Y cy) (hf:Fr gp v w v' w') (hF:Far gp v w g):RB w' g c Y cy:=hf.blk hF h
theorem RB.c17 {w:World} {g:Nat} {c:CV} {Y:Option Addr} {cy:Nat} (h:RB w g c Y cy):w.cell? ⟨g,17,none⟩=some (.int .u8 c.kd):=Blk.cell h 17
theorem RB.c19 {w:World} {g:Nat} {c:CV} {Y:Option Addr} {cy:Nat} (h:RB w g c Y cy):w.cell? ⟨g,19,none⟩=some (.int .i64 c.us):=Blk.cell h 19
theorem RB.c20 {w:World} {g:Nat} {c:CV} {Y:Option Addr} {cy:Nat} (h:RB w g c Y cy):w.cell? ⟨g,20,none⟩=some (.int .i64 c.cl):=Blk.cell h 20
theorem RB.c28 {w:World} {g:Nat} {c:CV} {Y:Option Addr} {cy:Nat} (h:RB w g c Y cy):w.cell? ⟨g,28,none⟩=some (.int .i64 c.wa):=Blk.cell h 28
theorem RB.c29 {w:World} {g:Nat} {c:CV} {Y:Option Addr} {cy:Nat} (h:RB w g c Y cy):w.cell? ⟨g,29,none⟩=some (.int .i64 c.pr):=Blk.cell h 29
theorem RB.c30 {w:World} {g:Nat} {c:CV} {Y:Option Addr} {cy:Nat} (h:RB w g c Y cy):w.cell? ⟨g,30,none⟩=some (.bool c.he):=Blk.cell h 30
theorem RB.c31 {w:World} {g:Nat} {c:CV} {Y:Option Addr} {cy:Nat} (h:RB w g c Y cy):w.cell? ⟨g,31,none⟩=some (.slice Y c.af.length cy):=Blk.cell h 31
theorem RB.c34 {w:World} {g:Nat} {c:CV} {Y:Option Addr} {cy:Nat} (h:RB w g c Y cy):w.cell? ⟨g,34,none⟩=some (.int .i64 c.ci):=Blk.cell h 34
theorem RB.c43 {w:World} {g:Nat} {c:CV} {Y:Option Addr} {cy:Nat} (h:RB w g c Y cy):w.cell? ⟨g,43,none⟩=some (.int .i64 c.n):=Blk.cell h 43
theorem RB.c44 {w:World} {g:Nat} {c:CV} {Y:Option Addr} {cy:Nat} (h:RB w g c Y cy):w.cell? ⟨g,44,none⟩=some (.bool c.we):=Blk.cell h 44
theorem RB.c0 {w:World} {g:Nat} {c:CV} {Y:Option Addr} {cy:Nat} (h:RB w g c Y cy):w.cell? ⟨g,0,none⟩=some (.int .i64 0):=Blk.cell h 0
theorem RB.n21 {w:World} {g:Nat} {c:CV} {Y:Option Addr} {cy:Nat} (h:RB w g c Y cy) (hw:CWf c):NumsAt w g 21 [c.a,c.b,c.c]:=NumsAt.blk h (fun i n h=>by match i with | 0=>cases h;exact rfl | 1=>cases h;exact rfl | 2=>cases h;exact rfl | i+3=>simp at h) (fun n hn=>by simp only [List.mem_cons,List.not_mem_nil,or_false] at hn;rcases hn with rfl | rfl | rfl <;> exact hw.1 _ (by simp))
theorem RB.t24 {w:World} {g:Nat} {c:CV} {Y:Option Addr} {cy:Nat} (h:RB w g c Y cy):TruthsAt w g 24 [c.p,c.q,c.r]:=TruthsAt.blk h (fun i n h=>by match i with | 0=>cases h;exact rfl | 1=>cases h;exact rfl | 2=>cases h;exact rfl | i+3=>simp at h)
theorem RB.t27 {w:World} {g:Nat} {c:CV} {Y:Option Addr} {cy:Nat} (h:RB w g c Y cy):TruthsAt w g 27 [c.tn]:=TruthsAt.blk h (fun i n h=>by match i with | 0=>cases h;exact rfl | i+1=>simp at h)
theorem RB.n35 {w:World} {g:Nat} {c:CV} {Y:Option Addr} {cy:Nat} (h:RB w g c Y cy) (hw:CWf c):NumsAt w g 35 [c.b0,c.b1,c.b2,c.b3,c.b4,c.b5]:=NumsAt.blk h (fun i n h=>by match i with | 0=>cases h;exact rfl | 1=>cases h;exact rfl | 2=>cases h;exact rfl | 3=>cases h;exact rfl | 4=>cases h;exact rfl | 5=>cases h;exact rfl | i+6=>simp at h) (fun n hn=>by simp only [List.mem_cons,List.not_mem_nil,or_false] at hn;rcases hn with rfl | rfl | rfl | rfl | rfl | rfl <;> exact hw.1 _ (by simp))
theorem RB.n41 {w:World} {g:Nat} {c:CV} {Y:Option Addr} {cy:Nat} (h:RB w g c Y cy) (hw:CWf c):NumsAt w g 41 [c.fr,c.to]:=NumsAt.blk h (fun i n h=>by match i with | 0=>cases h;exact rfl | 1=>cases h;exact rfl | i+2=>simp at h) (fun n hn=>by simp only [List.mem_cons,List.not_mem_nil,or_false] at hn;rcases hn with rfl | rfl <;> exact hw.1 _ (by simp))
theorem wasked (gp g:Nat) (v:Value) (t:List Int) (od:Bool) (c:CV) (Y:Option Addr) (cy:Nat) (hl:t.length≤700000000) (hcy:c.af.length≤cy) (hn:c.af.length≤1000) (hw:CWf c) (w:World) (hP:PW w gp v t od) (hK:RB w g c Y cy) (hF:Far gp v w g) (hI:IntsFar gp v w Y c.af) :
    Calls Try.prog 103 #[.pointer (some ⟨gp,0,none⟩),.pointer (some ⟨g,18,none⟩)] w fun e w' => (∃ r,e = .returned r)∧∃ v',PW w' gp v' (t ++ askB c) od∧Fr gp v w v' w':=by
 have H0:=Lib.hid (And.intro hP (And.intro (Fr.refl gp v w) (And.intro hK (And.intro hF hI))))
 have CW:=Lib.hid hw
 clear hP hK hF hI hw
 go_enter Try.func103,Try.ntmps103
 have HC1:=Lib.hid (wnum gp v (t) od g 19 c.us (CW.out.1 _ (by simp)) (by (try simp only [List.length_append,nB_len,numsB_len,List.length_cons,List.length_nil]);omega) w H0.out.1 (RB.c19 (H0.out.2.2.1)) (RB.fz (H0.out.2.2.1) 19) H0.out.2.2.2.1)
 go_wp2_with fail
 refine HC1.out.mono ?_
 rintro e w1 ⟨⟨r1,rfl⟩,v1,hP1,hF1⟩
 have H1:=Lib.hid (And.intro hP1 (And.intro (H0.out.2.1.trans hF1) (And.intro (RB.fr H0.out.2.2.1 hF1 H0.out.2.2.2.1) (And.intro (hF1.far H0.out.2.2.2.1) (IntsFar.fr H0.out.2.2.2.2 hF1)))))
 clear hP1 hF1 HC1 H0
 have HC2:=Lib.hid (wnum gp v1 (t ++ nB c.us) od g 20 c.cl (CW.out.1 _ (by simp)) (by (try simp only [List.length_append,nB_len,numsB_len,List.length_cons,List.length_nil]);omega) w1 H1.out.1 (RB.c20 (H1.out.2.2.1)) (RB.fz (H1.out.2.2.1) 20) H1.out.2.2.2.1)
 go_wp2_with fail
 refine HC2.out.mono ?_
 rintro e w2 ⟨⟨r2,rfl⟩,v2,hP2,hF2⟩
 have H2:=Lib.hid (And.intro hP2 (And.intro (H1.out.2.1.trans hF2) (And.intro (RB.fr H1.out.2.2.1 hF2 H1.out.2.2.2.1) (And.intro (hF2.far H1.out.2.2.2.1) (IntsFar.fr H1.out.2.2.2.2 hF2)))))
 clear hP2 hF2 HC2 H1
 have HC3:=Lib.hid (wwants gp v2 (t ++ nB c.us ++ nB c.cl) od g 21 c.a c.b c.c c.p c.q c.r c.tn (by (try simp only [List.length_append,nB_len,numsB_len,List.length_cons,List.length_nil]);omega) w2 H2.out.1 (RB.n21 (H2.out.2.2.1) CW.out) (RB.t24 (H2.out.2.2.1)) (RB.t27 (H2.out.2.2.1)) H2.out.2.2.2.1)
 go_wp2_with fail
 refine HC3.out.mono ?_
 rintro e w3 ⟨⟨r3,rfl⟩,v3,hP3,hF3⟩
 have H3:=Lib.hid (And.intro hP3 (And.intro (H2.out.2.1.trans hF3) (And.intro (RB.fr H2.out.2.2.1 hF3 H2.out.2.2.2.1) (And.intro (hF3.far H2.out.2.2.2.1) (IntsFar.fr H2.out.2.2.2.2 hF3)))))
 clear hP3 hF3 HC3 H2
 have HC4:=Lib.hid (wnum gp v3 (t ++ nB c.us ++ nB c.cl ++ (numsB [c.a,c.b,c.c] ++ ([tB c.p,tB c.q,tB c.r] ++ [tB c.tn]))) od g 28 c.wa (CW.out.1 _ (by simp)) (by (try simp only [List.length_append,nB_len,numsB_len,List.length_cons,List.length_nil]);omega) w3 H3.out.1 (RB.c28 (H3.out.2.2.1)) (RB.fz (H3.out.2.2.1) 28) H3.out.2.2.2.1)
 go_wp2_with fail
 refine HC4.out.mono ?_
 rintro e w4 ⟨⟨r4,rfl⟩,v4,hP4,hF4⟩
 have H4:=Lib.hid (And.intro hP4 (And.intro (H3.out.2.1.trans hF4) (And.intro (RB.fr H3.out.2.2.1 hF4 H3.out.2.2.2.1) (And.intro (hF4.far H3.out.2.2.2.1) (IntsFar.fr H3.out.2.2.2.2 hF4)))))
 clear hP4 hF4 HC4 H3
 have HC5:=Lib.hid (wnum gp v4 (t ++ nB c.us ++ nB c.cl ++ (numsB [c.a,c.b,c.c] ++ ([tB c.p,tB c.q,tB c.r] ++ [tB c.tn])) ++ nB c.wa) od g 29 c.pr (CW.out.1 _ (by simp)) (by (try simp only [List.length_append,nB_len,numsB_len,List.length_cons,List.length_nil]);omega) w4 H4.out.1 (RB.c29 (H4.out.2.2.1)) (RB.fz (H4.out.2.2.1) 29) H4.out.2.2.2.1)
 go_wp2_with fail
 refine HC5.out.mono ?_
 rintro e w5 ⟨⟨r5,rfl⟩,v5,hP5,hF5⟩
 have H5:=Lib.hid (And.intro hP5 (And.intro (H4.out.2.1.trans hF5) (And.intro (RB.fr H4.out.2.2.1 hF5 H4.out.2.2.2.1) (And.intro (hF5.far H4.out.2.2.2.1) (IntsFar.fr H4.out.2.2.2.2 hF5)))))
 clear hP5 hF5 HC5 H4
 have HC6:=Lib.hid (wtruth gp v5 (t ++ nB c.us ++ nB c.cl ++ (numsB [c.a,c.b,c.c] ++ ([tB c.p,tB c.q,tB c.r] ++ [tB c.tn])) ++ nB c.wa ++ nB c.pr) od g 30 c.he (by (try simp only [List.length_append,nB_len,numsB_len,List.length_cons,List.length_nil]);omega) w5 H5.out.1 (RB.c30 (H5.out.2.2.1)) (RB.fz (H5.out.2.2.1) 30) H5.out.2.2.2.1)
 go_wp2_with fail
 refine HC6.out.mono ?_
 rintro e w6 ⟨⟨r6,rfl⟩,v6,hP6,hF6⟩
 have H6:=Lib.hid (And.intro hP6 (And.intro (H5.out.2.1.trans hF6) (And.intro (RB.fr H5.out.2.2.1 hF6 H5.out.2.2.2.1) (And.intro (hF6.far H5.out.2.2.2.1) (IntsFar.fr H5.out.2.2.2.2 hF6)))))
 clear hP6 hF6 HC6 H5
 have HC7:=Lib.hid (wlist gp v6 (t ++ nB c.us ++ nB c.cl ++ (numsB [c.a,c.b,c.c] ++ ([tB c.p,tB c.q,tB c.r] ++ [tB c.tn])) ++ nB c.wa ++ nB c.pr ++ [tB c.he]) od g 31 Y cy c.af hcy hn (by (try simp only [List.length_append,nB_len,numsB_len,List.length_cons,List.length_nil]);omega) w6 H6.out.1 (RB.c31 (H6.out.2.2.1)) H6.out.2.2.2.1 H6.out.2.2.2.2 CW.out.2)
 go_wp2_with fail
 refine HC7.out.mono ?_
 rintro e w7 ⟨⟨r7,rfl⟩,v7,hP7,hF7⟩
 have H7:=Lib.hid (And.intro hP7 (And.intro (H6.out.2.1.trans hF7) (And.intro (RB.fr H6.out.2.2.1 hF7 H6.out.2.2.2.1) (And.intro (hF7.far H6.out.2.2.2.1) (IntsFar.fr H6.out.2.2.2.2 hF7)))))
 clear hP7 hF7 HC7 H6
 go_wp2_with fail
 go_end0
 refine ⟨⟨_,rfl⟩,v7,?_,H7.out.2.1⟩
 have:=H7.out.1
 rwa [show t ++ nB c.us ++ nB c.cl ++ (numsB [c.a,c.b,c.c] ++ ([tB c.p,tB c.q,tB c.r] ++ [tB c.tn])) ++ nB c.wa ++ nB c.pr ++ [tB c.he] ++ (nB (c.af.length:Int) ++ numsB c.af)=t ++ askB c from by simp [askB]] at this
theorem PW.odd {w:World} {gp:Nat} {v:Value} {t:List Int} {od:Bool} (h:PW w gp v t od) (b:Bool):PW (w.setCell ⟨gp,2,none⟩ (.bool b)) gp v t b:=⟨h.1.set_ 2 _,Go.ownsRow_setCell_other h.2.1 (a:=⟨gp,2,none⟩) h.2.2 _,h.2.2⟩
theorem wcmdJ (gp g:Nat) (v:Value) (t:List Int) (od:Bool) (c:CV) (Y:Option Addr) (cy:Nat) (hl:t.length≤600000000) (hk:c.kd=1) (hcy:c.af.length≤cy) (hn:c.af.length≤1000) (hw:CWf c) (w:World) (hP:PW w gp v t od) (hK:RB w g c Y cy) (hF:Far gp v w g) (hI:IntsFar gp v w Y c.af) :
    Calls Try.prog 75 #[.pointer (some ⟨gp,0,none⟩),.pointer (some ⟨g,17,none⟩)] w fun e w' => (∃ r,e = .returned r)∧∃ v',PW w' gp v' (t ++ cmdB c) od∧Fr gp v w v' w':=by
 have H0:=Lib.hid (And.intro hP (And.intro (Fr.refl gp v w) (And.intro hK (And.intro hF hI))))
 have CW:=Lib.hid hw
 clear hP hK hF hI hw
 have KK:=Lib.hid hk
 clear hk
 go_enter Try.func75,Try.ntmps75
 have HC1:=Lib.hid (wbyte gp v (t) od g 17 c.kd (by (try simp only [List.length_append,nB_len,numsB_len,List.length_cons,List.length_nil]);omega) w H0.out.1 (RB.c17 (H0.out.2.2.1)))
 go_wp2_with fail
 refine HC1.out.mono ?_
 rintro e w1 ⟨⟨r1,rfl⟩,v1,hP1,hF1⟩
 have H1:=Lib.hid (And.intro hP1 (And.intro (H0.out.2.1.trans hF1) (And.intro (RB.fr H0.out.2.2.1 hF1 H0.out.2.2.2.1) (And.intro (hF1.far H0.out.2.2.2.1) (IntsFar.fr H0.out.2.2.2.2 hF1)))))
 clear hP1 hF1 HC1 H0
 have hk:=KK.out
 have kc:w1.cell? ⟨g,17,none⟩=some (.int .u8 c.kd):=RB.c17 H1.out.2.2.1
 have HC2:=Lib.hid (wasked gp g v1 (t ++ [c.kd]) od c Y cy (by (try simp only [List.length_append,nB_len,numsB_len,List.length_cons,List.length_nil]);omega) hcy hn CW.out w1 H1.out.1 H1.out.2.2.1 H1.out.2.2.2.1 H1.out.2.2.2.2)
 go_wp2_with fail
 refine HC2.out.mono ?_
 rintro e w2 ⟨⟨r2,rfl⟩,v2,hP2,hF2⟩
 have H2:=Lib.hid (And.intro hP2 (And.intro (H1.out.2.1.trans hF2) (And.intro (RB.fr H1.out.2.2.1 hF2 H1.out.2.2.2.1) (And.intro (hF2.far H1.out.2.2.2.1) (IntsFar.fr H1.out.2.2.2.2 hF2)))))
 clear hP2 hF2 HC2 H1
 clear kc
 go_wp2_with fail
 go_end0
 refine ⟨⟨_,rfl⟩,v2,?_,H2.out.2.1⟩
 have this:PW w2 gp v2 (t ++ [c.kd] ++ askB c) od:=H2.out.1
 rwa [show t ++ [c.kd] ++ askB c=t ++ cmdB c from by simp [cmdB,show isJob c.kd from KK.out]] at this
theorem wcmdI (gp g:Nat) (v:Value) (t:List Int) (od:Bool) (c:CV) (Y:Option Addr) (cy:Nat) (hl:t.length≤600000000) (hk:c.kd=2∨c.kd=3∨c.kd=4∨c.kd=6) (hcy:c.af.length≤cy) (hn:c.af.length≤1000) (hw:CWf c) (w:World) (hP:PW w gp v t od) (hK:RB w g c Y cy) (hF:Far gp v w g) (hI:IntsFar gp v w Y c.af) :
    Calls Try.prog 75 #[.pointer (some ⟨gp,0,none⟩),.pointer (some ⟨g,17,none⟩)] w fun e w' => (∃ r,e = .returned r)∧∃ v',PW w' gp v' (t ++ cmdB c) od∧Fr gp v w v' w':=by
 rcases hk with hk | hk | hk | hk
 all_goals
  have H0:=Lib.hid (And.intro hP (And.intro (Fr.refl gp v w) (And.intro hK (And.intro hF hI))))
  have CW:=Lib.hid hw
  clear hP hK hF hI hw
  have KK:=Lib.hid hk
  clear hk
  go_enter Try.func75,Try.ntmps75
  have HC1:=Lib.hid (wbyte gp v (t) od g 17 c.kd (by (try simp only [List.length_append,nB_len,numsB_len,List.length_cons,List.length_nil]);omega) w H0.out.1 (RB.c17 (H0.out.2.2.1)))
  go_wp2_with fail
  refine HC1.out.mono ?_
  rintro e w1 ⟨⟨r1,rfl⟩,v1,hP1,hF1⟩
  have H1:=Lib.hid (And.intro hP1 (And.intro (H0.out.2.1.trans hF1) (And.intro (RB.fr H0.out.2.2.1 hF1 H0.out.2.2.2.1) (And.intro (hF1.far H0.out.2.2.2.1) (IntsFar.fr H0.out.2.2.2.2 hF1)))))
  clear hP1 hF1 HC1 H0
  have hk:=KK.out
  have kc:w1.cell? ⟨g,17,none⟩=some (.int .u8 c.kd):=RB.c17 H1.out.2.2.1
  have HC2:=Lib.hid (wnum gp v1 (t ++ [c.kd]) od g 34 c.ci (CW.out.1 _ (by simp)) (by (try simp only [List.length_append,nB_len,numsB_len,List.length_cons,List.length_nil]);omega) w1 H1.out.1 (RB.c34 (H1.out.2.2.1)) (RB.fz (H1.out.2.2.1) 34) H1.out.2.2.2.1)
  go_wp2_with fail
  refine HC2.out.mono ?_
  rintro e w2 ⟨⟨r2,rfl⟩,v2,hP2,hF2⟩
  have H2:=Lib.hid (And.intro hP2 (And.intro (H1.out.2.1.trans hF2) (And.intro (RB.fr H1.out.2.2.1 hF2 H1.out.2.2.2.1) (And.intro (hF2.far H1.out.2.2.2.1) (IntsFar.fr H1.out.2.2.2.2 hF2)))))
  clear hP2 hF2 HC2 H1
  clear kc
  go_wp2_with fail
  go_end0
  refine ⟨⟨_,rfl⟩,v2,?_,H2.out.2.1⟩
  have this:PW w2 gp v2 (t ++ [c.kd] ++ nB c.ci) od:=H2.out.1
  rwa [show t ++ [c.kd] ++ nB c.ci=t ++ cmdB c from by simp [cmdB,show ¬ isJob c.kd from by unfold isJob;have:=KK.out;omega,show isId c.kd from by unfold isId;have:=KK.out;omega]] at this
theorem wcmdK (gp g:Nat) (v:Value) (t:List Int) (od:Bool) (c:CV) (Y:Option Addr) (cy:Nat) (hl:t.length≤600000000) (hk:c.kd=5) (hcy:c.af.length≤cy) (hn:c.af.length≤1000) (hw:CWf c) (w:World) (hP:PW w gp v t od) (hK:RB w g c Y cy) (hF:Far gp v w g) (hI:IntsFar gp v w Y c.af) :
    Calls Try.prog 75 #[.pointer (some ⟨gp,0,none⟩),.pointer (some ⟨g,17,none⟩)] w fun e w' => (∃ r,e = .returned r)∧∃ v',PW w' gp v' (t ++ cmdB c) od∧Fr gp v w v' w':=by
 have H0:=Lib.hid (And.intro hP (And.intro (Fr.refl gp v w) (And.intro hK (And.intro hF hI))))
 have CW:=Lib.hid hw
 clear hP hK hF hI hw
 have KK:=Lib.hid hk
 clear hk
 go_enter Try.func75,Try.ntmps75
 have HC1:=Lib.hid (wbyte gp v (t) od g 17 c.kd (by (try simp only [List.length_append,nB_len,numsB_len,List.length_cons,List.length_nil]);omega) w H0.out.1 (RB.c17 (H0.out.2.2.1)))
 go_wp2_with fail
 refine HC1.out.mono ?_
 rintro e w1 ⟨⟨r1,rfl⟩,v1,hP1,hF1⟩
 have H1:=Lib.hid (And.intro hP1 (And.intro (H0.out.2.1.trans hF1) (And.intro (RB.fr H0.out.2.2.1 hF1 H0.out.2.2.2.1) (And.intro (hF1.far H0.out.2.2.2.1) (IntsFar.fr H0.out.2.2.2.2 hF1)))))
 clear hP1 hF1 HC1 H0
 have hk:=KK.out
 have kc:w1.cell? ⟨g,17,none⟩=some (.int .u8 c.kd):=RB.c17 H1.out.2.2.1
 have HC2:=Lib.hid (wbox gp v1 (t ++ [c.kd]) od g 35 c.b0 c.b1 c.b2 c.b3 c.b4 c.b5 (by (try simp only [List.length_append,nB_len,numsB_len,List.length_cons,List.length_nil]);omega) w1 H1.out.1 (RB.n35 (H1.out.2.2.1) CW.out) H1.out.2.2.2.1)
 go_wp2_with fail
 refine HC2.out.mono ?_
 rintro e w2 ⟨⟨r2,rfl⟩,v2,hP2,hF2⟩
 have H2:=Lib.hid (And.intro hP2 (And.intro (H1.out.2.1.trans hF2) (And.intro (RB.fr H1.out.2.2.1 hF2 H1.out.2.2.2.1) (And.intro (hF2.far H1.out.2.2.2.1) (IntsFar.fr H1.out.2.2.2.2 hF2)))))
 clear hP2 hF2 HC2 H1
 clear kc
 have HC3:=Lib.hid (wspan gp v2 (t ++ [c.kd] ++ numsB [c.b0,c.b1,c.b2,c.b3,c.b4,c.b5]) od g 41 c.fr c.to (by (try simp only [List.length_append,nB_len,numsB_len,List.length_cons,List.length_nil]);omega) w2 H2.out.1 (RB.n41 (H2.out.2.2.1) CW.out) H2.out.2.2.2.1)
 go_wp2_with fail
 refine HC3.out.mono ?_
 rintro e w3 ⟨⟨r3,rfl⟩,v3,hP3,hF3⟩
 have H3:=Lib.hid (And.intro hP3 (And.intro (H2.out.2.1.trans hF3) (And.intro (RB.fr H2.out.2.2.1 hF3 H2.out.2.2.2.1) (And.intro (hF3.far H2.out.2.2.2.1) (IntsFar.fr H2.out.2.2.2.2 hF3)))))
 clear hP3 hF3 HC3 H2
 go_wp2_with fail
 go_end0
 refine ⟨⟨_,rfl⟩,v3,?_,H3.out.2.1⟩
 have this:PW w3 gp v3 (t ++ [c.kd] ++ numsB [c.b0,c.b1,c.b2,c.b3,c.b4,c.b5] ++ (nB c.fr ++ nB c.to)) od:=H3.out.1
 rwa [show t ++ [c.kd] ++ numsB [c.b0,c.b1,c.b2,c.b3,c.b4,c.b5] ++ (nB c.fr ++ nB c.to)=t ++ cmdB c from by simp [cmdB,show ¬ isJob c.kd from by unfold isJob;have:=KK.out;omega,show ¬ isId c.kd from by unfold isId;have:=KK.out;omega,show isKeep c.kd from by unfold isKeep;have:=KK.out;omega]] at this
theorem wcmdW (gp g:Nat) (v:Value) (t:List Int) (od:Bool) (c:CV) (Y:Option Addr) (cy:Nat) (hl:t.length≤600000000) (hk:c.kd=8∨c.kd=9) (hcy:c.af.length≤cy) (hn:c.af.length≤1000) (hw:CWf c) (w:World) (hP:PW w gp v t od) (hK:RB w g c Y cy) (hF:Far gp v w g) (hI:IntsFar gp v w Y c.af) :
    Calls Try.prog 75 #[.pointer (some ⟨gp,0,none⟩),.pointer (some ⟨g,17,none⟩)] w fun e w' => (∃ r,e = .returned r)∧∃ v',PW w' gp v' (t ++ cmdB c) od∧Fr gp v w v' w':=by
 rcases hk with hk | hk
 all_goals
  have H0:=Lib.hid (And.intro hP (And.intro (Fr.refl gp v w) (And.intro hK (And.intro hF hI))))
  have CW:=Lib.hid hw
  clear hP hK hF hI hw
  have KK:=Lib.hid hk
  clear hk
  go_enter Try.func75,Try.ntmps75
  have HC1:=Lib.hid (wbyte gp v (t) od g 17 c.kd (by (try simp only [List.length_append,nB_len,numsB_len,List.length_cons,List.length_nil]);omega) w H0.out.1 (RB.c17 (H0.out.2.2.1)))
  go_wp2_with fail
  refine HC1.out.mono ?_
  rintro e w1 ⟨⟨r1,rfl⟩,v1,hP1,hF1⟩
  have H1:=Lib.hid (And.intro hP1 (And.intro (H0.out.2.1.trans hF1) (And.intro (RB.fr H0.out.2.2.1 hF1 H0.out.2.2.2.1) (And.intro (hF1.far H0.out.2.2.2.1) (IntsFar.fr H0.out.2.2.2.2 hF1)))))
  clear hP1 hF1 HC1 H0
  have hk:=KK.out
  have kc:w1.cell? ⟨g,17,none⟩=some (.int .u8 c.kd):=RB.c17 H1.out.2.2.1
  have HC2:=Lib.hid (wnum gp v1 (t ++ [c.kd]) od g 34 c.ci (CW.out.1 _ (by simp)) (by (try simp only [List.length_append,nB_len,numsB_len,List.length_cons,List.length_nil]);omega) w1 H1.out.1 (RB.c34 (H1.out.2.2.1)) (RB.fz (H1.out.2.2.1) 34) H1.out.2.2.2.1)
  go_wp2_with fail
  refine HC2.out.mono ?_
  rintro e w2 ⟨⟨r2,rfl⟩,v2,hP2,hF2⟩
  have H2:=Lib.hid (And.intro hP2 (And.intro (H1.out.2.1.trans hF2) (And.intro (RB.fr H1.out.2.2.1 hF2 H1.out.2.2.2.1) (And.intro (hF2.far H1.out.2.2.2.1) (IntsFar.fr H1.out.2.2.2.2 hF2)))))
  clear hP2 hF2 HC2 H1
  clear kc
  have HC3:=Lib.hid (wtruth gp v2 (t ++ [c.kd] ++ nB c.ci) od g 44 c.we (by (try simp only [List.length_append,nB_len,numsB_len,List.length_cons,List.length_nil]);omega) w2 H2.out.1 (RB.c44 (H2.out.2.2.1)) (RB.fz (H2.out.2.2.1) 44) H2.out.2.2.2.1)
  go_wp2_with fail
  refine HC3.out.mono ?_
  rintro e w3 ⟨⟨r3,rfl⟩,v3,hP3,hF3⟩
  have H3:=Lib.hid (And.intro hP3 (And.intro (H2.out.2.1.trans hF3) (And.intro (RB.fr H2.out.2.2.1 hF3 H2.out.2.2.2.1) (And.intro (hF3.far H2.out.2.2.2.1) (IntsFar.fr H2.out.2.2.2.2 hF3)))))
  clear hP3 hF3 HC3 H2
  go_wp2_with fail
  go_end0
  refine ⟨⟨_,rfl⟩,v3,?_,H3.out.2.1⟩
  have this:PW w3 gp v3 (t ++ [c.kd] ++ nB c.ci ++ [tB c.we]) od:=H3.out.1
  rwa [show t ++ [c.kd] ++ nB c.ci ++ [tB c.we]=t ++ cmdB c from by simp [cmdB,show ¬ isJob c.kd from by unfold isJob;have:=KK.out;omega,show ¬ isId c.kd from by unfold isId;have:=KK.out;omega,show ¬ isKeep c.kd from by unfold isKeep;have:=KK.out;omega,show isWell c.kd from by unfold isWell;have:=KK.out;omega]] at this
theorem wcmdN (gp g:Nat) (v:Value) (t:List Int) (od:Bool) (c:CV) (Y:Option Addr) (cy:Nat) (hl:t.length≤600000000) (hk:c.kd=7∨c.kd=10∨c.kd=11∨c.kd=12∨c.kd=13∨c.kd=14∨c.kd=15) (hcy:c.af.length≤cy) (hn:c.af.length≤1000) (hw:CWf c) (w:World) (hP:PW w gp v t od) (hK:RB w g c Y cy) (hF:Far gp v w g) (hI:IntsFar gp v w Y c.af) :
    Calls Try.prog 75 #[.pointer (some ⟨gp,0,none⟩),.pointer (some ⟨g,17,none⟩)] w fun e w' => (∃ r,e = .returned r)∧∃ v',PW w' gp v' (t ++ cmdB c) od∧Fr gp v w v' w':=by
 rcases hk with hk | hk | hk | hk | hk | hk | hk
 all_goals
  have H0:=Lib.hid (And.intro hP (And.intro (Fr.refl gp v w) (And.intro hK (And.intro hF hI))))
  have CW:=Lib.hid hw
  clear hP hK hF hI hw
  have KK:=Lib.hid hk
  clear hk
  go_enter Try.func75,Try.ntmps75
  have HC1:=Lib.hid (wbyte gp v (t) od g 17 c.kd (by (try simp only [List.length_append,nB_len,numsB_len,List.length_cons,List.length_nil]);omega) w H0.out.1 (RB.c17 (H0.out.2.2.1)))
  go_wp2_with fail
  refine HC1.out.mono ?_
  rintro e w1 ⟨⟨r1,rfl⟩,v1,hP1,hF1⟩
  have H1:=Lib.hid (And.intro hP1 (And.intro (H0.out.2.1.trans hF1) (And.intro (RB.fr H0.out.2.2.1 hF1 H0.out.2.2.2.1) (And.intro (hF1.far H0.out.2.2.2.1) (IntsFar.fr H0.out.2.2.2.2 hF1)))))
  clear hP1 hF1 HC1 H0
  have hk:=KK.out
  have kc:w1.cell? ⟨g,17,none⟩=some (.int .u8 c.kd):=RB.c17 H1.out.2.2.1
  have HC2:=Lib.hid (wnum gp v1 (t ++ [c.kd]) od g 43 c.n (CW.out.1 _ (by simp)) (by (try simp only [List.length_append,nB_len,numsB_len,List.length_cons,List.length_nil]);omega) w1 H1.out.1 (RB.c43 (H1.out.2.2.1)) (RB.fz (H1.out.2.2.1) 43) H1.out.2.2.2.1)
  go_wp2_with fail
  refine HC2.out.mono ?_
  rintro e w2 ⟨⟨r2,rfl⟩,v2,hP2,hF2⟩
  have H2:=Lib.hid (And.intro hP2 (And.intro (H1.out.2.1.trans hF2) (And.intro (RB.fr H1.out.2.2.1 hF2 H1.out.2.2.2.1) (And.intro (hF2.far H1.out.2.2.2.1) (IntsFar.fr H1.out.2.2.2.2 hF2)))))
  clear hP2 hF2 HC2 H1
  clear kc
  go_wp2_with fail
  go_end0
  refine ⟨⟨_,rfl⟩,v2,?_,H2.out.2.1⟩
  have this:PW w2 gp v2 (t ++ [c.kd] ++ nB c.n) od:=H2.out.1
  rwa [show t ++ [c.kd] ++ nB c.n=t ++ cmdB c from by simp [cmdB,show ¬ isJob c.kd from by unfold isJob;have:=KK.out;omega,show ¬ isId c.kd from by unfold isId;have:=KK.out;omega,show ¬ isKeep c.kd from by unfold isKeep;have:=KK.out;omega,show ¬ isWell c.kd from by unfold isWell;have:=KK.out;omega,show isN c.kd from by unfold isN;have:=KK.out;omega]] at this
theorem wcmdZ (gp g:Nat) (v:Value) (t:List Int) (od:Bool) (c:CV) (Y:Option Addr) (cy:Nat) (hl:t.length≤600000000) (hk:¬ (1≤c.kd∧c.kd≤15)) (hcy:c.af.length≤cy) (hn:c.af.length≤1000) (hw:CWf c) (w:World) (hP:PW w gp v t od) (hK:RB w g c Y cy) (hF:Far gp v w g) (hI:IntsFar gp v w Y c.af) :
    Calls Try.prog 75 #[.pointer (some ⟨gp,0,none⟩),.pointer (some ⟨g,17,none⟩)] w fun e w' => (∃ r,e = .returned r)∧∃ v',PW w' gp v' (t ++ cmdB c) true∧Fr gp v w v' w':=by
 have H0:=Lib.hid (And.intro hP (And.intro (Fr.refl gp v w) (And.intro hK (And.intro hF hI))))
 have CW:=Lib.hid hw
 clear hP hK hF hI hw
 have KK:=Lib.hid hk
 clear hk
 go_enter Try.func75,Try.ntmps75
 have HC1:=Lib.hid (wbyte gp v (t) od g 17 c.kd (by (try simp only [List.length_append,nB_len,numsB_len,List.length_cons,List.length_nil]);omega) w H0.out.1 (RB.c17 (H0.out.2.2.1)))
 go_wp2_with fail
 refine HC1.out.mono ?_
 rintro e w1 ⟨⟨r1,rfl⟩,v1,hP1,hF1⟩
 have H1:=Lib.hid (And.intro hP1 (And.intro (H0.out.2.1.trans hF1) (And.intro (RB.fr H0.out.2.2.1 hF1 H0.out.2.2.2.1) (And.intro (hF1.far H0.out.2.2.2.1) (IntsFar.fr H0.out.2.2.2.2 hF1)))))
 clear hP1 hF1 HC1 H0
 have kc:w1.cell? ⟨g,17,none⟩=some (.int .u8 c.kd):=RB.c17 H1.out.2.2.1
 have po:w1.cell? ⟨gp,2,none⟩=some (.bool od):=H1.out.1.1.cell 2
 have pf:=H1.out.1.1.frozen 2
 have ne1:(c.kd == 1)=false:=by rw [beq_eq_false_iff_ne];have:=KK.out;omega
 have ne2:(c.kd == 2)=false:=by rw [beq_eq_false_iff_ne];have:=KK.out;omega
 have ne3:(c.kd == 3)=false:=by rw [beq_eq_false_iff_ne];have:=KK.out;omega
 have ne4:(c.kd == 4)=false:=by rw [beq_eq_false_iff_ne];have:=KK.out;omega
 have ne5:(c.kd == 5)=false:=by rw [beq_eq_false_iff_ne];have:=KK.out;omega
 have ne6:(c.kd == 6)=false:=by rw [beq_eq_false_iff_ne];have:=KK.out;omega
 have ne7:(c.kd == 7)=false:=by rw [beq_eq_false_iff_ne];have:=KK.out;omega
 have ne8:(c.kd == 8)=false:=by rw [beq_eq_false_iff_ne];have:=KK.out;omega
 have ne9:(c.kd == 9)=false:=by rw [beq_eq_false_iff_ne];have:=KK.out;omega
 have ne10:(c.kd == 10)=false:=by rw [beq_eq_false_iff_ne];have:=KK.out;omega
 have ne11:(c.kd == 11)=false:=by rw [beq_eq_false_iff_ne];have:=KK.out;omega
 have ne12:(c.kd == 12)=false:=by rw [beq_eq_false_iff_ne];have:=KK.out;omega
 have ne13:(c.kd == 13)=false:=by rw [beq_eq_false_iff_ne];have:=KK.out;omega
 have ne14:(c.kd == 14)=false:=by rw [beq_eq_false_iff_ne];have:=KK.out;omega
 have ne15:(c.kd == 15)=false:=by rw [beq_eq_false_iff_ne];have:=KK.out;omega
 go_wp2_with fail
 go_end0
 refine ⟨⟨_,rfl⟩,v1,?_,H1.out.2.1.set_ (.inl rfl) _⟩
 have:=PW.odd H1.out.1 true
 rwa [show t ++ [c.kd]=t ++ cmdB c from by
  have:=KK.out
  simp [cmdB,show ¬ isJob c.kd from by unfold isJob;omega,show ¬ isId c.kd from by unfold isId;omega,show ¬ isKeep c.kd from by unfold isKeep;omega,show ¬ isWell c.kd from by unfold isWell;omega,show ¬ isN c.kd from by unfold isN;omega]] at this
theorem wcommand (gp g:Nat) (v:Value) (t:List Int) (c:CV) (Y:Option Addr) (cy:Nat) (hl:t.length≤600000000) (hcy:c.af.length≤cy) (hn:c.af.length≤1000) (hw:CWf c) (w:World) (hP:PW w gp v t false) (hK:RB w g c Y cy) (hF:Far gp v w g) (hI:IntsFar gp v w Y c.af) :
    Calls Try.prog 75 #[.pointer (some ⟨gp,0,none⟩),.pointer (some ⟨g,17,none⟩)] w fun e w' => (∃ r,e = .returned r)∧∃ v',PW w' gp v' (t ++ cmdB c) (!mayK c.kd)∧Fr gp v w v' w':=by
 by_cases hk:1≤c.kd∧c.kd≤15
 ·have hm:(!mayK c.kd)=false:=by simp [mayK];omega
  rw [hm]
  by_cases hJ:c.kd=1
  ·exact wcmdJ gp g v t false c Y cy hl hJ hcy hn hw w hP hK hF hI
  by_cases hI2:c.kd=2∨c.kd=3∨c.kd=4∨c.kd=6
  ·exact wcmdI gp g v t false c Y cy hl hI2 hcy hn hw w hP hK hF hI
  by_cases hK2:c.kd=5
  ·exact wcmdK gp g v t false c Y cy hl hK2 hcy hn hw w hP hK hF hI
  by_cases hW2:c.kd=8∨c.kd=9
  ·exact wcmdW gp g v t false c Y cy hl hW2 hcy hn hw w hP hK hF hI
  exact wcmdN gp g v t false c Y cy hl (by omega) hcy hn hw w hP hK hF hI
 ·have hm:(!mayK c.kd)=true:=by
   have:mayK c.kd=false:=by simp only [mayK,Bool.and_eq_false_iff,decide_eq_false_iff_not];omega
   rw [this];rfl
  rw [hm]
  exact wcmdZ gp g v t false c Y cy hl hk hcy hn hw w hP hK hF hI
theorem wrecord (gp g:Nat) (v:Value) (c:CV) (Y:Option Addr) (cy:Nat) (hcy:c.af.length≤cy) (hn:c.af.length≤1000) (hw:CWf c) (w:World) (hP:PW w gp v [] false) (hK:RB w g c Y cy) (hF:Far gp v w g) (hI:IntsFar gp v w Y c.af) :
    Calls Try.prog 44 #[.pointer (some ⟨gp,0,none⟩),.pointer (some ⟨g,0,none⟩)] w fun e w' => (∃ r,e = .returned r)∧∃ v',PW w' gp v' (nB 0 ++ cmdB c) (!mayK c.kd)∧Fr gp v w v' w':=by
 have HC1:=Lib.hid (wnum gp v [] false g 0 0 (by decide) (by simp) w hP (RB.c0 hK) (RB.fz hK 0) hF)
 have H0:=Lib.hid (And.intro hK (And.intro hF hI))
 have HW:=Lib.hid hw
 clear hP hK hF hI hw
 go_enter Try.func44,Try.ntmps44
 go_wp2_with fail
 refine HC1.out.mono ?_
 rintro e w1 ⟨⟨r1,rfl⟩,v1,hP1,hF1⟩
 have k0:w1.cell? ⟨g,0,none⟩=some (.int .i64 0):=RB.c0 (RB.fr H0.out.1 hF1 H0.out.2.1)
 have po:w1.cell? ⟨gp,2,none⟩=some (.bool false):=hP1.1.cell 2
 have pf:=hP1.1.frozen 2
 have se:=setCell_self po
 have HC2:=Lib.hid (wcommand gp g v1 (nB 0) c Y cy (by rw [nB_len];omega) hcy hn HW.out w1 hP1 (RB.fr H0.out.1 hF1 H0.out.2.1) (hF1.far H0.out.2.1) (IntsFar.fr H0.out.2.2 hF1))
 have H1:=Lib.hid hF1
 have SE:=Lib.hid se
 clear hP1 hF1 HC1 H0 se
 go_wp2_with fail
 rw [SE.out]
 refine HC2.out.mono ?_
 rintro e w2 ⟨⟨r2,rfl⟩,v2,hP2,hF2⟩
 have H2:=Lib.hid (And.intro hP2 (H1.out.trans hF2))
 clear hP2 hF2 HC2 k0 po pf
 go_wp2_with fail
 go_end0
 exact ⟨⟨_,rfl⟩,v2,H2.out.1,H2.out.2⟩
end Go.Proofs.Ytfdldbfjeamlcaa.RecCmd
