/- Several texts joined: Commands and records as bytes, in plain Lean: what is written is read back, nothing else is read. -/
import Derived.Test.YtfdldbfjeamlcaaPG9
import Derived.Test.YtfdldbfjeamlcaaPG3
import Derived.BigQuiet
import Derived.Deep.QuietTactic
import Derived.Deep.MidRow
import Derived.Deep.DeepCutAuto
import Derived.Lib.QuietBelow
import Derived.Lib.SliceRun
import Derived.Test.YtfdldbfjeamlcaaPG7
import Derived.Test.YtfdldbfjeamlcaaPG5
import Derived.Test.YtfdldbfjeamlcaaPG4
import Derived.Test.YtfdldbfjeamlcaaPG6
import Derived.Laws.Rows
import Derived.Test.YtfdldbfjeamlcaaPG1
set_option linter.unusedVariables false
set_option linter.unusedSimpArgs false
namespace Go.Proofs.Ytfdldbfjeamlcaa.RecRecC
open Go.RowKit Mem RecMem RecByte RecNum RecEach RecMath RecCod RecCods RecVal RecRd RecRCmd
def askOf (c:CV):QV:=⟨c.us,c.cl,c.a,c.b,c.c,c.p,c.q,c.r,c.tn,c.wa,c.pr,c.he,c.af⟩
theorem ask_enc (c:CV):askC.enc (askOf c)=askB c:=by
 show ((((((nB c.us ++ nB c.cl) ++ ((((nB c.a ++ nB c.b) ++ nB c.c) ++ (([tB c.p] ++ [tB c.q]) ++ [tB c.r])) ++ [tB c.tn])) ++ nB c.wa) ++ nB c.pr) ++ [tB c.he]) ++ (nB c.af.length ++ c.af.flatMap nB))=askB c
 simp [askB,numsB,List.append_assoc]
theorem okQ_of {c:CV} (h:CWf c) (hl:c.af.length≤1000):askC.ok (askOf c):=by
 have h1:=h.1
 simp only [List.forall_mem_cons] at h1
 obtain ⟨x1,x2,x3,x4,x5,x6,x7,x8,x9,x10,x11,x12,x13,x14,x15,x16,x17,x18,x19,_⟩:=h1
 exact ⟨⟨⟨⟨⟨⟨x2,x3⟩,⟨⟨⟨⟨x4,x5⟩,x6⟩,⟨⟨trivial,trivial⟩,trivial⟩⟩,trivial⟩⟩,x7⟩,x8⟩,trivial⟩,hl,h.2⟩
theorem okQ_set {k:Int} {x:QV} (h:askC.ok x):CWf (setQ k x)∧(setQ k x).af.length≤1000:=by
 obtain ⟨⟨⟨⟨⟨⟨x2,x3⟩,⟨⟨⟨⟨x4,x5⟩,x6⟩,_⟩,_⟩⟩,x7⟩,x8⟩,_⟩,hl,hw⟩:=h
 have z:(Lit.int .i64 0).wf=true:=by decide
 refine ⟨⟨?_,hw⟩,hl⟩
 simp only [List.forall_mem_cons,setQ,CV.z]
 exact ⟨z,x2,x3,x4,x5,x6,x7,x8,z,z,z,z,z,z,z,z,z,z,z,fun n hn=>by cases hn⟩
def okC (c:CV):Prop:=mayK c.kd=true∧own c=c∧CWf c∧c.af.length≤1000
theorem z64:(Lit.int .i64 0).wf=true:=by decide
theorem kinds {k:Int} (h:mayK k=true):isJob k∨isId k∨isKeep k∨isWell k∨isN k:=mayK_iff.1 h
theorem cmd_back (c:CV) (r:Bs) (h:okC c):cmdDec (cmdB c ++ r)=some (c,r):=by
 obtain ⟨hk,ho,hw,hl⟩:=h
 have h1:=hw.1
 simp only [List.forall_mem_cons] at h1
 obtain ⟨x1,x2,x3,x4,x5,x6,x7,x8,x9,x10,x11,x12,x13,x14,x15,x16,x17,x18,x19,_⟩:=h1
 rcases kinds hk with hj | hj | hj | hj | hj
 ·have e:cmdB c=c.kd :: askB c:=by simp only [cmdB,hj,if_true]
  rw [e,List.cons_append,dec_job hj,← ask_enc,ask_good.back _ _ (okQ_of hw hl)]
  show some (setQ c.kd (askOf c),r)=_
  have:own c=setQ c.kd (askOf c):=by simp only [own,hj,if_true,setQ,askOf]
  rw [← this,ho]
 ·have n1:¬ isJob c.kd:=by (unfold isJob;unfold isId at hj;omega)
  have e:cmdB c=c.kd :: nB c.ci:=by simp only [cmdB,n1,hj,if_true,if_false]
  rw [e,List.cons_append,dec_id hj,show numC.dec (nB c.ci ++ r)=some (c.ci,r) from numC_good.back _ _ x10]
  have:own c = { CV.z with kd:=c.kd,ci:=c.ci }:=by simp only [own,n1,hj,if_true,if_false]
  rw [ho] at this
  exact congrArg (fun x=>some (x,r)) this.symm
 ·have n1:¬ isJob c.kd:=by (unfold isJob;unfold isKeep at hj;omega)
  have n2:¬ isId c.kd:=by (unfold isId;unfold isKeep at hj;omega)
  have e:cmdB c=c.kd :: (pairC boxC spanC).enc ((((c.b0,c.b1),c.b2),((c.b3,c.b4),c.b5)),(c.fr,c.to)):=by
   simp only [cmdB,n1,n2,hj,if_true,if_false]
   show c.kd :: (numsB _ ++ _)=c.kd :: ((((nB c.b0 ++ nB c.b1) ++ nB c.b2) ++ ((nB c.b3 ++ nB c.b4) ++ nB c.b5)) ++ (nB c.fr ++ nB c.to))
   simp [numsB,List.append_assoc]
  rw [e,List.cons_append,dec_keep hj,(pairC_good box_good span_good).back ((((c.b0,c.b1),c.b2),((c.b3,c.b4),c.b5)),(c.fr,c.to)) r ⟨⟨⟨⟨x11,x12⟩,x13⟩,⟨⟨x14,x15⟩,x16⟩⟩,⟨x17,x18⟩⟩]
  have:own c=setK c.kd ((((c.b0,c.b1),c.b2),((c.b3,c.b4),c.b5)),(c.fr,c.to)):=by simp only [own,n1,n2,hj,if_true,if_false,setK,CV.z]
  rw [ho] at this
  exact congrArg (fun x=>some (x,r)) this.symm
 ·have n1:¬ isJob c.kd:=by (unfold isJob;unfold isWell at hj;omega)
  have n2:¬ isId c.kd:=by (unfold isId;unfold isWell at hj;omega)
  have n3:¬ isKeep c.kd:=by (unfold isKeep;unfold isWell at hj;omega)
  have e:cmdB c=c.kd :: (pairC numC truthC).enc (c.ci,c.we):=by simp only [cmdB,n1,n2,n3,hj,if_true,if_false];rfl
  rw [e,List.cons_append,dec_well hj,(pairC_good numC_good truthC_good).back (c.ci,c.we) r ⟨x10,trivial⟩]
  have:own c = { CV.z with kd:=c.kd,ci:=c.ci,we:=c.we }:=by simp only [own,n1,n2,n3,hj,if_true,if_false]
  rw [ho] at this
  exact congrArg (fun x=>some (x,r)) this.symm
 ·have n1:¬ isJob c.kd:=by (unfold isJob;unfold isN at hj;omega)
  have n2:¬ isId c.kd:=by (unfold isId;unfold isN at hj;omega)
  have n3:¬ isKeep c.kd:=by (unfold isKeep;unfold isN at hj;omega)
  have n4:¬ isWell c.kd:=by (unfold isWell;unfold isN at hj;omega)
  have e:cmdB c=c.kd :: nB c.n:=by simp only [cmdB,n1,n2,n3,n4,hj,if_true,if_false]
  rw [e,List.cons_append,dec_n hj,show numC.dec (nB c.n ++ r)=some (c.n,r) from numC_good.back _ _ x19]
  have:own c = { CV.z with kd:=c.kd,n:=c.n }:=by simp only [own,n1,n2,n3,n4,hj,if_true,if_false]
  rw [ho] at this
  exact congrArg (fun x=>some (x,r)) this.symm
theorem cmd_only (t:Bs) (c:CV) (r:Bs) (ho:Oct t) (h:cmdDec t=some (c,r)):okC c∧t=cmdB c ++ r:=by
 match t,ho,h with
 | k :: t,ho,h =>
  have hot:Oct t:=fun b hb=>ho b (by simp [hb])
  by_cases hm:1≤k∧k≤15
  ·have hmk:mayK k=true:=by unfold mayK;simp [hm]
   rcases kinds hmk with hj | hj | hj | hj | hj
   ·rw [dec_job hj,Option.map_eq_some_iff] at h
    obtain ⟨⟨x,s⟩,hx,e⟩:=h
    cases e
    obtain ⟨ok,rfl⟩:=ask_good.only _ _ _ hot hx
    have hs:=okQ_set (k:=k) ok
    refine ⟨⟨hmk,by simp only [own,setQ,hj,if_true],hs.1,hs.2⟩,?_⟩
    have e2:askOf (setQ k x)=x:=rfl
    have e3:cmdB (setQ k x)=k :: askB (setQ k x):=by simp only [cmdB,setQ,hj,if_true]
    rw [e3,← ask_enc,e2];rfl
   ·have n1:¬ isJob k:=by (unfold isJob;unfold isId at hj;omega)
    rw [dec_id hj,Option.map_eq_some_iff] at h
    obtain ⟨⟨x,s⟩,hx,e⟩:=h
    cases e
    obtain ⟨ok,rfl⟩:=numC_good.only _ _ _ hot hx
    refine ⟨⟨hmk,by simp only [own,n1,hj,if_true,if_false],⟨by simp only [List.forall_mem_cons,CV.z];exact ⟨z64,z64,z64,z64,z64,z64,z64,z64,z64,ok,z64,z64,z64,z64,z64,z64,z64,z64,z64,fun n hn=>by cases hn⟩,fun n hn=>by cases hn⟩,Nat.zero_le _⟩,?_⟩
    simp only [cmdB,n1,hj,if_true,if_false];rfl
   ·have n1:¬ isJob k:=by (unfold isJob;unfold isKeep at hj;omega)
    have n2:¬ isId k:=by (unfold isId;unfold isKeep at hj;omega)
    rw [dec_keep hj,Option.map_eq_some_iff] at h
    obtain ⟨⟨x,s⟩,hx,e⟩:=h
    cases e
    obtain ⟨⟨⟨⟨⟨y1,y2⟩,y3⟩,⟨⟨y4,y5⟩,y6⟩⟩,⟨y7,y8⟩⟩,rfl⟩:=(pairC_good box_good span_good).only _ _ _ hot hx
    refine ⟨⟨hmk,by simp only [own,setK,n1,n2,hj,if_true,if_false,CV.z],⟨by simp only [List.forall_mem_cons,setK];exact ⟨z64,z64,z64,z64,z64,z64,z64,z64,z64,z64,y1,y2,y3,y4,y5,y6,y7,y8,z64,fun n hn=>by cases hn⟩,fun n hn=>by cases hn⟩,Nat.zero_le _⟩,?_⟩
    simp only [cmdB,setK,n1,n2,hj,if_true,if_false]
    show k :: (((((nB _ ++ nB _) ++ nB _) ++ ((nB _ ++ nB _) ++ nB _)) ++ (nB _ ++ nB _)) ++ _)=k :: (numsB _ ++ _) ++ _
    simp [numsB,List.append_assoc]
   ·have n1:¬ isJob k:=by (unfold isJob;unfold isWell at hj;omega)
    have n2:¬ isId k:=by (unfold isId;unfold isWell at hj;omega)
    have n3:¬ isKeep k:=by (unfold isKeep;unfold isWell at hj;omega)
    rw [dec_well hj,Option.map_eq_some_iff] at h
    obtain ⟨⟨x,s⟩,hx,e⟩:=h
    cases e
    obtain ⟨⟨y1,_⟩,rfl⟩:=(pairC_good numC_good truthC_good).only _ _ _ hot hx
    refine ⟨⟨hmk,by simp only [own,n1,n2,n3,hj,if_true,if_false],⟨by simp only [List.forall_mem_cons,CV.z];exact ⟨z64,z64,z64,z64,z64,z64,z64,z64,z64,y1,z64,z64,z64,z64,z64,z64,z64,z64,z64,fun n hn=>by cases hn⟩,fun n hn=>by cases hn⟩,Nat.zero_le _⟩,?_⟩
    simp only [cmdB,n1,n2,n3,hj,if_true,if_false];rfl
   ·have n1:¬ isJob k:=by (unfold isJob;unfold isN at hj;omega)
    have n2:¬ isId k:=by (unfold isId;unfold isN at hj;omega)
    have n3:¬ isKeep k:=by (unfold isKeep;unfold isN at hj;omega)
    have n4:¬ isWell k:=by (unfold isWell;unfold isN at hj;omega)
    rw [dec_n hj,Option.map_eq_some_iff] at h
    obtain ⟨⟨x,s⟩,hx,e⟩:=h
    cases e
    obtain ⟨ok,rfl⟩:=numC_good.only _ _ _ hot hx
    refine ⟨⟨hmk,by simp only [own,n1,n2,n3,n4,hj,if_true,if_false],⟨by simp only [List.forall_mem_cons,CV.z];exact ⟨z64,z64,z64,z64,z64,z64,z64,z64,z64,z64,z64,z64,z64,z64,z64,z64,z64,z64,ok,fun n hn=>by cases hn⟩,fun n hn=>by cases hn⟩,Nat.zero_le _⟩,?_⟩
    simp only [cmdB,n1,n2,n3,n4,hj,if_true,if_false];rfl
  ·rw [dec_z hm] at h;cases h
theorem cmd_oct (c:CV) (h:okC c):Oct (cmdB c):=fun b hb=>by
 obtain ⟨hk,ho,hw,hl⟩:=h
 have hk2:0≤c.kd∧c.kd < 256:=by
  unfold mayK at hk;simp at hk;omega
 unfold cmdB at hb
 rcases List.mem_cons.1 hb with rfl | hb
 ·exact hk2
 ·have oB:∀ n,∀ b ∈ nB n,0≤b∧b < 256:=fun n b hb=>nB_oct n b hb
  have oS:∀ l,∀ b ∈ numsB l,0≤b∧b < 256:=fun l b hb=>by
   unfold numsB at hb
   obtain ⟨n,_,hn⟩:=List.mem_flatMap.1 hb
   exact nB_oct n b hn
  have oT:∀ p:Bool,0≤tB p∧tB p < 256:=fun p=>by cases p <;> simp [tB]
  split at hb
  ·rw [← ask_enc] at hb
   exact ask_good.oct _ (okQ_of hw hl) b hb
  ·split at hb
   ·exact oB _ b hb
   ·split at hb
    ·rcases List.mem_append.1 hb with e | e
     ·exact oS _ b e
     ·rcases List.mem_append.1 e with e | e <;> exact oB _ b e
    ·split at hb
     ·rcases List.mem_append.1 hb with e | e
      ·exact oB _ b e
      ·simp at e;subst e;exact oT _
     ·split at hb
      ·exact oB _ b hb
      ·cases hb
def okR (r:RV):Prop:=(0≤r.g∧r.g≤2147483647)∧(r.g=0→okC r.c∧r.s=SV.z)∧(r.g≠0→r.c=CV.z∧stateC.ok r.s)
def recB (r:RV):Bs:=nB r.g ++ (if r.g=0 then cmdB r.c else stateC.enc r.s)
def recC:Cod RV:=⟨okR,recB,recDec⟩
theorem rec_def (t:Bs):recDec t=(numC.dec t).bind fun p=>if p.1 < 0∨2147483647 < p.1 then none else if p.1=0 then (cmdDec p.2).map fun q=>(⟨0,SV.z,q.1⟩,q.2) else (stateC.dec p.2).map fun q=>(⟨p.1,q.1,CV.z⟩,q.2):=rfl
theorem rec_good:recC.Good:=by
 refine ⟨fun x hx=>?_,fun x r hx=>?_,fun t x r ho h=>?_⟩
 ·refine (nB_oct _).app fun b hb=>?_
  by_cases h0:x.g=0
  ·rw [if_pos h0] at hb;exact cmd_oct _ (hx.2.1 h0).1 b hb
  ·rw [if_neg h0] at hb;exact state_good.oct _ (hx.2.2 h0).2 b hb
 ·obtain ⟨g,s,c⟩:=x
  have hg:=hx.1
  simp only at hg
  show recDec ((nB g ++ _) ++ r)=_
  rw [rec_def,List.append_assoc,show numC.dec (nB g ++ _)=some (g,_) from numC_good.back g _ (i64_mk (by omega)),Option.bind_some,if_neg (by simp only;omega)]
  by_cases h0:g=0
  ·subst h0
   obtain ⟨h1,h2⟩:=hx.2.1 rfl
   simp only at h1 h2
   subst h2
   simp only [if_true]
   rw [cmd_back _ _ h1];rfl
  ·obtain ⟨h1,h2⟩:=hx.2.2 h0
   simp only at h1 h2
   subst h1
   simp only [h0,if_false]
   rw [state_good.back _ _ h2];rfl
 ·change recDec t=_ at h
  rw [rec_def,Option.bind_eq_some_iff] at h
  obtain ⟨⟨g,s⟩,hg,h⟩:=h
  obtain ⟨okg,rfl⟩:=numC_good.only _ _ _ ho hg
  simp only at h
  split at h
  ·cases h
  ·rename_i hr
   split at h
   ·rename_i h0
    subst h0
    rw [Option.map_eq_some_iff] at h
    obtain ⟨⟨c,u⟩,hc,e⟩:=h
    cases e
    obtain ⟨okc,rfl⟩:=cmd_only _ _ _ ho.right hc
    refine ⟨⟨by simp,fun _=>⟨okc,rfl⟩,fun h=>absurd rfl h⟩,?_⟩
    show nB 0 ++ (cmdB c ++ u)=(nB 0 ++ (if (0:Int)=0 then cmdB c else _)) ++ u
    rw [if_pos rfl,List.append_assoc]
   ·rename_i h0
    rw [Option.map_eq_some_iff] at h
    obtain ⟨⟨q,u⟩,hc,e⟩:=h
    cases e
    obtain ⟨okc,rfl⟩:=state_good.only _ _ _ ho.right hc
    refine ⟨⟨by simp only;omega,fun h=>absurd h h0,fun _=>⟨rfl,okc⟩⟩,?_⟩
    show nB g ++ (stateC.enc q ++ u)=(nB g ++ (if g=0 then _ else stateC.enc q)) ++ u
    rw [if_neg h0,List.append_assoc]
end Go.Proofs.Ytfdldbfjeamlcaa.RecRecC
namespace Go.Proofs.Ytfdldbfjeamlcaa.RecWOk
open Go.RowKit Mem RecMem RecByte RecNum RecEach RecMath RecPort RecCmd RecCod RecCods RecCommand RecVal RecRecC RecWAt
theorem listE_enc {α:Type} {E:α→Bs} {O:α→Bool} {c:Cod α} {l:List α} (h:listO O l=true) (he:∀ x ∈ l,O x=true→E x=c.enc x):listE E l=(listC c).enc l:=by
 unfold listO at h
 rw [Bool.and_eq_true,decide_eq_true_eq,List.all_eq_true] at h
 unfold listE
 rw [if_pos h.1]
 show _=nB l.length ++ l.flatMap c.enc
 congr 1
 have:∀ m:List α,(∀ x ∈ m,x ∈ l)→m.flatMap E=m.flatMap c.enc:=fun m=>by
  induction m with
  | nil=>intro _;rfl
  | cons x m ih =>
   intro hm
   rw [List.flatMap_cons,List.flatMap_cons,ih (fun y hy=>hm y (List.mem_cons_of_mem _ hy)),he x (hm x (by simp)) (h.2 x (hm x (by simp)))]
 exact this l fun x hx=>hx
theorem listO_ok {α:Type} {O:α→Bool} {c:Cod α} {l:List α} (ho:∀ x ∈ l,(O x=true↔c.ok x)):listO O l=true↔(listC c).ok l:=by
 unfold listO
 rw [Bool.and_eq_true,decide_eq_true_eq,List.all_eq_true]
 exact ⟨fun h=>⟨h.1,fun x hx=>(ho x hx).1 (h.2 x hx)⟩,fun h=>⟨h.1,fun x hx=>(ho x hx).2 (h.2 x hx)⟩⟩
theorem u8_in {x:Int} (h:W8 x):0≤x∧x < 256:=by
 have h2:(Lit.int .u8 x).wf=true:=h
 simp [Lit.wf,IntKind.min,IntKind.max,IntKind.signed,IntKind.bits] at h2
 omega
theorem class_enc (x:KV):classE x=classC.enc x:=rfl
theorem class_ok {x:KV} (h:KWf x):classC.ok x:=⟨⟨⟨h.1,h.2.1⟩,h.2.2.1⟩,h.2.2.2⟩
theorem ask_encE {x:QV} (h:askO x=true):askE x=askC.enc x:=by
 have hl:=listE_enc (c:=numC) (E:=nB) h (fun _ _ _=>rfl)
 show _=((((((nB x.us ++ nB x.cl) ++ ((((nB x.a ++ nB x.b) ++ nB x.c) ++ (([tB x.p] ++ [tB x.q]) ++ [tB x.r])) ++ [tB x.tn])) ++ nB x.wa) ++ nB x.pr) ++ [tB x.he]) ++ (listC numC).enc x.af)
 rw [← hl]
 simp [askE,wantsE,numsB,List.append_assoc]
theorem ask_ok {x:QV} (h:QWf x):askO x=true↔askC.ok x:=by
 have hl:askO x=true↔(listC numC).ok x.af:=listO_ok fun y hy=>⟨fun _=>h.2.2.2.2.2.2.2 y hy,fun _=>rfl⟩
 rw [hl]
 exact ⟨fun g=>⟨⟨⟨⟨⟨⟨h.1,h.2.1⟩,⟨⟨⟨⟨h.2.2.1,h.2.2.2.1⟩,h.2.2.2.2.1⟩,⟨⟨trivial,trivial⟩,trivial⟩⟩,trivial⟩⟩,h.2.2.2.2.2.1⟩,h.2.2.2.2.2.2.1⟩,trivial⟩,g⟩,fun g=>g.2⟩
theorem job_encE {x:JV} (h:jobO x=true):jobE x=jobC.enc x:=by
 show ((nB x.id ++ askE x.q) ++ [x.st]) ++ nB x.ca=((nB x.id ++ askC.enc x.q) ++ [x.st]) ++ nB x.ca
 rw [ask_encE h]
theorem job_ok {x:JV} (h:JWf x):jobO x=true↔jobC.ok x:=by
 have:=ask_ok h.2.1
 unfold jobO
 rw [this]
 exact ⟨fun g=>⟨⟨⟨h.1,g⟩,u8_in h.2.2.1⟩,h.2.2.2⟩,fun g=>g.1.1.2⟩
theorem part_enc (x:PV):partE x=partC.enc x:=by
 show _=(((nB x.jb ++ ((((nB x.b0 ++ nB x.b1) ++ nB x.b2) ++ ((nB x.b3 ++ nB x.b4) ++ nB x.b5)) ++ (([tB x.p] ++ [tB x.q]) ++ [tB x.r]))) ++ [x.ph]) ++ nB x.tr) ++ nB x.si
 simp [partE,placeE,numsB,List.append_assoc]
theorem part_ok {x:PV} (h:PWf x):partC.ok x:=⟨⟨⟨⟨h.1,⟨⟨⟨⟨h.2.1,h.2.2.1⟩,h.2.2.2.1⟩,⟨⟨h.2.2.2.2.1,h.2.2.2.2.2.1⟩,h.2.2.2.2.2.2.1⟩⟩,⟨⟨trivial,trivial⟩,trivial⟩⟩⟩,u8_in h.2.2.2.2.2.2.2.1⟩,h.2.2.2.2.2.2.2.2.1⟩,h.2.2.2.2.2.2.2.2.2⟩
theorem keep_enc (x:EV):keepE x=keepC.enc x:=by
 show _=(nB x.id ++ (((nB x.b0 ++ nB x.b1) ++ nB x.b2) ++ ((nB x.b3 ++ nB x.b4) ++ nB x.b5))) ++ (nB x.fr ++ nB x.to)
 simp [keepE,numsB,List.append_assoc]
theorem keep_ok {x:EV} (h:EWf x):keepC.ok x:=⟨⟨h.1,⟨⟨⟨h.2.1,h.2.2.1⟩,h.2.2.2.1⟩,⟨⟨h.2.2.2.2.1,h.2.2.2.2.2.1⟩,h.2.2.2.2.2.2.1⟩⟩⟩,⟨h.2.2.2.2.2.2.2.1,h.2.2.2.2.2.2.2.2⟩⟩
theorem state_encE {s:SV} (h:stateO s=true):stateE s=stateC.enc s:=by
 unfold stateO at h
 simp only [Bool.and_eq_true] at h
 obtain ⟨⟨⟨⟨⟨⟨h1,h2⟩,h3⟩,h4⟩,h5⟩,h6⟩,h7⟩:=h
 have e1:=listE_enc (c:=classC) h1 (fun x _ _=>class_enc x)
 have e2:=listE_enc (c:=jobC) h2 (fun x _ g=>job_encE g)
 have e3:=listE_enc (c:=partC) h3 (fun x _ _=>part_enc x)
 have e4:=listE_enc (c:=keepC) h4 (fun x _ _=>keep_enc x)
 have e5:=listE_enc (c:=numC) (E:=nB) h5 (fun _ _ _=>rfl)
 have e6:=listE_enc (c:=numC) (E:=nB) h6 (fun _ _ _=>rfl)
 have e7:=listE_enc (c:=numC) (E:=nB) h7 (fun _ _ _=>rfl)
 show _=((((((((((((((nB s.d0 ++ nB s.d1) ++ nB s.d2) ++ nB s.bo) ++ nB s.fr) ++ nB s.tr) ++ nB s.ag) ++ (listC classC).enc s.cs) ++ nB s.nw) ++ nB s.nx) ++ (listC jobC).enc s.js) ++ (listC partC).enc s.ps) ++ (listC keepC).enc s.ks) ++ (listC numC).enc s.dn) ++ (listC numC).enc s.sh) ++ (listC numC).enc s.cu
 rw [← e1,← e2,← e3,← e4,← e5,← e6,← e7]
 simp [stateE,numsB,List.append_assoc]
theorem state_ok {s:SV} (h:SWf s):stateO s=true↔stateC.ok s:=by
 obtain ⟨⟨w1,w2,w3,w4,w5,w6,w7,w8,w9⟩,hK,hJ,hP,hE,hD,hS,hU⟩:=h
 have e1:listO yes s.cs=true↔(listC classC).ok s.cs:=listO_ok fun x hx=>⟨fun _=>class_ok (hK x hx),fun _=>rfl⟩
 have e2:listO jobO s.js=true↔(listC jobC).ok s.js:=listO_ok fun x hx=>job_ok (hJ x hx)
 have e3:listO yes s.ps=true↔(listC partC).ok s.ps:=listO_ok fun x hx=>⟨fun _=>part_ok (hP x hx),fun _=>rfl⟩
 have e4:listO yes s.ks=true↔(listC keepC).ok s.ks:=listO_ok fun x hx=>⟨fun _=>keep_ok (hE x hx),fun _=>rfl⟩
 have e5:listO yes s.dn=true↔(listC numC).ok s.dn:=listO_ok fun x hx=>⟨fun _=>hD x hx,fun _=>rfl⟩
 have e6:listO yes s.sh=true↔(listC numC).ok s.sh:=listO_ok fun x hx=>⟨fun _=>hS x hx,fun _=>rfl⟩
 have e7:listO yes s.cu=true↔(listC numC).ok s.cu:=listO_ok fun x hx=>⟨fun _=>hU x hx,fun _=>rfl⟩
 unfold stateO
 simp only [Bool.and_eq_true]
 rw [e1,e2,e3,e4,e5,e6,e7]
 constructor
 ·rintro ⟨⟨⟨⟨⟨⟨h1,h2⟩,h3⟩,h4⟩,h5⟩,h6⟩,h7⟩
  exact ⟨⟨⟨⟨⟨⟨⟨⟨⟨⟨⟨⟨⟨⟨⟨w1,w2⟩,w3⟩,w4⟩,w5⟩,w6⟩,w7⟩,h1⟩,w8⟩,w9⟩,h2⟩,h3⟩,h4⟩,h5⟩,h6⟩,h7⟩
 ·rintro ⟨⟨⟨⟨⟨⟨⟨⟨⟨_,h1⟩,_⟩,_⟩,h2⟩,h3⟩,h4⟩,h5⟩,h6⟩,h7⟩
  exact ⟨⟨⟨⟨⟨⟨h1,h2⟩,h3⟩,h4⟩,h5⟩,h6⟩,h7⟩
def genO (g:Int):Bool:=decide (0≤g) && decide (g≤2147483647)
theorem okR_cmd {r:RV} (h0:r.g=0) (hc:CWf r.c):okR r↔(mayK r.c.kd=true∧r.c.af.length≤1000∧(⟨0,SV.z,own r.c⟩:RV)=r):=by
 obtain ⟨g,s,c⟩:=r
 simp only at h0 hc
 subst h0
 constructor
 ·rintro ⟨_,h1,_⟩
  obtain ⟨⟨h2,h3,h4,h5⟩,h6⟩:=h1 rfl
  simp only at h2 h3 h4 h5 h6
  exact ⟨h2,h5,by rw [h3,h6]⟩
 ·rintro ⟨h1,h2,h3⟩
  injection h3 with _ h4 h5
  simp only at h1 h2
  exact ⟨⟨by simp,by simp⟩,fun _=>⟨⟨h1,h5,hc,h2⟩,h4.symm⟩,fun h=>absurd rfl h⟩
theorem okR_state {r:RV} (h0:r.g≠0) (hs:SWf r.s):okR r↔((genO r.g && stateO r.s)=true∧(⟨r.g,r.s,CV.z⟩:RV)=r):=by
 obtain ⟨g,s,c⟩:=r
 simp only at h0 hs
 rw [Bool.and_eq_true,state_ok hs]
 simp only [genO,Bool.and_eq_true,decide_eq_true_eq]
 constructor
 ·rintro ⟨h1,_,h2⟩
  obtain ⟨h3,h4⟩:=h2 h0
  simp only at h1 h3 h4
  exact ⟨⟨h1,h4⟩,by rw [h3]⟩
 ·rintro ⟨⟨h1,h2⟩,h3⟩
  injection h3 with _ _ h4
  exact ⟨h1,fun h=>absurd h h0,fun _=>⟨h4.symm,h2⟩⟩
theorem recB_state {r:RV} (h0:r.g≠0) (h:stateO r.s=true):nB r.g ++ stateE r.s=recB r:=by
 unfold recB
 rw [if_neg h0,state_encE h]
theorem recB_cmd {r:RV} (h0:r.g=0):recB r=nB 0 ++ cmdB r.c:=by
 unfold recB
 rw [if_pos h0,h0]
end Go.Proofs.Ytfdldbfjeamlcaa.RecWOk
namespace Go.Proofs.Ytfdldbfjeamlcaa.RecWRec
set_option maxRecDepth 100000
set_option maxHeartbeats 4000000
open Go.RowKit Mem RecMem RecByte RecNum RecEach RecMath RecPort RecCmd RecCod RecCods RecCommand RecCmdJ RecVal RecSame RecOwn RecRecC RecWAt RecWFlat RecWListI RecWCls RecWJob RecWListK RecWListP RecWListE RecWListJ RecWState RecWOk
theorem askWf {c:CV} (h:CWf c):QWf (askOf c):=by
 have h1:=h.1
 simp only [List.forall_mem_cons] at h1
 obtain ⟨x1,x2,x3,x4,x5,x6,x7,x8,x9,x10,x11,x12,x13,x14,x15,x16,x17,x18,x19,_⟩:=h1
 exact ⟨x2,x3,x4,x5,x6,x7,x8,h.2⟩
def cmdJE (c:CV):Bs:=[c.kd] ++ askE (askOf c)
theorem wcmdJL (gp g:Nat) (v:Value) (t:List Int) (od:Bool) (c:CV) (Y:Option Addr) (cy:Nat) (hl:t.length≤600000000) (hk:c.kd=1) (hcy:c.af.length≤cy) (hm:c.af.length≤maxLen) (hw:CWf c) (w:World) (hP:PW w gp v t od) (hK:RB w g c Y cy) (hF:Far gp v w g) (hI:SlcFar 1 iF gp v w Y c.af) :
    Calls Try.prog 75 #[.pointer (some ⟨gp,0,none⟩),.pointer (some ⟨g,17,none⟩)] w fun e w' => WOut (cmdJE c) (askO (askOf c)) gp v t od w e w':=by
 have HM0:=Lib.hid (WMid.refl hP)
 have HA0:=Lib.hid (WAt.blk hK hF)
 have HLB:=Lib.hid hl
 have HW:=Lib.hid (askWf hw)
 have HX0:=Lib.hid hI
 have HY:=Lib.hid (And.intro hcy hm)
 have KK:=Lib.hid hk
 clear hP hK hF hl hw hI hcy hm hk
 have HC1:=Lib.hid (wbyteW gp _ _ _ g 17 c.kd (by have h9:=HLB.out;simp only [List.length_append,List.length_nil,List.length_cons];omega) _ HM0.out.1 (HA0.out.sub 17 1 (M:=[.int .u8 c.kd]) rfl))
 go_enter Try.func75,Try.ntmps75
 go_wp2_with fail
 refine HC1.out.mono ?_
 intro e w1 hj
 obtain ⟨⟨r1,rfl⟩,v1,hM,hf⟩:=WMid.next HM0.out hj
 have HM1:=Lib.hid hM
 have HA1:=Lib.hid (HA0.out.fr hf)
 have HX1:=Lib.hid (HX0.out.fr iStaysF hf)
 clear hj hM hf HC1 HM0 HA0 HX0
 have kc:w1.cell? ⟨g,17,none⟩=some (.int .u8 c.kd):=by have:=HA1.out.c 17 (.int .u8 c.kd) rfl;rwa [Nat.zero_add] at this
 have HC2:=Lib.hid (waskW gp _ _ _ g 18 (askOf c) Y cy HW.out HY.out.1 HY.out.2 (by have h9:=HLB.out;have:=askE_len (askOf c);simp only [List.length_append,List.length_nil,List.length_cons];omega) _ HM1.out.1 (wat_eq (by omega) (HA1.out.sub 19 13 (M:=[.int .i64 c.us,.int .i64 c.cl,.int .i64 c.a,.int .i64 c.b,.int .i64 c.c,.bool c.p,.bool c.q,.bool c.r,.bool c.tn,.int .i64 c.wa,.int .i64 c.pr,.bool c.he,.slice Y c.af.length cy]) rfl)) HX1.out)
 have hk:=KK.out
 go_wp2_with fail
 refine HC2.out.mono ?_
 intro e w2 hj
 obtain ⟨⟨r2,rfl⟩,v2,hM,hf⟩:=WMid.next HM1.out hj
 have HM2:=Lib.hid hM
 clear hj hM hf HC2 HM1 HA1 HX1 kc hk
 go_wp2_with fail
 go_end0
 exact WMid.out HM2.out (by simp only [cmdJE,List.nil_append]) (by simp only [Bool.true_and]) _
theorem wrecordL (gp g:Nat) (v:Value) (c:CV) (Y:Option Addr) (cy:Nat) (hk:c.kd=1) (hcy:c.af.length≤cy) (hm:c.af.length≤maxLen) (hw:CWf c) (w:World) (hP:PW w gp v [] false) (hK:RB w g c Y cy) (hF:Far gp v w g) (hI:SlcFar 1 iF gp v w Y c.af) :
    Calls Try.prog 44 #[.pointer (some ⟨gp,0,none⟩),.pointer (some ⟨g,0,none⟩)] w fun e w' => WOut (nB 0 ++ cmdJE c) (askO (askOf c)) gp v [] false w e w':=by
 have HC1:=Lib.hid (wnum gp v [] false g 0 0 (by decide) (by simp) w hP (RB.c0 hK) (RB.fz hK 0) hF)
 have H0:=Lib.hid (And.intro hK (And.intro hF hI))
 have HW:=Lib.hid hw
 have KK:=Lib.hid hk
 clear hP hK hF hI hw hk
 go_enter Try.func44,Try.ntmps44
 go_wp2_with fail
 refine HC1.out.mono ?_
 rintro e w1 ⟨⟨r1,rfl⟩,v1,hP1,hF1⟩
 have k0:w1.cell? ⟨g,0,none⟩=some (.int .i64 0):=RB.c0 (RB.fr H0.out.1 hF1 H0.out.2.1)
 have po:w1.cell? ⟨gp,2,none⟩=some (.bool false):=hP1.1.cell 2
 have pf:=hP1.1.frozen 2
 have se:=setCell_self po
 have HC2:=Lib.hid (wcmdJL gp g v1 (nB 0) false c Y cy (by rw [nB_len];omega) KK.out hcy hm HW.out w1 hP1 (RB.fr H0.out.1 hF1 H0.out.2.1) (hF1.far H0.out.2.1) (H0.out.2.2.fr iStaysF hF1))
 have H1:=Lib.hid hF1
 have SE:=Lib.hid se
 clear hP1 hF1 HC1 H0 se
 go_wp2_with fail
 rw [SE.out]
 refine HC2.out.mono ?_
 rintro e w2 ⟨⟨r2,rfl⟩,v2,hP2,hF2⟩
 have H2:=Lib.hid (And.intro hP2 (H1.out.trans hF2))
 clear hP2 hF2 HC2 k0 po pf
 go_wp2_with fail
 go_end0
 exact ⟨⟨_,rfl⟩,v2,H2.out.1,H2.out.2⟩
theorem wrecordS1 (gp b:Nat) (v:Value) (g:Int) (s:SV) (x:SA) (hg:W64 g) (h0:g≠0) (h1:0≤g) (h2:g≤2147483647) (hw:SWf s) (ht:StTop s) (hcp:StCap s x) (w:World) (hP:PW w gp v [] false) (hA:WAt gp v w b 0 [.int .i64 g,.int .i64 s.d0,.int .i64 s.d1,.int .i64 s.d2,.int .i64 s.bo,.int .i64 s.fr,.int .i64 s.tr,.int .i64 s.ag,.slice x.C s.cs.length x.cc,.int .i64 s.nw,.int .i64 s.nx,.slice x.J s.js.length x.cj,.slice x.P s.ps.length x.cp,.slice x.K s.ks.length x.ck,.slice x.D s.dn.length x.cd,.slice x.S s.sh.length x.cs,.slice x.U s.cu.length x.cu,.int .u8 0,.int .i64 0,.int .i64 0,.int .i64 0,.int .i64 0,.int .i64 0,.int .i64 0,.bool false,.bool false,.bool false,.bool false,.int .i64 0,.int .i64 0,.bool false,.slice none 0 0,.int .u8 0,.int .i64 0,.int .i64 0,.int .i64 0,.int .i64 0,.int .i64 0,.int .i64 0,.int .i64 0,.int .i64 0,.int .i64 0,.int .i64 0,.int .i64 0,.bool false]) (hX:StFar gp v w s x) :
    Calls Try.prog 44 #[.pointer (some ⟨gp,0,none⟩),.pointer (some ⟨b,0,none⟩)] w fun e w' => WOut (nB g ++ stateE s) (genO g && stateO s) gp v [] false w e w':=by
 have HC1:=Lib.hid (wnum gp v [] false b 0 g hg (by simp) w hP (hA.c0 _ rfl) (hA.f0 _ rfl) hA.far)
 have H0:=Lib.hid (And.intro hA hX)
 have HW:=Lib.hid (And.intro hw (And.intro ht hcp))
 have HG:=Lib.hid (show genO g=true from by simp [genO];omega)
 have c1:¬ (g < 0):=by omega
 have c2:¬ (2147483647 < g):=by omega
 clear h1 h2
 have HH:=Lib.hid h0
 have hn0:(g == 0)=false:=beq_eq_false_iff_ne.2 h0
 clear hP hA hX hw ht hcp h0
 go_enter Try.func44,Try.ntmps44
 go_wp2_with fail
 refine HC1.out.mono ?_
 rintro e w1 ⟨⟨r1,rfl⟩,v1,hP1,hF1⟩
 have k0:w1.cell? ⟨b,0,none⟩=some (.int .i64 g):=(H0.out.1.fr hF1).c0 _ rfl
 have po:w1.cell? ⟨gp,2,none⟩=some (.bool false):=hP1.1.cell 2
 have pf:=hP1.1.frozen 2
 have hbg:b≠gp:=H0.out.1.far.2.1
 have SE:=Lib.hid (setCell_self po)
 have HC2:=Lib.hid (wstateW gp v1 (nB g) false b 1 s x HW.out.1 HW.out.2.1 HW.out.2.2 (by rw [nB_len];omega) w1 hP1 (wat_eq (by omega) ((H0.out.1.fr hF1).sub 1 16 (M:=(sL s x)) rfl)) (H0.out.2.fr hF1))
 have H1:=Lib.hid hF1
 clear hP1 hF1 HC1 H0
 have HCB:=Lib.hid (show (decide (g < 0) || decide (2147483647 < g))=false from by
  have e1:decide (g < 0)=false:=decide_eq_false (by omega)
  have e2:decide (2147483647 < g)=false:=decide_eq_false (by omega)
  rw [e1,e2];rfl)
 go_wp2_with fail
 rw [HCB.out,SE.out]
 refine HC2.out.mono ?_
 rintro e w2 ⟨⟨r2,rfl⟩,v2,hP2,hF2⟩
 have H2:=Lib.hid (And.intro hP2 (H1.out.trans hF2))
 clear hP2 hF2 HC2 k0 po pf
 go_wp2_with fail
 go_end0
 refine ⟨⟨_,rfl⟩,v2,?_,H2.out.2⟩
 rw [HG.out]
 simpa using H2.out.1
theorem wrecordS2 (gp b:Nat) (v:Value) (g:Int) (s:SV) (x:SA) (hg:W64 g) (h0:g≠0) (h1:g < 0) (hw:SWf s) (ht:StTop s) (hcp:StCap s x) (w:World) (hP:PW w gp v [] false) (hA:WAt gp v w b 0 [.int .i64 g,.int .i64 s.d0,.int .i64 s.d1,.int .i64 s.d2,.int .i64 s.bo,.int .i64 s.fr,.int .i64 s.tr,.int .i64 s.ag,.slice x.C s.cs.length x.cc,.int .i64 s.nw,.int .i64 s.nx,.slice x.J s.js.length x.cj,.slice x.P s.ps.length x.cp,.slice x.K s.ks.length x.ck,.slice x.D s.dn.length x.cd,.slice x.S s.sh.length x.cs,.slice x.U s.cu.length x.cu,.int .u8 0,.int .i64 0,.int .i64 0,.int .i64 0,.int .i64 0,.int .i64 0,.int .i64 0,.bool false,.bool false,.bool false,.bool false,.int .i64 0,.int .i64 0,.bool false,.slice none 0 0,.int .u8 0,.int .i64 0,.int .i64 0,.int .i64 0,.int .i64 0,.int .i64 0,.int .i64 0,.int .i64 0,.int .i64 0,.int .i64 0,.int .i64 0,.int .i64 0,.bool false]) (hX:StFar gp v w s x) :
    Calls Try.prog 44 #[.pointer (some ⟨gp,0,none⟩),.pointer (some ⟨b,0,none⟩)] w fun e w' => WOut (nB g ++ stateE s) (genO g && stateO s) gp v [] false w e w':=by
 have HC1:=Lib.hid (wnum gp v [] false b 0 g hg (by simp) w hP (hA.c0 _ rfl) (hA.f0 _ rfl) hA.far)
 have H0:=Lib.hid (And.intro hA hX)
 have HW:=Lib.hid (And.intro hw (And.intro ht hcp))
 have HG:=Lib.hid (show genO g=false from by simp [genO];omega)
 have c1:decide (g < 0)=true:=decide_eq_true h1
 clear h1
 have HH:=Lib.hid h0
 have hn0:(g == 0)=false:=beq_eq_false_iff_ne.2 h0
 clear hP hA hX hw ht hcp h0
 go_enter Try.func44,Try.ntmps44
 go_wp2_with fail
 refine HC1.out.mono ?_
 rintro e w1 ⟨⟨r1,rfl⟩,v1,hP1,hF1⟩
 have k0:w1.cell? ⟨b,0,none⟩=some (.int .i64 g):=(H0.out.1.fr hF1).c0 _ rfl
 have po:w1.cell? ⟨gp,2,none⟩=some (.bool false):=hP1.1.cell 2
 have pf:=hP1.1.frozen 2
 have hbg:b≠gp:=H0.out.1.far.2.1
 have hFs:Fr gp v1 w1 v1 (w1.setCell ⟨gp,2,none⟩ (.bool true)):=(Fr.refl gp v1 w1).set_ (p:=⟨gp,2,none⟩) (.inl rfl) _
 have HC2:=Lib.hid (wstateW gp v1 (nB g) true b 1 s x HW.out.1 HW.out.2.1 HW.out.2.2 (by rw [nB_len];omega) (w1.setCell ⟨gp,2,none⟩ (.bool true)) (PW.odd hP1 true) (wat_eq (by omega) (((H0.out.1.fr hF1).fr hFs).sub 1 16 (M:=(sL s x)) rfl)) ((H0.out.2.fr hF1).fr hFs))
 have H1:=Lib.hid (hF1.trans hFs)
 clear hP1 hF1 HC1 H0 hFs
 go_wp2_with fail
 refine HC2.out.mono ?_
 rintro e w2 ⟨⟨r2,rfl⟩,v2,hP2,hF2⟩
 have H2:=Lib.hid (And.intro hP2 (H1.out.trans hF2))
 clear hP2 hF2 HC2 k0 po pf
 go_wp2_with fail
 go_end0
 refine ⟨⟨_,rfl⟩,v2,?_,H2.out.2⟩
 rw [HG.out]
 simpa using H2.out.1
theorem wrecordS3 (gp b:Nat) (v:Value) (g:Int) (s:SV) (x:SA) (hg:W64 g) (h0:g≠0) (h1:2147483647 < g) (hw:SWf s) (ht:StTop s) (hcp:StCap s x) (w:World) (hP:PW w gp v [] false) (hA:WAt gp v w b 0 [.int .i64 g,.int .i64 s.d0,.int .i64 s.d1,.int .i64 s.d2,.int .i64 s.bo,.int .i64 s.fr,.int .i64 s.tr,.int .i64 s.ag,.slice x.C s.cs.length x.cc,.int .i64 s.nw,.int .i64 s.nx,.slice x.J s.js.length x.cj,.slice x.P s.ps.length x.cp,.slice x.K s.ks.length x.ck,.slice x.D s.dn.length x.cd,.slice x.S s.sh.length x.cs,.slice x.U s.cu.length x.cu,.int .u8 0,.int .i64 0,.int .i64 0,.int .i64 0,.int .i64 0,.int .i64 0,.int .i64 0,.bool false,.bool false,.bool false,.bool false,.int .i64 0,.int .i64 0,.bool false,.slice none 0 0,.int .u8 0,.int .i64 0,.int .i64 0,.int .i64 0,.int .i64 0,.int .i64 0,.int .i64 0,.int .i64 0,.int .i64 0,.int .i64 0,.int .i64 0,.int .i64 0,.bool false]) (hX:StFar gp v w s x) :
    Calls Try.prog 44 #[.pointer (some ⟨gp,0,none⟩),.pointer (some ⟨b,0,none⟩)] w fun e w' => WOut (nB g ++ stateE s) (genO g && stateO s) gp v [] false w e w':=by
 have HC1:=Lib.hid (wnum gp v [] false b 0 g hg (by simp) w hP (hA.c0 _ rfl) (hA.f0 _ rfl) hA.far)
 have H0:=Lib.hid (And.intro hA hX)
 have HW:=Lib.hid (And.intro hw (And.intro ht hcp))
 have HG:=Lib.hid (show genO g=false from by simp [genO];omega)
 have c1:decide (g < 0)=false:=decide_eq_false (by omega)
 have c2:decide (2147483647 < g)=true:=decide_eq_true h1
 clear h1
 have HH:=Lib.hid h0
 have hn0:(g == 0)=false:=beq_eq_false_iff_ne.2 h0
 clear hP hA hX hw ht hcp h0
 go_enter Try.func44,Try.ntmps44
 go_wp2_with fail
 refine HC1.out.mono ?_
 rintro e w1 ⟨⟨r1,rfl⟩,v1,hP1,hF1⟩
 have k0:w1.cell? ⟨b,0,none⟩=some (.int .i64 g):=(H0.out.1.fr hF1).c0 _ rfl
 have po:w1.cell? ⟨gp,2,none⟩=some (.bool false):=hP1.1.cell 2
 have pf:=hP1.1.frozen 2
 have hbg:b≠gp:=H0.out.1.far.2.1
 have hFs:Fr gp v1 w1 v1 (w1.setCell ⟨gp,2,none⟩ (.bool true)):=(Fr.refl gp v1 w1).set_ (p:=⟨gp,2,none⟩) (.inl rfl) _
 have HC2:=Lib.hid (wstateW gp v1 (nB g) true b 1 s x HW.out.1 HW.out.2.1 HW.out.2.2 (by rw [nB_len];omega) (w1.setCell ⟨gp,2,none⟩ (.bool true)) (PW.odd hP1 true) (wat_eq (by omega) (((H0.out.1.fr hF1).fr hFs).sub 1 16 (M:=(sL s x)) rfl)) ((H0.out.2.fr hF1).fr hFs))
 have H1:=Lib.hid (hF1.trans hFs)
 clear hP1 hF1 HC1 H0 hFs
 go_wp2_with fail
 refine HC2.out.mono ?_
 rintro e w2 ⟨⟨r2,rfl⟩,v2,hP2,hF2⟩
 have H2:=Lib.hid (And.intro hP2 (H1.out.trans hF2))
 clear hP2 hF2 HC2 k0 po pf
 go_wp2_with fail
 go_end0
 refine ⟨⟨_,rfl⟩,v2,?_,H2.out.2⟩
 rw [HG.out]
 simpa using H2.out.1
theorem wrecordS (gp b:Nat) (v:Value) (g:Int) (s:SV) (x:SA) (hg:W64 g) (h0:g≠0) (hw:SWf s) (ht:StTop s) (hcp:StCap s x) (w:World) (hP:PW w gp v [] false) (hA:WAt gp v w b 0 [.int .i64 g,.int .i64 s.d0,.int .i64 s.d1,.int .i64 s.d2,.int .i64 s.bo,.int .i64 s.fr,.int .i64 s.tr,.int .i64 s.ag,.slice x.C s.cs.length x.cc,.int .i64 s.nw,.int .i64 s.nx,.slice x.J s.js.length x.cj,.slice x.P s.ps.length x.cp,.slice x.K s.ks.length x.ck,.slice x.D s.dn.length x.cd,.slice x.S s.sh.length x.cs,.slice x.U s.cu.length x.cu,.int .u8 0,.int .i64 0,.int .i64 0,.int .i64 0,.int .i64 0,.int .i64 0,.int .i64 0,.bool false,.bool false,.bool false,.bool false,.int .i64 0,.int .i64 0,.bool false,.slice none 0 0,.int .u8 0,.int .i64 0,.int .i64 0,.int .i64 0,.int .i64 0,.int .i64 0,.int .i64 0,.int .i64 0,.int .i64 0,.int .i64 0,.int .i64 0,.int .i64 0,.bool false]) (hX:StFar gp v w s x) :
    Calls Try.prog 44 #[.pointer (some ⟨gp,0,none⟩),.pointer (some ⟨b,0,none⟩)] w fun e w' => WOut (nB g ++ stateE s) (genO g && stateO s) gp v [] false w e w':=by
 by_cases h1:g < 0
 ·exact wrecordS2 gp b v g s x hg h0 h1 hw ht hcp w hP hA hX
 ·by_cases h2:2147483647 < g
  ·exact wrecordS3 gp b v g s x hg h0 h2 hw ht hcp w hP hA hX
  ·exact wrecordS1 gp b v g s x hg h0 (by omega) (by omega) hw ht hcp w hP hA hX
end Go.Proofs.Ytfdldbfjeamlcaa.RecWRec
namespace Go.Proofs.Ytfdldbfjeamlcaa.RecCmdL
open Go.RowKit Mem RecMem RecByte RecNum RecEach RecMath RecCommand RecCmdJ RecWr0
open Go.Sort (grow)
theorem ccommandL (c:CV) (Y:Option Addr) (cy:Nat) (hn:c.af.length≤17592186044416) (w:World) (hI:IntsAt w Y c.af):Calls Try.prog 16 #[.agg (cmdA c Y cy)] w fun e w' => RetC w w' c e:=
 (ccommandK c Y cy hn w hI).mono fun _ _ ⟨Y',cy',h1,h2,h3,h4,h5,_⟩=>⟨Y',cy',h1,h2,h3,h4,h5⟩
end Go.Proofs.Ytfdldbfjeamlcaa.RecCmdL
namespace Go.Proofs.Ytfdldbfjeamlcaa.RecEqA
open Go.RowKit Mem RecMem RecByte RecNum RecEach RecMath RecCommand RecEq
theorem iequalA (X Y:Option Addr) (c d:Nat) (l m:List Int) (hl:l.length≤9223372036854775807) (hm:m.length≤9223372036854775807) (w:World) (hX:IntsAt w X l) (hY:IntsAt w Y m) :
    Calls Try.prog 50 #[.slice X l.length c,.slice Y m.length d] w fun e w' => e = .returned (.bool (decide (l=m)))∧Below w.heap.size w w':=by
 obtain ⟨V,hV⟩:∃ V,V=decide (l=m):=⟨_,rfl⟩
 rw [← hV]
 have HV:=Lib.hid hV
 have HX:=Lib.hid hX
 have HY:=Lib.hid hY
 clear hV hX hY
 by_cases hn:l.length=m.length
 ·have hn':((l.length:Int) != (m.length:Int))=false:=by simp [hn]
  have HN:=Lib.hid hn
  have hle:(l.length:Int)≤(m.length:Int):=by omega
  clear hn
  go_enter Try.func50,Try.ntmps50
  go_wp2_with fail
  go_loopw [13] (fun i wr=>∃ k:Nat,k≤l.length∧i = .int .i64 k∧Hid (∀ (j:Nat) (x y:Int),j < k→l[j]? = some x→m[j]? = some y→x=y)∧Hid (Below w.heap.size w wr))
   (fun i _=>l.length - (intOf i).toNat)
  case atStart=>exact ⟨0,Nat.zero_le _,rfl,(fun j x y h=>by omega),Below.refl _ _⟩
  case round =>
   obtain ⟨k,hk,rfl,hP,hB⟩:=hrel
   by_cases hlt:k < l.length
   ·have hg:l[k]? = some l[k]:=List.getElem?_eq_getElem hlt
    generalize l[k]=x at hg
    have hkm:k < m.length:=by have:=HN.out;omega
    have hg2:m[k]? = some m[k]:=List.getElem?_eq_getElem hkm
    generalize m[k]=y at hg2
    have hki:(k:Int) < (l.length:Int):=by omega
    have hki2:(k:Int) < (m.length:Int):=by omega
    have hki0:(0:Int)≤(k:Int):=by omega
    obtain ⟨b,o,rfl,hb,y0⟩:=IntsAt.up HX.out hB.out k x hg
    obtain ⟨b',o',rfl,hb',z0⟩:=IntsAt.up HY.out hB.out k y hg2
    have HG:=Lib.hid (And.intro hg hg2)
    clear hg hg2
    by_cases he:x=y
    ·have he':(x != y)=false:=by simp [he]
     have HE:=Lib.hid he
     clear he
     go_wp2_with fail
     go_quiet (fail)
     go_wp2_with fail
     go_roundw
     case rel=>exact ⟨k+1,by omega,by go_num,(fun j u v hj hu hv=>by
         rcases Nat.lt_or_ge j k with h | h
         ·exact hP.out j u v h hu hv
         ·obtain rfl:j=k:=by omega
          rw [HG.out.1] at hu;rw [HG.out.2] at hv;cases hu;cases hv;exact HE.out),Mem.below_drewN hB.out _⟩
     case measure=>simp [intOf];omega
    ·have he':(x != y)=true:=by simp [he]
     have ev:V=false:=by rw [HV.out];exact decide_eq_false (list_ne HG.out.1 HG.out.2 he)
     have EV:=Lib.hid ev
     clear he ev
     go_wp2_with fail
     go_quiet (fail)
     go_wp2_with fail
     go_ret
     rw [EV.out]
     exact ⟨rfl,Mem.below_drewN hB.out _⟩
   ·obtain rfl:k=l.length:=by omega
    have ev:V=true:=by rw [HV.out];exact decide_eq_true (list_eq HN.out hP.out)
    have EV:=Lib.hid ev
    clear ev
    go_wp2_with fail
    go_ret
    rw [EV.out]
    exact ⟨rfl,hB.out⟩
 ·have hn':((l.length:Int) != (m.length:Int))=true:=by simp;omega
  have ev:V=false:=by rw [HV.out];exact decide_eq_false fun e=>hn (by rw [e])
  have EV:=Lib.hid ev
  clear hn ev
  go_enter Try.func50,Try.ntmps50
  go_wp2_with fail
  go_ret
  rw [EV.out]
  exact ⟨rfl,Below.refl _ _⟩
end Go.Proofs.Ytfdldbfjeamlcaa.RecEqA
namespace Go.Proofs.Ytfdldbfjeamlcaa.RecJobsA
set_option maxRecDepth 100000
set_option maxHeartbeats 8000000
open Go.RowKit Mem RecMem RecByte RecNum RecEach RecMath RecCommand RecEq RecEqA RecJobs
theorem rjobsA (c d:CV) (Y Z:Option Addr) (cy cz:Nat) (hc:CWf c) (hd:CWf d) (hl:c.af.length≤9223372036854775807) (hm:d.af.length≤9223372036854775807) (w:World) (hY:IntsAt w Y c.af) (hZ:IntsAt w Z d.af) :
    Calls Try.prog 47 #[.agg #[.int .i64 c.id,.int .i64 c.us,.int .i64 c.cl,.int .i64 c.a,.int .i64 c.b,.int .i64 c.c,.bool c.p,.bool c.q,.bool c.r,.bool c.tn,.int .i64 c.wa,.int .i64 c.pr,.bool c.he,.slice Y c.af.length cy,.int .u8 c.st,.int .i64 c.ca],.agg #[.int .i64 d.id,.int .i64 d.us,.int .i64 d.cl,.int .i64 d.a,.int .i64 d.b,.int .i64 d.c,.bool d.p,.bool d.q,.bool d.r,.bool d.tn,.int .i64 d.wa,.int .i64 d.pr,.bool d.he,.slice Z d.af.length cz,.int .u8 d.st,.int .i64 d.ca]] w fun e w' => e = .returned (.bool (jobB c d))∧Below w.heap.size w w':=by
 have qw:=eq_wants hc hd
 have HC:=Lib.hid (fun (W:World) (h1:IntsAt W Y c.af) (h2:IntsAt W Z d.af)=>iequalA Y Z cy cz c.af d.af hl hm W h1 h2)
 have HYZ:=Lib.hid (And.intro hY hZ)
 clear hY hZ hc hd
 go_enter Try.func47,Try.ntmps47
 go_wp2_with fail
 refine (HC.out _ (HYZ.out.1.up (below_alloc (below_alloc (Below.refl _ _)))) (HYZ.out.2.up (below_alloc (below_alloc (Below.refl _ _))))).mono ?_
 rintro e w1 ⟨rfl,hB1⟩
 have KA:=((Blk.new w 28 #[.int .i64 c.id,.int .i64 c.us,.int .i64 c.cl,.int .i64 c.a,.int .i64 c.b,.int .i64 c.c,.bool c.p,.bool c.q,.bool c.r,.bool c.tn,.int .i64 c.wa,.int .i64 c.pr,.bool c.he,.slice Y c.af.length cy,.int .u8 c.st,.int .i64 c.ca]).alloc (.cells #[.int .i64 d.id,.int .i64 d.us,.int .i64 d.cl,.int .i64 d.a,.int .i64 d.b,.int .i64 d.c,.bool d.p,.bool d.q,.bool d.r,.bool d.tn,.int .i64 d.wa,.int .i64 d.pr,.bool d.he,.slice Z d.af.length cz,.int .u8 d.st,.int .i64 d.ca] 28)).below hB1 (by simp;omega)
 have KB:=(blk1 w 28 #[.int .i64 d.id,.int .i64 d.us,.int .i64 d.cl,.int .i64 d.a,.int .i64 d.b,.int .i64 d.c,.bool d.p,.bool d.q,.bool d.r,.bool d.tn,.int .i64 d.wa,.int .i64 d.pr,.bool d.he,.slice Z d.af.length cz,.int .u8 d.st,.int .i64 d.ca] (o:=.cells #[.int .i64 c.id,.int .i64 c.us,.int .i64 c.cl,.int .i64 c.a,.int .i64 c.b,.int .i64 c.c,.bool c.p,.bool c.q,.bool c.r,.bool c.tn,.int .i64 c.wa,.int .i64 c.pr,.bool c.he,.slice Y c.af.length cy,.int .u8 c.st,.int .i64 c.ca] 28)).below hB1 (by simp)
 have HB:=Lib.hid (below_up (below_alloc (below_alloc (Below.refl _ _))) hB1)
 have a0:w1.cell? ⟨w.heap.size,0,none⟩=some (.int .i64 c.id):=KA.cell 0
 have a1:w1.cell? ⟨w.heap.size,1,none⟩=some (.int .i64 c.us):=KA.cell 1
 have a2:w1.cell? ⟨w.heap.size,2,none⟩=some (.int .i64 c.cl):=KA.cell 2
 have a3:w1.cell? ⟨w.heap.size,3,none⟩=some (.int .i64 c.a):=KA.cell 3
 have a4:w1.cell? ⟨w.heap.size,4,none⟩=some (.int .i64 c.b):=KA.cell 4
 have a5:w1.cell? ⟨w.heap.size,5,none⟩=some (.int .i64 c.c):=KA.cell 5
 have a6:w1.cell? ⟨w.heap.size,6,none⟩=some (.bool c.p):=KA.cell 6
 have a7:w1.cell? ⟨w.heap.size,7,none⟩=some (.bool c.q):=KA.cell 7
 have a8:w1.cell? ⟨w.heap.size,8,none⟩=some (.bool c.r):=KA.cell 8
 have a9:w1.cell? ⟨w.heap.size,9,none⟩=some (.bool c.tn):=KA.cell 9
 have a10:w1.cell? ⟨w.heap.size,10,none⟩=some (.int .i64 c.wa):=KA.cell 10
 have a11:w1.cell? ⟨w.heap.size,11,none⟩=some (.int .i64 c.pr):=KA.cell 11
 have a12:w1.cell? ⟨w.heap.size,12,none⟩=some (.bool c.he):=KA.cell 12
 have a14:w1.cell? ⟨w.heap.size,14,none⟩=some (.int .u8 c.st):=KA.cell 14
 have a15:w1.cell? ⟨w.heap.size,15,none⟩=some (.int .i64 c.ca):=KA.cell 15
 have b0:w1.cell? ⟨w.heap.size+1,0,none⟩=some (.int .i64 d.id):=KB.cell 0
 have b1:w1.cell? ⟨w.heap.size+1,1,none⟩=some (.int .i64 d.us):=KB.cell 1
 have b2:w1.cell? ⟨w.heap.size+1,2,none⟩=some (.int .i64 d.cl):=KB.cell 2
 have b3:w1.cell? ⟨w.heap.size+1,3,none⟩=some (.int .i64 d.a):=KB.cell 3
 have b4:w1.cell? ⟨w.heap.size+1,4,none⟩=some (.int .i64 d.b):=KB.cell 4
 have b5:w1.cell? ⟨w.heap.size+1,5,none⟩=some (.int .i64 d.c):=KB.cell 5
 have b6:w1.cell? ⟨w.heap.size+1,6,none⟩=some (.bool d.p):=KB.cell 6
 have b7:w1.cell? ⟨w.heap.size+1,7,none⟩=some (.bool d.q):=KB.cell 7
 have b8:w1.cell? ⟨w.heap.size+1,8,none⟩=some (.bool d.r):=KB.cell 8
 have b9:w1.cell? ⟨w.heap.size+1,9,none⟩=some (.bool d.tn):=KB.cell 9
 have b10:w1.cell? ⟨w.heap.size+1,10,none⟩=some (.int .i64 d.wa):=KB.cell 10
 have b11:w1.cell? ⟨w.heap.size+1,11,none⟩=some (.int .i64 d.pr):=KB.cell 11
 have b12:w1.cell? ⟨w.heap.size+1,12,none⟩=some (.bool d.he):=KB.cell 12
 have b14:w1.cell? ⟨w.heap.size+1,14,none⟩=some (.int .u8 d.st):=KB.cell 14
 have b15:w1.cell? ⟨w.heap.size+1,15,none⟩=some (.int .i64 d.ca):=KB.cell 15
 clear hB1 KA KB HC HYZ
 cases hE0:decide (c.af=d.af)
 ·go_wp2_with fail
  go_ret
  exact ⟨by rw [show jobB c d=false from by simp only [jobB,hE0,Bool.false_and]];rfl,HB.out⟩
 ·cases e1:(c.id == d.id)
  ·go_wp2_with fail
   go_ret
   exact ⟨by rw [show jobB c d=false from by simp only [jobB,hE0,e1,Bool.true_and,Bool.false_and]];rfl,HB.out⟩
  ·cases e2:(c.us == d.us)
   ·go_wp2_with fail
    go_ret
    exact ⟨by rw [show jobB c d=false from by simp only [jobB,hE0,e1,e2,Bool.true_and,Bool.false_and]];rfl,HB.out⟩
   ·cases e3:(c.cl == d.cl)
    ·go_wp2_with fail
     go_ret
     exact ⟨by rw [show jobB c d=false from by simp only [jobB,hE0,e1,e2,e3,Bool.true_and,Bool.false_and]];rfl,HB.out⟩
    ·cases e4:wantsB c d
     ·go_wp2_with fail
      go_ret
      exact ⟨by rw [show jobB c d=false from by simp only [jobB,hE0,e1,e2,e3,e4,Bool.true_and,Bool.false_and]];rfl,HB.out⟩
     ·cases e5:(c.wa == d.wa)
      ·go_wp2_with fail
       go_ret
       exact ⟨by rw [show jobB c d=false from by simp only [jobB,hE0,e1,e2,e3,e4,e5,Bool.true_and,Bool.false_and]];rfl,HB.out⟩
      ·cases e6:(c.pr == d.pr)
       ·go_wp2_with fail
        go_ret
        exact ⟨by rw [show jobB c d=false from by simp only [jobB,hE0,e1,e2,e3,e4,e5,e6,Bool.true_and,Bool.false_and]];rfl,HB.out⟩
       ·cases e7:(c.he == d.he)
        ·go_wp2_with fail
         go_ret
         exact ⟨by rw [show jobB c d=false from by simp only [jobB,hE0,e1,e2,e3,e4,e5,e6,e7,Bool.true_and,Bool.false_and]];rfl,HB.out⟩
        ·cases e8:(c.st == d.st)
         ·go_wp2_with fail
          go_ret
          exact ⟨by rw [show jobB c d=false from by simp only [jobB,hE0,e1,e2,e3,e4,e5,e6,e7,e8,Bool.true_and,Bool.false_and]];rfl,HB.out⟩
         ·go_wp2_with fail
          go_ret
          exact ⟨by rw [show jobB c d=(c.ca == d.ca) from by simp only [jobB,hE0,e1,e2,e3,e4,e5,e6,e7,e8,Bool.true_and]];rfl,HB.out⟩
end Go.Proofs.Ytfdldbfjeamlcaa.RecJobsA
namespace Go.Proofs.Ytfdldbfjeamlcaa.RecEqJ
set_option maxRecDepth 100000
set_option maxHeartbeats 2000000
open Go.RowKit Mem RecMem RecMath RecCommand RecCmdJ RecVal RecEq RecJobs RecJobsA RecSame RecOwn
def cvOf (x:JV):CV:=⟨0,x.id,x.q.us,x.q.cl,x.q.a,x.q.b,x.q.c,x.q.p,x.q.q,x.q.r,x.q.tn,x.q.wa,x.q.pr,x.q.he,x.q.af,x.st,x.ca,0,0,0,0,0,0,0,0,0,0,false⟩
theorem cvOf_wf {x:JV} (h:JWf x):CWf (cvOf x):=by
 obtain ⟨h1,⟨g1,g2,g3,g4,g5,g6,g7,g8⟩,_,h3⟩:=h
 have z:(Lit.int .i64 0).wf=true:=by decide
 refine ⟨?_,g8⟩
 simp only [List.forall_mem_cons,cvOf]
 exact ⟨h1,g1,g2,g3,g4,g5,g6,g7,h3,z,z,z,z,z,z,z,z,z,z,fun n hn=>by cases hn⟩
theorem jobB_eq (x y:JV):jobB (cvOf x) (cvOf y)=decide (x=y):=by
 obtain ⟨_,⟨_,_,_,_,_,_,_,_,_,_,_,_,_⟩,_,_⟩:=x
 obtain ⟨_,⟨_,_,_,_,_,_,_,_,_,_,_,_,_⟩,_,_⟩:=y
 rw [Bool.eq_iff_iff]
 simp only [jobB,wantsB,cvOf,decide_eq_true_eq,Bool.and_eq_true,beq_iff_eq,JV.mk.injEq,QV.mk.injEq]
 constructor
 ·rintro ⟨h0,e1,e2,e3,h4,e5,e6,e7,e8,e9⟩
  have h1:=of_decide_eq_true h0
  have h5:=of_decide_eq_true h4
  obtain ⟨u1,u2,u3,u4,u5,u6,u7⟩:=h5
  exact ⟨e1,⟨e2,e3,u1,u2,u3,u4,u5,u6,u7,e5,e6,e7,h1⟩,e8,e9⟩
 ·rintro ⟨e1,⟨e2,e3,u1,u2,u3,u4,u5,u6,u7,e5,e6,e7,h1⟩,e8,e9⟩
  exact ⟨decide_eq_true h1,e1,e2,e3,decide_eq_true ⟨u1,u2,u3,u4,u5,u6,u7⟩,e5,e6,e7,e8,e9⟩
theorem rjobsV (x y:JV) (Y Z:Option Addr) (cy cz:Nat) (B:Bool) (hB:decide (x=y)=B) (hx:JWf x) (hy:JWf y) (hl:x.q.af.length≤9223372036854775807) (hm:y.q.af.length≤9223372036854775807) (w:World) (hY:IntsAt w Y x.q.af) (hZ:IntsAt w Z y.q.af) :
    Calls Try.prog 47 #[.agg (jL x Y cy).toArray,.agg (jL y Z cz).toArray] w fun e w' => e = .returned (.bool B)∧Below w.heap.size w w':=by
 have:=rjobsA (cvOf x) (cvOf y) Y Z cy cz (cvOf_wf hx) (cvOf_wf hy) hl hm w hY hZ
 rw [jobB_eq,hB] at this
 exact this
theorem equalJ (X Y:Option Addr) (c d:Nat) (l m:List JV) (hl:l.length≤9223372036854775807) (hm:m.length≤9223372036854775807) (hwl:∀ x ∈ l,JWf x∧x.q.af.length≤9223372036854775807) (hwm:∀ x ∈ m,JWf x∧x.q.af.length≤9223372036854775807) (w:World) (hX:JsAt w X l) (hY:JsAt w Y m) :
    Calls Try.prog 46 #[.slice X l.length c,.slice Y m.length d,.func (.func 47) #[] #[]] w fun e w' => e = .returned (.bool (decide (l=m)))∧Below w.heap.size w w':=by
 obtain ⟨V,hV⟩:∃ V,V=decide (l=m):=⟨_,rfl⟩
 rw [← hV]
 have HV:=Lib.hid hV
 have HX:=Lib.hid (And.intro hX hwl)
 have HY:=Lib.hid (And.intro hY hwm)
 clear hV hX hY hwl hwm
 by_cases hn:l.length=m.length
 ·have hn':((l.length:Int) != (m.length:Int))=false:=by simp [hn]
  have HN:=Lib.hid hn
  have hle:(l.length:Int)≤(m.length:Int):=by omega
  clear hn
  go_enter Try.func46,Try.ntmps46
  go_wp2_with fail
  go_loopw [17] (fun i wr=>∃ k:Nat,k≤l.length∧i = .int .i64 k∧Hid (∀ (j:Nat) (x y:JV),j < k→l[j]? = some x→m[j]? = some y→x=y)∧Hid (Below w.heap.size w wr))
   (fun i _=>l.length - (intOf i).toNat)
  case atStart=>exact ⟨0,Nat.zero_le _,rfl,(fun j x y h=>by omega),Below.refl _ _⟩
  case round =>
   obtain ⟨k,hk,rfl,hP,hB⟩:=hrel
   by_cases hlt:k < l.length
   ·have hg:l[k]? = some l[k]:=List.getElem?_eq_getElem hlt
    generalize l[k]=x at hg
    have hkm:k < m.length:=by have:=HN.out;omega
    have hg2:m[k]? = some m[k]:=List.getElem?_eq_getElem hkm
    generalize m[k]=y at hg2
    have hki:(k:Int) < (l.length:Int):=by omega
    have hki2:(k:Int) < (m.length:Int):=by omega
    have hki0:(0:Int)≤(k:Int):=by omega
    obtain ⟨b,o,cs1,rfl,hb,_,r1,Yx,cyx,e1,_,i1⟩:=SlcAt.up jStays HX.out.1 hB.out k x hg
    obtain ⟨b',o',cs2,rfl,hb',_,r2,Yy,cyy,e2,_,i2⟩:=SlcAt.up jStays HY.out.1 hB.out k y hg2
    subst e1 e2
    have HR1:=Lib.hid r1
    have HR2:=Lib.hid r2
    have HI:=Lib.hid (And.intro i1 i2)
    have HG:=Lib.hid (And.intro hg hg2)
    have HW:=Lib.hid (And.intro (HX.out.2 x (List.mem_of_getElem? hg)) (HY.out.2 y (List.mem_of_getElem? hg2)))
    clear hg hg2 r1 r2 hb hb' i1 i2
    have hx1:=box_full (W:=wr) 28 Sq.zzJ (vs:=jL x Yx cyx) rfl
    go_upto_region 6 with (first | (refine wpList_load_mid rfl 28 _ rfl _ _ rfl _ _ HR1.out Try.underlying28 rfl (by kernel_rfl) ?_) | (refine wpList_store_mid rfl 28 _ _ rfl wr.heap.size 0 (List.toArray (jL x Yx cyx)) rfl rfl (there_of (Blk.new _ 28 Sq.zzJ) (Nat.le_of_ble_eq_true rfl)) (by kernel_rfl) (by kernel_rfl) ?_;simp only [List.toList_toArray];generalize World.setCells _ _ _ _=w2 at *;(try simp only [Act.put])))
    have K2:=Lib.hid hx1
    clear hx1
    have HR3:=Lib.hid (range_below HR2.out K2.out.2)
    have hx2:=box_full (W:=w2) 28 Sq.zzJ (vs:=jL y Yy cyy) rfl
    go_upto_region 7 with (first | (refine wpList_load_mid rfl 28 _ rfl _ _ rfl _ _ HR3.out Try.underlying28 rfl (by kernel_rfl) ?_) | (refine wpList_store_mid rfl 28 _ _ rfl w2.heap.size 0 (List.toArray (jL y Yy cyy)) rfl rfl (there_of (Blk.new _ 28 Sq.zzJ) (Nat.le_of_ble_eq_true rfl)) (by kernel_rfl) (by kernel_rfl) ?_;simp only [List.toList_toArray];generalize World.setCells _ _ _ _=w3 at *;(try simp only [Act.put])))
    have K3:=Lib.hid (And.intro (K2.out.1.below hx2.2 K2.out.1.lt) (And.intro hx2.1 (below_up (below_up hB.out K2.out.2) hx2.2)))
    have HJ:=Lib.hid (And.intro ((HI.out.1.up K2.out.2).up hx2.2) ((HI.out.2.up K2.out.2).up hx2.2))
    clear hx2 K2 HR1 HR2 HR3 HI
    have HRA:=Lib.hid (show w3.rangeAt wr.heap.size 0 (jL x Yx cyx) from range_part (n:=16) K3.out.1 rfl)
    have HRB:=Lib.hid (show w3.rangeAt w2.heap.size 0 (jL y Yy cyy) from range_part (n:=16) K3.out.2.1 rfl)
    cases he:decide (x=y)
    ·have ev:V=false:=by rw [HV.out];exact decide_eq_false (list_ne HG.out.1 HG.out.2 (of_decide_eq_false he))
     have EV:=Lib.hid (And.intro ev he)
     clear he ev
     go_wp2_with (first | (refine wpList_load_mid rfl 28 _ rfl _ _ rfl _ _ HRA.out Try.underlying28 rfl (by kernel_rfl) ?_) | (refine wpList_load_mid rfl 28 _ rfl _ _ rfl _ _ HRB.out Try.underlying28 rfl (by kernel_rfl) ?_))
     refine (rjobsV x y Yx Yy cyx cyy false EV.out.2 HW.out.1.1 HW.out.2.1 HW.out.1.2 HW.out.2.2 _ HJ.out.1 HJ.out.2).mono ?_
     rintro e w4 ⟨rfl,hB4⟩
     have HB4:=Lib.hid (below_up K3.out.2.2 hB4)
     clear hB4
     go_wp2_with fail
     go_ret
     rw [EV.out.1]
     exact ⟨rfl,HB4.out⟩
    ·have HE:=Lib.hid he
     clear he
     go_wp2_with (first | (refine wpList_load_mid rfl 28 _ rfl _ _ rfl _ _ HRA.out Try.underlying28 rfl (by kernel_rfl) ?_) | (refine wpList_load_mid rfl 28 _ rfl _ _ rfl _ _ HRB.out Try.underlying28 rfl (by kernel_rfl) ?_))
     refine (rjobsV x y Yx Yy cyx cyy true HE.out HW.out.1.1 HW.out.2.1 HW.out.1.2 HW.out.2.2 _ HJ.out.1 HJ.out.2).mono ?_
     rintro e w4 ⟨rfl,hB4⟩
     have HB4:=Lib.hid (below_up K3.out.2.2 hB4)
     clear hB4
     go_wp2_with fail
     go_roundw
     case rel=>exact ⟨k+1,by omega,by go_num,(fun j u v hj hu hv=>by
         rcases Nat.lt_or_ge j k with h | h
         ·exact hP.out j u v h hu hv
         ·obtain rfl:j=k:=by omega
          rw [HG.out.1] at hu;rw [HG.out.2] at hv;cases hu;cases hv;exact of_decide_eq_true HE.out),HB4.out⟩
     case measure=>simp [intOf];omega
   ·obtain rfl:k=l.length:=by omega
    have ev:V=true:=by rw [HV.out];exact decide_eq_true (list_eq HN.out hP.out)
    have EV:=Lib.hid ev
    clear ev
    go_wp2_with fail
    go_ret
    rw [EV.out]
    exact ⟨rfl,hB.out⟩
 ·have hn':((l.length:Int) != (m.length:Int))=true:=by simp;omega
  have ev:V=false:=by rw [HV.out];exact decide_eq_false fun e=>hn (by rw [e])
  have EV:=Lib.hid ev
  clear hn ev
  go_enter Try.func46,Try.ntmps46
  go_wp2_with fail
  go_ret
  rw [EV.out]
  exact ⟨rfl,Below.refl _ _⟩
end Go.Proofs.Ytfdldbfjeamlcaa.RecEqJ
namespace Go.Proofs.Ytfdldbfjeamlcaa.QuietRow
open Go.Sort Go.RowKit Mem
theorem quiet_load_mid {P:Program} {ops:Array Oper} {w:World} {Q:Act→Prop} {rest:List Oper} {o:Oper} {a:Act} (hw:Region.wanted o (yielded ops a.tmps)=true) (ty:TypeId) (x:Operand) (ho:o.op = .load ty x) (b off:Nat) (hx:a.eval x = .pointer (some ⟨b,off,none⟩))
    (cs:List Value) (hc:w.rangeAt b off cs) (d:TypeDesc) (hu:P.underlying ty=some d) (hd:d.isRow=true) (hi:(P.info? ty).map (·.size)=some cs.length)
    (h:wpQuiet P ops (fun w' => ∃ p:Regrown,w' = grow (redrawn w p.d) p.os) Q rest (a.put o.dst (.agg cs.toArray))):wpQuiet P ops (fun w' => ∃ p:Regrown,w' = grow (redrawn w p.d) p.os) Q (o :: rest) a:=by
 refine BigFrame.wpQuiet_want hw fun K hK=>⟨.agg cs.toArray,fun w' hw' => ?_,hK _ h⟩
 obtain ⟨p,rfl⟩:=hw'
 have hc':(grow (redrawn w p.d) p.os).rangeAt b off cs:=fun j v hj=>cell_regrown (hc j v hj) _ _
 unfold Oper.quietAt execOp
 simp only [ho,hx,Instr.loadAt,Instr.sureAddr,Sem.run_bind,Sem.run_pure,Result.andThen_ok,run_loadVar_mid _ b off ty cs d hc' hu hd hi]
 exact ⟨rfl,rfl⟩
end Go.Proofs.Ytfdldbfjeamlcaa.QuietRow
namespace Go.Proofs.Ytfdldbfjeamlcaa.RecKeys
open Go.RowKit Mem RecMath RecCommand RecVal RecEq
theorem k_u8 {D:Nat} {n:Int} (h:W8 n):Try.prog.keyLits (D+1) 5 [.int .u8 n]=some [.int .u8 n]:=by
 unfold Program.keyLits
 rw [Try.underlying5]
 have h2:(Lit.int .u8 n).wf=true:=h
 simp [h2]
theorem k_cls {D:Nat} {x:KV} (h:KWf x):Try.prog.keyLits (D+2) 154 (kL x)=some [.int .i64 x.pr,.int .i64 x.wa,.int .i64 x.no,.int .i64 x.ea]:=by
 unfold Program.keyLits
 rw [Try.underlying154]
 have e:Try.prog.cellsOf 154=4:=by kernel_rfl
 have e1:Try.prog.cellsOf 3=1:=by kernel_rfl
 simp [e,e1,k_int h.1,k_int h.2.1,k_int h.2.2.1,k_int h.2.2.2]
theorem k_place {D:Nat} {b0 b1 b2 b3 b4 b5:Int} {p q r:Bool} (h0:W64 b0) (h1:W64 b1) (h2:W64 b2) (h3:W64 b3) (h4:W64 b4) (h5:W64 b5):Try.prog.keyLits (D+4) 107 [.int .i64 b0,.int .i64 b1,.int .i64 b2,.int .i64 b3,.int .i64 b4,.int .i64 b5,.bool p,.bool q,.bool r]=some [.int .i64 b0,.int .i64 b1,.int .i64 b2,.int .i64 b3,.int .i64 b4,.int .i64 b5,.bool p,.bool q,.bool r]:=by
 unfold Program.keyLits
 rw [Try.underlying107]
 have e:Try.prog.cellsOf 107=9:=by kernel_rfl
 have e1:Try.prog.cellsOf 30=6:=by kernel_rfl
 have e2:Try.prog.cellsOf 23=3:=by kernel_rfl
 simp [e,e1,e2,k_box h0 h1 h2 h3 h4 h5,k_bools]
theorem k_part {D:Nat} {x:PV} (h:PWf x):Try.prog.keyLits (D+5) 109 (pL x)=some [.int .i64 x.jb,.int .i64 x.b0,.int .i64 x.b1,.int .i64 x.b2,.int .i64 x.b3,.int .i64 x.b4,.int .i64 x.b5,.bool x.p,.bool x.q,.bool x.r,.int .u8 x.ph,.int .i64 x.tr,.int .i64 x.si]:=by
 obtain ⟨h0,h1,h2,h3,h4,h5,h6,h7,h8,h9⟩:=h
 unfold Program.keyLits
 rw [Try.underlying109]
 have e:Try.prog.cellsOf 109=13:=by kernel_rfl
 have e1:Try.prog.cellsOf 107=9:=by kernel_rfl
 have e2:Try.prog.cellsOf 5=1:=by kernel_rfl
 have e3:Try.prog.cellsOf 3=1:=by kernel_rfl
 simp [e,e1,e2,e3,k_place h1 h2 h3 h4 h5 h6,k_u8 h7,k_int h0,k_int h8,k_int h9]
theorem k_keep {D:Nat} {x:EV} (h:EWf x):Try.prog.keyLits (D+4) 112 (eL x)=some [.int .i64 x.id,.int .i64 x.b0,.int .i64 x.b1,.int .i64 x.b2,.int .i64 x.b3,.int .i64 x.b4,.int .i64 x.b5,.int .i64 x.fr,.int .i64 x.to]:=by
 obtain ⟨h0,h1,h2,h3,h4,h5,h6,h7,h8⟩:=h
 unfold Program.keyLits
 rw [Try.underlying112]
 have e:Try.prog.cellsOf 112=9:=by kernel_rfl
 have e1:Try.prog.cellsOf 30=6:=by kernel_rfl
 have e2:Try.prog.cellsOf 32=2:=by kernel_rfl
 have e3:Try.prog.cellsOf 3=1:=by kernel_rfl
 simp [e,e1,e2,e3,k_box h1 h2 h3 h4 h5 h6,k_span h7 h8,k_int h0]
theorem eq_cls {x y:KV} (hx:KWf x) (hy:KWf y) (w:World):(Op.equalIn 10000 154 (.agg (kL x).toArray) (.agg (kL y).toArray)).run Try.prog w = .ok (decide (x=y)) w:=
 EqDeep.eq_of (m:=6) (D:=2) (D':=2) (by kernel_rfl) (by omega) (by kernel_rfl) (by kernel_rfl) (k_cls hx) (k_cls hy) _ (by cases x;cases y;simp) w
theorem eq_part {x y:PV} (hx:PWf x) (hy:PWf y) (w:World):(Op.equalIn 10000 109 (.agg (pL x).toArray) (.agg (pL y).toArray)).run Try.prog w = .ok (decide (x=y)) w:=
 EqDeep.eq_of (m:=6) (D:=5) (D':=5) (by kernel_rfl) (by omega) (by kernel_rfl) (by kernel_rfl) (k_part hx) (k_part hy) _ (by cases x;cases y;simp) w
theorem eq_keep {x y:EV} (hx:EWf x) (hy:EWf y) (w:World):(Op.equalIn 10000 112 (.agg (eL x).toArray) (.agg (eL y).toArray)).run Try.prog w = .ok (decide (x=y)) w:=
 EqDeep.eq_of (m:=6) (D:=4) (D':=4) (by kernel_rfl) (by omega) (by kernel_rfl) (by kernel_rfl) (k_keep hx) (k_keep hy) _ (by cases x;cases y;simp) w
end Go.Proofs.Ytfdldbfjeamlcaa.RecKeys
