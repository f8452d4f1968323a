/- Several texts joined: rec.Command: a command with its own fields alone. -/
import Derived.BigQuiet
import Derived.Deep.QuietTactic
import Derived.Deep.RegionLaw
import Derived.Lib.QuietBelow
import Derived.Lib.SliceRun
import Derived.Laws.Rows
import Derived.Test.YtfdldbfjeamlcaaPG1
import Derived.Deep.MidRow
import Derived.Test.YtfdldbfjeamlcaaPG2
set_option linter.unusedVariables false
set_option linter.unusedSimpArgs false
namespace Go.Proofs.Ytfdldbfjeamlcaa.RecCommand
set_option maxRecDepth 100000
set_option maxHeartbeats 4000000
open Go.RowKit Mem RecMem RecByte RecNum RecEach RecMath
open Go.Sort (grow)
def IntsAt (w:World) (Y:Option Addr) (l:List Int):Prop:=∀ (i:Nat) (v:Int),l[i]? = some v→∃ b o,Y=some ⟨b,o,none⟩∧b < w.heap.size∧w.cell? ⟨b,o+i,none⟩=some (.int .i64 v)
theorem IntsAt.nil {w:World} {Y:Option Addr} : IntsAt w Y []:=fun i v h=>by simp at h
theorem IntsAt.up {w w':World} {Y:Option Addr} {l:List Int} (h:IntsAt w Y l) (hB:Below w.heap.size w w'):IntsAt w' Y l:=fun i v hi=>by
 obtain ⟨b,o,e,hb,x⟩:=h i v hi
 exact ⟨b,o,e,Nat.lt_of_lt_of_le hb hB.size,keep_cell x hB⟩
theorem own_none (c:CV) (h:¬ isJob c.kd):(own c).af=[]:=by
 unfold own
 rw [if_neg h]
 repeat (first | rfl | split)
abbrev RetC (w w':World) (c:CV) (e:Ending):Prop:=∃ Y' cy',e = .returned (.agg (cmdA (own c) Y' cy'))∧(own c).af.length≤cy'∧IntsAt w' Y' (own c).af∧Below w.heap.size w w'∧∀ b o,Y' = some ⟨b,o,none⟩→w.heap.size≤b
theorem ccmdI (kd:Int) (id us cl a b c:Int) (p q r tn:Bool) (wa pr:Int) (he:Bool) (af:List Int) (st ca ci b0 b1 b2 b3 b4 b5 fr to n:Int) (we:Bool) (Y:Option Addr) (cy:Nat) (hk:kd=2∨kd=3∨kd=4∨kd=6) (w:World) :
    Calls Try.prog 16 #[.agg #[.int .u8 kd,.int .i64 id,.int .i64 us,.int .i64 cl,.int .i64 a,.int .i64 b,.int .i64 c,.bool p,.bool q,.bool r,.bool tn,.int .i64 wa,.int .i64 pr,.bool he,.slice Y af.length cy,.int .u8 st,.int .i64 ca,.int .i64 ci,.int .i64 b0,.int .i64 b1,.int .i64 b2,.int .i64 b3,.int .i64 b4,.int .i64 b5,.int .i64 fr,.int .i64 to,.int .i64 n,.bool we]] w fun e w' => RetC w w' ⟨kd,id,us,cl,a,b,c,p,q,r,tn,wa,pr,he,af,st,ca,ci,b0,b1,b2,b3,b4,b5,fr,to,n,we⟩ e:=by
 rcases hk with rfl | rfl | rfl | rfl
 all_goals
  go_enter Try.func16,Try.ntmps16
  go_wp2_with fail
  refine bodyPost_ret (results_cell_row rfl _ _ (w.heap.size+1) 34 _ (0,0) _ rfl (blk1 w 34 _) Try.underlying34 rfl (by kernel_rfl)) rfl ⟨none,0,rfl,Nat.le_refl _,IntsAt.nil,(below_alloc (below_alloc (Below.refl _ _))),(fun b o e=>by cases e)⟩
theorem ccmdK (kd:Int) (id us cl a b c:Int) (p q r tn:Bool) (wa pr:Int) (he:Bool) (af:List Int) (st ca ci b0 b1 b2 b3 b4 b5 fr to n:Int) (we:Bool) (Y:Option Addr) (cy:Nat) (hk:kd=5) (w:World) :
    Calls Try.prog 16 #[.agg #[.int .u8 kd,.int .i64 id,.int .i64 us,.int .i64 cl,.int .i64 a,.int .i64 b,.int .i64 c,.bool p,.bool q,.bool r,.bool tn,.int .i64 wa,.int .i64 pr,.bool he,.slice Y af.length cy,.int .u8 st,.int .i64 ca,.int .i64 ci,.int .i64 b0,.int .i64 b1,.int .i64 b2,.int .i64 b3,.int .i64 b4,.int .i64 b5,.int .i64 fr,.int .i64 to,.int .i64 n,.bool we]] w fun e w' => RetC w w' ⟨kd,id,us,cl,a,b,c,p,q,r,tn,wa,pr,he,af,st,ca,ci,b0,b1,b2,b3,b4,b5,fr,to,n,we⟩ e:=by
 subst hk
 go_enter Try.func16,Try.ntmps16
 go_wp2_with fail
 go_region_law (fail)
 all_goals
  go_wp2_with fail
  refine bodyPost_ret (results_cell_row rfl _ _ (w.heap.size+1) 34 _ (0,0) _ rfl (blk1 w 34 _) Try.underlying34 rfl (by kernel_rfl)) rfl ⟨none,0,rfl,Nat.le_refl _,IntsAt.nil,(below_alloc (below_alloc (Below.refl _ _))).drew,(fun b o e=>by cases e)⟩
theorem ccmdW (kd:Int) (id us cl a b c:Int) (p q r tn:Bool) (wa pr:Int) (he:Bool) (af:List Int) (st ca ci b0 b1 b2 b3 b4 b5 fr to n:Int) (we:Bool) (Y:Option Addr) (cy:Nat) (hk:kd=8∨kd=9) (w:World) :
    Calls Try.prog 16 #[.agg #[.int .u8 kd,.int .i64 id,.int .i64 us,.int .i64 cl,.int .i64 a,.int .i64 b,.int .i64 c,.bool p,.bool q,.bool r,.bool tn,.int .i64 wa,.int .i64 pr,.bool he,.slice Y af.length cy,.int .u8 st,.int .i64 ca,.int .i64 ci,.int .i64 b0,.int .i64 b1,.int .i64 b2,.int .i64 b3,.int .i64 b4,.int .i64 b5,.int .i64 fr,.int .i64 to,.int .i64 n,.bool we]] w fun e w' => RetC w w' ⟨kd,id,us,cl,a,b,c,p,q,r,tn,wa,pr,he,af,st,ca,ci,b0,b1,b2,b3,b4,b5,fr,to,n,we⟩ e:=by
 rcases hk with rfl | rfl
 all_goals
  go_enter Try.func16,Try.ntmps16
  go_wp2_with fail
  go_region_law (fail)
  all_goals
   go_wp2_with fail
   refine bodyPost_ret (results_cell_row rfl _ _ (w.heap.size+1) 34 _ (0,0) _ rfl (blk1 w 34 _) Try.underlying34 rfl (by kernel_rfl)) rfl ⟨none,0,rfl,Nat.le_refl _,IntsAt.nil,(below_alloc (below_alloc (Below.refl _ _))).drew,(fun b o e=>by cases e)⟩
theorem ccmdN (kd:Int) (id us cl a b c:Int) (p q r tn:Bool) (wa pr:Int) (he:Bool) (af:List Int) (st ca ci b0 b1 b2 b3 b4 b5 fr to n:Int) (we:Bool) (Y:Option Addr) (cy:Nat) (hk:kd=7∨kd=10∨kd=11∨kd=12∨kd=13∨kd=14∨kd=15) (w:World) :
    Calls Try.prog 16 #[.agg #[.int .u8 kd,.int .i64 id,.int .i64 us,.int .i64 cl,.int .i64 a,.int .i64 b,.int .i64 c,.bool p,.bool q,.bool r,.bool tn,.int .i64 wa,.int .i64 pr,.bool he,.slice Y af.length cy,.int .u8 st,.int .i64 ca,.int .i64 ci,.int .i64 b0,.int .i64 b1,.int .i64 b2,.int .i64 b3,.int .i64 b4,.int .i64 b5,.int .i64 fr,.int .i64 to,.int .i64 n,.bool we]] w fun e w' => RetC w w' ⟨kd,id,us,cl,a,b,c,p,q,r,tn,wa,pr,he,af,st,ca,ci,b0,b1,b2,b3,b4,b5,fr,to,n,we⟩ e:=by
 rcases hk with rfl | rfl | rfl | rfl | rfl | rfl | rfl
 all_goals
  go_enter Try.func16,Try.ntmps16
  go_wp2_with fail
  refine bodyPost_ret (results_cell_row rfl _ _ (w.heap.size+1) 34 _ (0,0) _ rfl (blk1 w 34 _) Try.underlying34 rfl (by kernel_rfl)) rfl ⟨none,0,rfl,Nat.le_refl _,IntsAt.nil,(below_alloc (below_alloc (Below.refl _ _))),(fun b o e=>by cases e)⟩
theorem ccmdZ (kd:Int) (id us cl a b c:Int) (p q r tn:Bool) (wa pr:Int) (he:Bool) (af:List Int) (st ca ci b0 b1 b2 b3 b4 b5 fr to n:Int) (we:Bool) (Y:Option Addr) (cy:Nat) (hz:¬ (1≤kd∧kd≤15)) (w:World) :
    Calls Try.prog 16 #[.agg #[.int .u8 kd,.int .i64 id,.int .i64 us,.int .i64 cl,.int .i64 a,.int .i64 b,.int .i64 c,.bool p,.bool q,.bool r,.bool tn,.int .i64 wa,.int .i64 pr,.bool he,.slice Y af.length cy,.int .u8 st,.int .i64 ca,.int .i64 ci,.int .i64 b0,.int .i64 b1,.int .i64 b2,.int .i64 b3,.int .i64 b4,.int .i64 b5,.int .i64 fr,.int .i64 to,.int .i64 n,.bool we]] w fun e w' => RetC w w' ⟨kd,id,us,cl,a,b,c,p,q,r,tn,wa,pr,he,af,st,ca,ci,b0,b1,b2,b3,b4,b5,fr,to,n,we⟩ e:=by
 have ZZ:=Lib.hid hz
 have h1:¬ isJob kd:=by unfold isJob;omega
 have h2:¬ isId kd:=by unfold isId;omega
 have h3:¬ isKeep kd:=by unfold isKeep;omega
 have h4:¬ isWell kd:=by unfold isWell;omega
 have h5:¬ isN kd:=by unfold isN;omega
 have ne1:(kd == 1)=false:=by rw [beq_eq_false_iff_ne];omega
 have ne2:(kd == 2)=false:=by rw [beq_eq_false_iff_ne];omega
 have ne3:(kd == 3)=false:=by rw [beq_eq_false_iff_ne];omega
 have ne4:(kd == 4)=false:=by rw [beq_eq_false_iff_ne];omega
 have ne5:(kd == 5)=false:=by rw [beq_eq_false_iff_ne];omega
 have ne6:(kd == 6)=false:=by rw [beq_eq_false_iff_ne];omega
 have ne7:(kd == 7)=false:=by rw [beq_eq_false_iff_ne];omega
 have ne8:(kd == 8)=false:=by rw [beq_eq_false_iff_ne];omega
 have ne9:(kd == 9)=false:=by rw [beq_eq_false_iff_ne];omega
 have ne10:(kd == 10)=false:=by rw [beq_eq_false_iff_ne];omega
 have ne11:(kd == 11)=false:=by rw [beq_eq_false_iff_ne];omega
 have ne12:(kd == 12)=false:=by rw [beq_eq_false_iff_ne];omega
 have ne13:(kd == 13)=false:=by rw [beq_eq_false_iff_ne];omega
 have ne14:(kd == 14)=false:=by rw [beq_eq_false_iff_ne];omega
 have ne15:(kd == 15)=false:=by rw [beq_eq_false_iff_ne];omega
 clear hz
 go_enter Try.func16,Try.ntmps16
 go_wp2_with fail
 have e9:own ⟨kd,id,us,cl,a,b,c,p,q,r,tn,wa,pr,he,af,st,ca,ci,b0,b1,b2,b3,b4,b5,fr,to,n,we⟩=⟨kd,0,0,0,0,0,0,false,false,false,false,0,0,false,[],0,0,0,0,0,0,0,0,0,0,0,0,false⟩:=by simp only [own,h1,h2,h3,h4,h5,if_false];rfl
 refine bodyPost_ret (results_cell_row rfl _ _ (w.heap.size+1) 34 _ (0,0) _ rfl (blk1 w 34 _) Try.underlying34 rfl (by kernel_rfl)) rfl ⟨none,0,(by rw [e9];rfl),(by rw [e9];exact Nat.le_refl _),(by rw [e9];exact IntsAt.nil),(below_alloc (below_alloc (Below.refl _ _))),(fun b o e=>by cases e)⟩
end Go.Proofs.Ytfdldbfjeamlcaa.RecCommand
namespace Go.Proofs.Ytfdldbfjeamlcaa.RecVal
open Go.RowKit Mem RecMem RecByte RecNum RecEach RecMath RecCommand
structure KV where
 pr:Int
 wa:Int
 no:Int
 ea:Int
deriving DecidableEq,Inhabited
structure QV where
 us:Int
 cl:Int
 a:Int
 b:Int
 c:Int
 p:Bool
 q:Bool
 r:Bool
 tn:Bool
 wa:Int
 pr:Int
 he:Bool
 af:List Int
deriving DecidableEq,Inhabited
structure JV where
 id:Int
 q:QV
 st:Int
 ca:Int
deriving DecidableEq,Inhabited
structure PV where
 jb:Int
 b0:Int
 b1:Int
 b2:Int
 b3:Int
 b4:Int
 b5:Int
 p:Bool
 q:Bool
 r:Bool
 ph:Int
 tr:Int
 si:Int
deriving DecidableEq,Inhabited
structure EV where
 id:Int
 b0:Int
 b1:Int
 b2:Int
 b3:Int
 b4:Int
 b5:Int
 fr:Int
 to:Int
deriving DecidableEq,Inhabited
structure SV where
 d0:Int
 d1:Int
 d2:Int
 bo:Int
 fr:Int
 tr:Int
 ag:Int
 cs:List KV
 nw:Int
 nx:Int
 js:List JV
 ps:List PV
 ks:List EV
 dn:List Int
 sh:List Int
 cu:List Int
deriving DecidableEq,Inhabited
structure RV where
 g:Int
 s:SV
 c:CV
deriving DecidableEq,Inhabited
def QV.z:QV:=⟨0,0,0,0,0,false,false,false,false,0,0,false,[]⟩
def SV.z:SV:=⟨0,0,0,0,0,0,0,[],0,0,[],[],[],[],[],[]⟩
def RV.z:RV:=⟨0,SV.z,CV.z⟩
abbrev kL (x:KV):List Value:=[.int .i64 x.pr,.int .i64 x.wa,.int .i64 x.no,.int .i64 x.ea]
abbrev qL (x:QV) (Y:Option Addr) (cy:Nat):List Value:=[.int .i64 x.us,.int .i64 x.cl,.int .i64 x.a,.int .i64 x.b,.int .i64 x.c,.bool x.p,.bool x.q,.bool x.r,.bool x.tn,.int .i64 x.wa,.int .i64 x.pr,.bool x.he,.slice Y x.af.length cy]
abbrev jL (x:JV) (Y:Option Addr) (cy:Nat):List Value:=[.int .i64 x.id,.int .i64 x.q.us,.int .i64 x.q.cl,.int .i64 x.q.a,.int .i64 x.q.b,.int .i64 x.q.c,.bool x.q.p,.bool x.q.q,.bool x.q.r,.bool x.q.tn,.int .i64 x.q.wa,.int .i64 x.q.pr,.bool x.q.he,.slice Y x.q.af.length cy,.int .u8 x.st,.int .i64 x.ca]
abbrev pL (x:PV):List Value:=[.int .i64 x.jb,.int .i64 x.b0,.int .i64 x.b1,.int .i64 x.b2,.int .i64 x.b3,.int .i64 x.b4,.int .i64 x.b5,.bool x.p,.bool x.q,.bool x.r,.int .u8 x.ph,.int .i64 x.tr,.int .i64 x.si]
abbrev eL (x:EV):List Value:=[.int .i64 x.id,.int .i64 x.b0,.int .i64 x.b1,.int .i64 x.b2,.int .i64 x.b3,.int .i64 x.b4,.int .i64 x.b5,.int .i64 x.fr,.int .i64 x.to]
def W64 (n:Int):Prop:=(Lit.int .i64 n).wf=true
def W8 (n:Int):Prop:=(Lit.int .u8 n).wf=true
def KWf (x:KV):Prop:=W64 x.pr∧W64 x.wa∧W64 x.no∧W64 x.ea
def QWf (x:QV):Prop:=W64 x.us∧W64 x.cl∧W64 x.a∧W64 x.b∧W64 x.c∧W64 x.wa∧W64 x.pr∧∀ n ∈ x.af,W64 n
def JWf (x:JV):Prop:=W64 x.id∧QWf x.q∧W8 x.st∧W64 x.ca
def PWf (x:PV):Prop:=W64 x.jb∧W64 x.b0∧W64 x.b1∧W64 x.b2∧W64 x.b3∧W64 x.b4∧W64 x.b5∧W8 x.ph∧W64 x.tr∧W64 x.si
def EWf (x:EV):Prop:=W64 x.id∧W64 x.b0∧W64 x.b1∧W64 x.b2∧W64 x.b3∧W64 x.b4∧W64 x.b5∧W64 x.fr∧W64 x.to
def SWf (s:SV):Prop:=(W64 s.d0∧W64 s.d1∧W64 s.d2∧W64 s.bo∧W64 s.fr∧W64 s.tr∧W64 s.ag∧W64 s.nw∧W64 s.nx)∧(∀ x ∈ s.cs,KWf x)∧(∀ x ∈ s.js,JWf x)∧(∀ x ∈ s.ps,PWf x)∧(∀ x ∈ s.ks,EWf x)∧(∀ n ∈ s.dn,W64 n)∧(∀ n ∈ s.sh,W64 n)∧(∀ n ∈ s.cu,W64 n)
def SlcAt {α:Type} (n:Nat) (rep:World→α→List Value→Prop) (w:World) (X:Option Addr) (l:List α):Prop:=
 ∀ (i:Nat) (x:α),l[i]? = some x→∃ b o cs,X=some ⟨b,o,none⟩∧b < w.heap.size∧cs.length=n∧w.rangeAt b (o+i*n) cs∧rep w x cs
def Stays {α:Type} (rep:World→α→List Value→Prop):Prop:=∀ w w' x cs,rep w x cs→Below w.heap.size w w'→rep w' x cs
theorem range_below {w w':World} {b o:Nat} {cs:List Value} (h:w.rangeAt b o cs) (hB:Below w.heap.size w w'):w'.rangeAt b o cs:=fun i v hi=>keep_cell (h i v hi) hB
theorem SlcAt.nil {α:Type} {n:Nat} {rep:World→α→List Value→Prop} {w:World} {X:Option Addr} : SlcAt n rep w X []:=fun i x h=>by simp at h
theorem SlcAt.up {α:Type} {n:Nat} {rep:World→α→List Value→Prop} {w w':World} {X:Option Addr} {l:List α} (hr:Stays rep) (h:SlcAt n rep w X l) (hB:Below w.heap.size w w'):SlcAt n rep w' X l:=fun i x hi=>by
 obtain ⟨b,o,cs,e,h1,h2,h3,h4⟩:=h i x hi
 exact ⟨b,o,cs,e,Nat.lt_of_lt_of_le h1 hB.size,h2,range_below h3 hB,hr _ _ _ _ h4 hB⟩
def kRep (w:World) (x:KV) (cs:List Value):Prop:=cs=kL x
def pRep (w:World) (x:PV) (cs:List Value):Prop:=cs=pL x
def eRep (w:World) (x:EV) (cs:List Value):Prop:=cs=eL x
def jRep (w:World) (x:JV) (cs:List Value):Prop:=∃ Y cy,cs=jL x Y cy∧x.q.af.length≤cy∧IntsAt w Y x.q.af
theorem kStays:Stays kRep:=fun _ _ _ _ h _=>h
theorem pStays:Stays pRep:=fun _ _ _ _ h _=>h
theorem eStays:Stays eRep:=fun _ _ _ _ h _=>h
theorem jStays:Stays jRep:=fun _ _ _ _ h hB=>by
 obtain ⟨Y,cy,e,h1,h2⟩:=h
 exact ⟨Y,cy,e,h1,h2.up hB⟩
abbrev KsAt:=SlcAt 4 kRep
abbrev JsAt:=SlcAt 16 jRep
abbrev PsAt:=SlcAt 13 pRep
abbrev EsAt:=SlcAt 9 eRep
structure SA where
 C:Option Addr
 cc:Nat
 J:Option Addr
 cj:Nat
 P:Option Addr
 cp:Nat
 K:Option Addr
 ck:Nat
 D:Option Addr
 cd:Nat
 S:Option Addr
 cs:Nat
 U:Option Addr
 cu:Nat
def SA.z:SA:=⟨none,0,none,0,none,0,none,0,none,0,none,0,none,0⟩
abbrev sL (s:SV) (x:SA):List Value:=[.int .i64 s.d0,.int .i64 s.d1,.int .i64 s.d2,.int .i64 s.bo,.int .i64 s.fr,.int .i64 s.tr,.int .i64 s.ag,.slice x.C s.cs.length x.cc,.int .i64 s.nw,.int .i64 s.nx,.slice x.J s.js.length x.cj,.slice x.P s.ps.length x.cp,.slice x.K s.ks.length x.ck,.slice x.D s.dn.length x.cd,.slice x.S s.sh.length x.cs,.slice x.U s.cu.length x.cu]
abbrev cL (c:CV) (Y:Option Addr) (cy:Nat):List Value:=[.int .u8 c.kd,.int .i64 c.id,.int .i64 c.us,.int .i64 c.cl,.int .i64 c.a,.int .i64 c.b,.int .i64 c.c,.bool c.p,.bool c.q,.bool c.r,.bool c.tn,.int .i64 c.wa,.int .i64 c.pr,.bool c.he,.slice Y c.af.length cy,.int .u8 c.st,.int .i64 c.ca,.int .i64 c.ci,.int .i64 c.b0,.int .i64 c.b1,.int .i64 c.b2,.int .i64 c.b3,.int .i64 c.b4,.int .i64 c.b5,.int .i64 c.fr,.int .i64 c.to,.int .i64 c.n,.bool c.we]
abbrev rL (r:RV) (x:SA) (Y:Option Addr) (cy:Nat):List Value:=[.int .i64 r.g,.int .i64 r.s.d0,.int .i64 r.s.d1,.int .i64 r.s.d2,.int .i64 r.s.bo,.int .i64 r.s.fr,.int .i64 r.s.tr,.int .i64 r.s.ag,.slice x.C r.s.cs.length x.cc,.int .i64 r.s.nw,.int .i64 r.s.nx,.slice x.J r.s.js.length x.cj,.slice x.P r.s.ps.length x.cp,.slice x.K r.s.ks.length x.ck,.slice x.D r.s.dn.length x.cd,.slice x.S r.s.sh.length x.cs,.slice x.U r.s.cu.length x.cu,
 .int .u8 r.c.kd,.int .i64 r.c.id,.int .i64 r.c.us,.int .i64 r.c.cl,.int .i64 r.c.a,.int .i64 r.c.b,.int .i64 r.c.c,.bool r.c.p,.bool r.c.q,.bool r.c.r,.bool r.c.tn,.int .i64 r.c.wa,.int .i64 r.c.pr,.bool r.c.he,.slice Y r.c.af.length cy,.int .u8 r.c.st,.int .i64 r.c.ca,.int .i64 r.c.ci,.int .i64 r.c.b0,.int .i64 r.c.b1,.int .i64 r.c.b2,.int .i64 r.c.b3,.int .i64 r.c.b4,.int .i64 r.c.b5,.int .i64 r.c.fr,.int .i64 r.c.to,.int .i64 r.c.n,.bool r.c.we]
structure StAt (w:World) (s:SV) (x:SA):Prop where
 C:KsAt w x.C s.cs
 J:JsAt w x.J s.js
 P:PsAt w x.P s.ps
 K:EsAt w x.K s.ks
 D:IntsAt w x.D s.dn
 S:IntsAt w x.S s.sh
 U:IntsAt w x.U s.cu
 cc:s.cs.length≤x.cc
 cj:s.js.length≤x.cj
 cp:s.ps.length≤x.cp
 ck:s.ks.length≤x.ck
 cd:s.dn.length≤x.cd
 cs:s.sh.length≤x.cs
 cu:s.cu.length≤x.cu
theorem StAt.up {w w':World} {s:SV} {x:SA} (h:StAt w s x) (hB:Below w.heap.size w w'):StAt w' s x:=
 ⟨h.C.up kStays hB,h.J.up jStays hB,h.P.up pStays hB,h.K.up eStays hB,h.D.up hB,h.S.up hB,h.U.up hB,h.cc,h.cj,h.cp,h.ck,h.cd,h.cs,h.cu⟩
theorem StAt.z {w:World} : StAt w SV.z SA.z:=⟨SlcAt.nil,SlcAt.nil,SlcAt.nil,SlcAt.nil,IntsAt.nil,IntsAt.nil,IntsAt.nil,Nat.le_refl _,Nat.le_refl _,Nat.le_refl _,Nat.le_refl _,Nat.le_refl _,Nat.le_refl _,Nat.le_refl _⟩
end Go.Proofs.Ytfdldbfjeamlcaa.RecVal
namespace Go.Proofs.Ytfdldbfjeamlcaa.RecCod
open Go.RowKit Mem RecMem RecByte RecNum RecEach RecMath
abbrev Bs:=List Int
def Oct (t:Bs):Prop:=∀ b ∈ t,0≤b∧b < 256
theorem Oct.nil:Oct []:=fun b h=>by cases h
theorem Oct.app {s t:Bs} (h:Oct s) (k:Oct t):Oct (s ++ t):=fun b hb=>by
 rcases List.mem_append.1 hb with e | e
 ·exact h b e
 ·exact k b e
theorem Oct.left {s t:Bs} (h:Oct (s ++ t)):Oct s:=fun b hb=>h b (List.mem_append_left _ hb)
theorem Oct.right {s t:Bs} (h:Oct (s ++ t)):Oct t:=fun b hb=>h b (List.mem_append_right _ hb)
structure Cod (α:Type) where
 ok:α→Prop
 enc:α→Bs
 dec:Bs→Option (α × Bs)
structure Cod.Good {α:Type} (c:Cod α):Prop where
 oct:∀ x,c.ok x→Oct (c.enc x)
 back:∀ x r,c.ok x→c.dec (c.enc x ++ r)=some (x,r)
 only:∀ t x r,Oct t→c.dec t=some (x,r)→c.ok x∧t=c.enc x ++ r
def valB:Bs→Int
 | []=>0
 | b :: t=>b+256*valB t
def numV (t:Bs):Int:=IntKind.i64.wrap (valB t)
def numDec (t:Bs):Option (Int × Bs):=if 8≤t.length then some (numV (t.take 8),t.drop 8) else none
def numC:Cod Int:=⟨fun n=>(Lit.int .i64 n).wf=true,nB,numDec⟩
theorem i64_mk {x:Int} (h:-9223372036854775808≤x∧x≤9223372036854775807):(Lit.int .i64 x).wf=true:=by simpa [Lit.wf,IntKind.min,IntKind.max,IntKind.signed,IntKind.bits] using h
theorem i64_wf (n:Int):(Lit.int .i64 (IntKind.i64.wrap n)).wf=true:=by
 apply i64_mk
 rw [IntKind.wrap_i64]
 omega
theorem numB_eight (R:Int):numB R=[R % 256,R / 256 % 256,R / 65536 % 256,R / 16777216 % 256,R / 4294967296 % 256,R / 1099511627776 % 256,R / 281474976710656 % 256,R / 72057594037927936 % 256]:=by
 simp [numB,byteAt,List.range,List.range.loop]
theorem valB_numB {R:Int} (h0:0≤R) (h1:R < 18446744073709551616):valB (numB R)=R:=by
 rw [numB_eight]
 simp only [valB]
 have e1:R=R % 256+256*(R / 256):=by omega
 have e2:R / 256=R / 256 % 256+256*(R / 65536):=by omega
 have e3:R / 65536=R / 65536 % 256+256*(R / 16777216):=by omega
 have e4:R / 16777216=R / 16777216 % 256+256*(R / 4294967296):=by omega
 have e5:R / 4294967296=R / 4294967296 % 256+256*(R / 1099511627776):=by omega
 have e6:R / 1099511627776=R / 1099511627776 % 256+256*(R / 281474976710656):=by omega
 have e7:R / 281474976710656=R / 281474976710656 % 256+256*(R / 72057594037927936):=by omega
 have e8:R / 72057594037927936 % 256=R / 72057594037927936:=by omega
 rw [e8]
 omega
theorem eight {t:Bs} (h:t.length=8):∃ a b c d e f g i,t=[a,b,c,d,e,f,g,i]:=by
 match t,h with
 | [a,b,c,d,e,f,g,i],_=>exact ⟨a,b,c,d,e,f,g,i,rfl⟩
theorem numB_valB {t:Bs} (h:t.length=8) (ho:Oct t):numB (valB t)=t∧0≤valB t∧valB t < 18446744073709551616:=by
 obtain ⟨a,b,c,d,e,f,g,i,rfl⟩:=eight h
 have h1:=ho a (by simp);have h2:=ho b (by simp);have h3:=ho c (by simp);have h4:=ho d (by simp)
 have h5:=ho e (by simp);have h6:=ho f (by simp);have h7:=ho g (by simp);have h8:=ho i (by simp)
 rw [numB_eight]
 simp only [valB]
 refine ⟨?_,by omega,by omega⟩
 have q1:(a+256*(b+256*(c+256*(d+256*(e+256*(f+256*(g+256*(i+256*0)))))))) / 256=b+256*(c+256*(d+256*(e+256*(f+256*(g+256*i))))):=by omega
 have q2:(a+256*(b+256*(c+256*(d+256*(e+256*(f+256*(g+256*(i+256*0)))))))) / 65536=c+256*(d+256*(e+256*(f+256*(g+256*i)))):=by omega
 have q3:(a+256*(b+256*(c+256*(d+256*(e+256*(f+256*(g+256*(i+256*0)))))))) / 16777216=d+256*(e+256*(f+256*(g+256*i))):=by omega
 have q4:(a+256*(b+256*(c+256*(d+256*(e+256*(f+256*(g+256*(i+256*0)))))))) / 4294967296=e+256*(f+256*(g+256*i)):=by omega
 have q5:(a+256*(b+256*(c+256*(d+256*(e+256*(f+256*(g+256*(i+256*0)))))))) / 1099511627776=f+256*(g+256*i):=by omega
 have q6:(a+256*(b+256*(c+256*(d+256*(e+256*(f+256*(g+256*(i+256*0)))))))) / 281474976710656=g+256*i:=by omega
 have q7:(a+256*(b+256*(c+256*(d+256*(e+256*(f+256*(g+256*(i+256*0)))))))) / 72057594037927936=i:=by omega
 rw [q1,q2,q3,q4,q5,q6,q7]
 congr 1
 ·omega
 ·congr 1
  ·omega
  ·congr 1
   ·omega
   ·congr 1
    ·omega
    ·congr 1
     ·omega
     ·congr 1
      ·omega
      ·congr 1
       ·omega
       ·congr 1
        omega
theorem u64_of_i64 {R:Int} (h0:0≤R) (h1:R < 18446744073709551616):IntKind.u64.wrap (IntKind.i64.wrap R)=R:=by
 rw [IntKind.wrap_u64,IntKind.wrap_i64]
 omega
theorem i64_of_u64 {n:Int} (h:(Lit.int .i64 n).wf=true):IntKind.i64.wrap (IntKind.u64.wrap n)=n:=by
 have:=i64_in h
 rw [IntKind.wrap_u64,IntKind.wrap_i64]
 omega
theorem u64_in (n:Int):0≤IntKind.u64.wrap n∧IntKind.u64.wrap n < 18446744073709551616:=by
 rw [IntKind.wrap_u64];omega
theorem nB_oct (n:Int):Oct (nB n):=fun b hb=>by
 unfold nB at hb
 rw [numB_eight] at hb
 simp only [List.mem_cons,List.not_mem_nil,or_false] at hb
 rcases hb with rfl | rfl | rfl | rfl | rfl | rfl | rfl | rfl <;> omega
theorem numV_nB {n:Int} (h:(Lit.int .i64 n).wf=true):numV (nB n)=n:=by
 unfold numV nB
 rw [valB_numB (u64_in n).1 (u64_in n).2,i64_of_u64 h]
theorem nB_numV {t:Bs} (h:t.length=8) (ho:Oct t):nB (numV t)=t:=by
 obtain ⟨a,b,c⟩:=numB_valB h ho
 unfold numV nB
 rw [u64_of_i64 b c,a]
theorem numC_good:numC.Good:=by
 refine ⟨fun x _=>nB_oct x,fun x r hx=>?_,fun t x r ho h=>?_⟩
 ·show numDec (nB x ++ r)=_
  unfold numDec
  rw [if_pos (by rw [List.length_append,nB_len];omega),List.take_append_of_le_length (by rw [nB_len];omega),List.take_of_length_le (by rw [nB_len];omega),numV_nB hx,
   List.drop_append_of_le_length (by rw [nB_len];omega),List.drop_of_length_le (by rw [nB_len];omega)]
  rfl
 ·change numDec t=_ at h
  unfold numDec at h
  split at h
  ·rename_i hl
   cases h
   refine ⟨i64_wf _,?_⟩
   show t=nB (numV (t.take 8)) ++ t.drop 8
   rw [nB_numV (by simp;omega) (fun b hb=>ho b (List.mem_of_mem_take hb)),List.take_append_drop]
  ·cases h
def byteDec:Bs→Option (Int × Bs)
 | []=>none
 | b :: t=>some (b,t)
def byteC:Cod Int:=⟨fun b=>0≤b∧b < 256,fun b=>[b],byteDec⟩
theorem byteC_good:byteC.Good:=by
 refine ⟨fun x hx b hb=>by simp [byteC] at hb;subst hb;exact hx,fun x r hx=>rfl,fun t x r ho h=>?_⟩
 match t,h with
 | b :: t,h=>cases h;exact ⟨ho _ (List.mem_cons_self ..),rfl⟩
def truthDec:Bs→Option (Bool × Bs)
 | []=>none
 | b :: t=>if b≤1 then some (b == 1,t) else none
def truthC:Cod Bool:=⟨fun _=>True,fun p=>[tB p],truthDec⟩
theorem truthC_good:truthC.Good:=by
 refine ⟨fun x hx b hb=>by simp [truthC] at hb;subst hb;cases x <;> simp [tB],fun x r hx=>by cases x <;> rfl,fun t x r ho h=>?_⟩
 match t,h with
 | b :: t,h =>
  change (if b≤1 then some (b == 1,t) else none)=_ at h
  split at h
  ·rename_i hb
   cases h
   refine ⟨trivial,?_⟩
   have:=ho b (by simp)
   rcases (by omega:b=0∨b=1) with rfl | rfl <;> rfl
  ·cases h
def pairC {α β:Type} (c:Cod α) (d:Cod β):Cod (α × β) where
 ok p:=c.ok p.1∧d.ok p.2
 enc p:=c.enc p.1 ++ d.enc p.2
 dec t:=(c.dec t).bind fun p=>(d.dec p.2).map fun q=>((p.1,q.1),q.2)
theorem pairC_good {α β:Type} {c:Cod α} {d:Cod β} (hc:c.Good) (hd:d.Good):(pairC c d).Good:=by
 refine ⟨fun x hx=>(hc.oct _ hx.1).app (hd.oct _ hx.2),fun x r hx=>?_,fun t x r ho h=>?_⟩
 ·show ((c.dec (c.enc x.1 ++ d.enc x.2 ++ r)).bind _)=_
  rw [List.append_assoc,hc.back _ _ hx.1]
  show ((d.dec (d.enc x.2 ++ r)).map _)=_
  rw [hd.back _ _ hx.2]
  rfl
 ·change ((c.dec t).bind fun p=>(d.dec p.2).map fun q=>((p.1,q.1),q.2))=_ at h
  rw [Option.bind_eq_some_iff] at h
  obtain ⟨⟨a,s⟩,ha,h⟩:=h
  rw [Option.map_eq_some_iff] at h
  obtain ⟨⟨b,u⟩,hb,e⟩:=h
  obtain ⟨oa,rfl⟩:=hc.only _ _ _ ho ha
  obtain ⟨ob,rfl⟩:=hd.only _ _ _ ho.right hb
  cases e
  exact ⟨⟨oa,ob⟩,(List.append_assoc _ _ _).symm⟩
def isoC {α β:Type} (c:Cod α) (f:α→β) (g:β→α):Cod β where
 ok y:=c.ok (g y)
 enc y:=c.enc (g y)
 dec t:=(c.dec t).map fun p=>(f p.1,p.2)
theorem isoC_good {α β:Type} {c:Cod α} {f:α→β} {g:β→α} (hc:c.Good) (fg:∀ y,f (g y)=y) (gf:∀ x,g (f x)=x):(isoC c f g).Good:=by
 refine ⟨fun x hx=>hc.oct _ hx,fun x r hx=>?_,fun t x r ho h=>?_⟩
 ·show ((c.dec (c.enc (g x) ++ r)).map _)=_
  rw [hc.back _ _ hx]
  show some (f (g x),r)=_
  rw [fg]
 ·change ((c.dec t).map _)=_ at h
  rw [Option.map_eq_some_iff] at h
  obtain ⟨⟨a,s⟩,ha,e⟩:=h
  cases e
  obtain ⟨oa,rfl⟩:=hc.only _ _ _ ho ha
  show c.ok (g (f a))∧_=c.enc (g (f a)) ++ s
  rw [gf]
  exact ⟨oa,rfl⟩
def decN {α:Type} (c:Cod α):Nat→Bs→Option (List α × Bs)
 | 0,t=>some ([],t)
 | n+1,t=>(c.dec t).bind fun p=>(decN c n p.2).map fun q=>(p.1 :: q.1,q.2)
def listDec {α:Type} (c:Cod α) (t:Bs):Option (List α × Bs):=(numC.dec t).bind fun p=>if p.1 < 0∨1000 < p.1 then none else decN c p.1.toNat p.2
def listC {α:Type} (c:Cod α):Cod (List α) where
 ok l:=l.length≤1000∧∀ x ∈ l,c.ok x
 enc l:=nB l.length ++ l.flatMap c.enc
 dec:=listDec c
theorem decN_back {α:Type} {c:Cod α} (hc:c.Good):∀ (l:List α) (r:Bs),(∀ x ∈ l,c.ok x)→decN c l.length (l.flatMap c.enc ++ r)=some (l,r)
 | [],r,_=>rfl
 | x :: l,r,h=>by
  show ((c.dec _).bind _)=_
  rw [List.flatMap_cons,List.append_assoc,hc.back _ _ (h x (by simp))]
  show ((decN c l.length _).map _)=_
  rw [decN_back hc l r (fun y hy=>h y (by simp [hy]))]
  rfl
theorem decN_only {α:Type} {c:Cod α} (hc:c.Good):∀ (n:Nat) (t:Bs) (l:List α) (r:Bs),Oct t→decN c n t=some (l,r)→l.length=n∧(∀ x ∈ l,c.ok x)∧t=l.flatMap c.enc ++ r
 | 0,t,l,r,_,h=>by cases h;exact ⟨rfl,(fun x hx=>by cases hx),rfl⟩
 | n+1,t,l,r,ho,h=>by
  change ((c.dec t).bind fun p=>(decN c n p.2).map fun q=>(p.1 :: q.1,q.2))=_ at h
  rw [Option.bind_eq_some_iff] at h
  obtain ⟨⟨a,s⟩,ha,h⟩:=h
  rw [Option.map_eq_some_iff] at h
  obtain ⟨⟨b,u⟩,hb,e⟩:=h
  obtain ⟨oa,rfl⟩:=hc.only _ _ _ ho ha
  obtain ⟨e1,e2,e3⟩:=decN_only hc n _ _ _ ho.right hb
  cases e
  refine ⟨by simp [e1],fun x hx=>?_,by rw [List.flatMap_cons,List.append_assoc,e3]⟩
  rcases List.mem_cons.1 hx with rfl | hx
  ·exact oa
  ·exact e2 x hx
theorem len_wf {n:Nat} (h:n≤1000000):(Lit.int .i64 (n:Int)).wf=true:=i64_mk (by omega)
theorem listC_good {α:Type} {c:Cod α} (hc:c.Good):(listC c).Good:=by
 refine ⟨fun x hx=>(nB_oct _).app fun b hb=>?_,fun x r hx=>?_,fun t x r ho h=>?_⟩
 ·rw [List.mem_flatMap] at hb
  obtain ⟨y,hy,hb⟩:=hb
  exact hc.oct y (hx.2 y hy) b hb
 ·have e0:(listC c).enc x=nB (x.length:Int) ++ x.flatMap c.enc:=rfl
  have e1:(listC c).dec=listDec c:=rfl
  rw [e0,e1]
  have hl:=hx.1
  have e:=numC_good.back (x.length:Int) (x.flatMap c.enc ++ r) (len_wf (by omega))
  change numC.dec (nB x.length ++ (x.flatMap c.enc ++ r))=_ at e
  unfold listDec
  rw [List.append_assoc,e,Option.bind_some]
  rw [if_neg (by simp only;omega),Int.toNat_natCast]
  exact decN_back hc x r hx.2
 ·have e1:(listC c).dec=listDec c:=rfl
  rw [e1] at h
  unfold listDec at h
  rw [Option.bind_eq_some_iff] at h
  obtain ⟨⟨n,s⟩,hn,h⟩:=h
  simp only at h
  split at h
  ·cases h
  ·rename_i hr
   obtain ⟨on,rfl⟩:=numC_good.only _ _ _ ho hn
   obtain ⟨e1,e2,e3⟩:=decN_only hc _ _ _ _ ho.right h
   refine ⟨⟨by omega,e2⟩,?_⟩
   show nB n ++ s=nB x.length ++ x.flatMap c.enc ++ r
   rw [e1,Int.toNat_of_nonneg (by omega),List.append_assoc,← e3]
theorem decN_snoc {α:Type} (c:Cod α):∀ (n:Nat) (t:Bs),decN c (n+1) t=(decN c n t).bind fun p=>(c.dec p.2).map fun q=>(p.1 ++ [q.1],q.2)
 | 0,t=>by
  show ((c.dec t).bind _)=((c.dec t).map _)
  cases c.dec t <;> rfl
 | n+1,t=>by
  show ((c.dec t).bind fun p=>(decN c (n+1) p.2).map fun q=>(p.1 :: q.1,q.2))=(((c.dec t).bind fun p=>(decN c n p.2).map fun q=>(p.1 :: q.1,q.2)).bind _)
  cases c.dec t with
  | none=>rfl
  | some p =>
   simp only [Option.bind_some]
   rw [decN_snoc c n p.2]
   cases decN c n p.2 with
   | none=>rfl
   | some q =>
    simp only [Option.bind_some,Option.map_some]
    cases c.dec q.2 <;> rfl
theorem Cod.Good.inj {α:Type} {c:Cod α} (hc:c.Good) {x y:α} (hx:c.ok x) (hy:c.ok y) (h:c.enc x=c.enc y):x=y:=by
 have h1:=hc.back x [] hx
 rw [h,hc.back y [] hy] at h1
 cases h1
 rfl
end Go.Proofs.Ytfdldbfjeamlcaa.RecCod
namespace Go.Proofs.Ytfdldbfjeamlcaa.RecCods
open Go.RowKit Mem RecMem RecByte RecNum RecEach RecMath RecCod RecVal
abbrev I3:=(Int × Int) × Int
abbrev B3:=(Bool × Bool) × Bool
def n3C:Cod I3:=pairC (pairC numC numC) numC
def t3C:Cod B3:=pairC (pairC truthC truthC) truthC
def boxC:Cod (I3 × I3):=pairC n3C n3C
def spanC:Cod (Int × Int):=pairC numC numC
def wantsC:Cod ((I3 × B3) × Bool):=pairC (pairC n3C t3C) truthC
def placeC:Cod ((I3 × I3) × B3):=pairC boxC t3C
def kOf (p:((Int × Int) × Int) × Int):KV:=⟨p.1.1.1,p.1.1.2,p.1.2,p.2⟩
def ofK (x:KV):((Int × Int) × Int) × Int:=(((x.pr,x.wa),x.no),x.ea)
def classC:Cod KV:=isoC (pairC (pairC (pairC numC numC) numC) numC) kOf ofK
abbrev QT:=(((((Int × Int) × ((I3 × B3) × Bool)) × Int) × Int) × Bool) × List Int
def qOf (p:QT):QV:=⟨p.1.1.1.1.1.1,p.1.1.1.1.1.2,p.1.1.1.1.2.1.1.1.1,p.1.1.1.1.2.1.1.1.2,p.1.1.1.1.2.1.1.2,p.1.1.1.1.2.1.2.1.1,p.1.1.1.1.2.1.2.1.2,p.1.1.1.1.2.1.2.2,p.1.1.1.1.2.2,p.1.1.1.2,p.1.1.2,p.1.2,p.2⟩
def ofQ (x:QV):QT:=((((((x.us,x.cl),((((x.a,x.b),x.c),((x.p,x.q),x.r)),x.tn)),x.wa),x.pr),x.he),x.af)
def askC:Cod QV:=isoC (pairC (pairC (pairC (pairC (pairC (pairC numC numC) wantsC) numC) numC) truthC) (listC numC)) qOf ofQ
abbrev JT:=((Int × QV) × Int) × Int
def jOf (p:JT):JV:=⟨p.1.1.1,p.1.1.2,p.1.2,p.2⟩
def ofJ (x:JV):JT:=(((x.id,x.q),x.st),x.ca)
def jobC:Cod JV:=isoC (pairC (pairC (pairC numC askC) byteC) numC) jOf ofJ
abbrev PT':=(((Int × ((I3 × I3) × B3)) × Int) × Int) × Int
def pOf (p:PT'):PV:=⟨p.1.1.1.1,p.1.1.1.2.1.1.1.1,p.1.1.1.2.1.1.1.2,p.1.1.1.2.1.1.2,p.1.1.1.2.1.2.1.1,p.1.1.1.2.1.2.1.2,p.1.1.1.2.1.2.2,p.1.1.1.2.2.1.1,p.1.1.1.2.2.1.2,p.1.1.1.2.2.2,p.1.1.2,p.1.2,p.2⟩
def ofP (x:PV):PT':=((((x.jb,((((x.b0,x.b1),x.b2),((x.b3,x.b4),x.b5)),((x.p,x.q),x.r))),x.ph),x.tr),x.si)
def partC:Cod PV:=isoC (pairC (pairC (pairC (pairC numC placeC) byteC) numC) numC) pOf ofP
abbrev ET:=(Int × (I3 × I3)) × (Int × Int)
def eOf (p:ET):EV:=⟨p.1.1,p.1.2.1.1.1,p.1.2.1.1.2,p.1.2.1.2,p.1.2.2.1.1,p.1.2.2.1.2,p.1.2.2.2,p.2.1,p.2.2⟩
def ofE (x:EV):ET:=((x.id,(((x.b0,x.b1),x.b2),((x.b3,x.b4),x.b5))),(x.fr,x.to))
def keepC:Cod EV:=isoC (pairC (pairC numC boxC) spanC) eOf ofE
abbrev ST':=((((((((((((I3 × Int) × Int) × Int) × Int) × List KV) × Int) × Int) × List JV) × List PV) × List EV) × List Int) × List Int) × List Int
def sOf (p:ST'):SV:=⟨p.1.1.1.1.1.1.1.1.1.1.1.1.1.1.1,p.1.1.1.1.1.1.1.1.1.1.1.1.1.1.2,p.1.1.1.1.1.1.1.1.1.1.1.1.1.2,p.1.1.1.1.1.1.1.1.1.1.1.1.2,p.1.1.1.1.1.1.1.1.1.1.1.2,p.1.1.1.1.1.1.1.1.1.1.2,p.1.1.1.1.1.1.1.1.1.2,p.1.1.1.1.1.1.1.1.2,p.1.1.1.1.1.1.1.2,p.1.1.1.1.1.1.2,p.1.1.1.1.1.2,p.1.1.1.1.2,p.1.1.1.2,p.1.1.2,p.1.2,p.2⟩
def ofS (x:SV):ST':=(((((((((((((((x.d0,x.d1),x.d2),x.bo),x.fr),x.tr),x.ag),x.cs),x.nw),x.nx),x.js),x.ps),x.ks),x.dn),x.sh),x.cu)
def stateC:Cod SV:=isoC (pairC (pairC (pairC (pairC (pairC (pairC (pairC (pairC (pairC (pairC (pairC (pairC (pairC n3C numC) numC) numC) numC) (listC classC)) numC) numC) (listC jobC)) (listC partC)) (listC keepC)) (listC numC)) (listC numC)) (listC numC)) sOf ofS
theorem n3_good:n3C.Good:=pairC_good (pairC_good numC_good numC_good) numC_good
theorem t3_good:t3C.Good:=pairC_good (pairC_good truthC_good truthC_good) truthC_good
theorem box_good:boxC.Good:=pairC_good n3_good n3_good
theorem span_good:spanC.Good:=pairC_good numC_good numC_good
theorem wants_good:wantsC.Good:=pairC_good (pairC_good n3_good t3_good) truthC_good
theorem place_good:placeC.Good:=pairC_good box_good t3_good
theorem class_good:classC.Good:=isoC_good (pairC_good (pairC_good (pairC_good numC_good numC_good) numC_good) numC_good) (fun _=>rfl) (fun _=>rfl)
theorem ask_good:askC.Good:=isoC_good (pairC_good (pairC_good (pairC_good (pairC_good (pairC_good (pairC_good numC_good numC_good) wants_good) numC_good) numC_good) truthC_good) (listC_good numC_good)) (fun _=>rfl) (fun _=>rfl)
theorem job_good:jobC.Good:=isoC_good (pairC_good (pairC_good (pairC_good numC_good ask_good) byteC_good) numC_good) (fun _=>rfl) (fun _=>rfl)
theorem part_good:partC.Good:=isoC_good (pairC_good (pairC_good (pairC_good (pairC_good numC_good place_good) byteC_good) numC_good) numC_good) (fun _=>rfl) (fun _=>rfl)
theorem keep_good:keepC.Good:=isoC_good (pairC_good (pairC_good numC_good box_good) span_good) (fun _=>rfl) (fun _=>rfl)
theorem state_good:stateC.Good:=isoC_good (pairC_good (pairC_good (pairC_good (pairC_good (pairC_good (pairC_good (pairC_good (pairC_good (pairC_good (pairC_good (pairC_good (pairC_good (pairC_good n3_good numC_good) numC_good) numC_good) numC_good) (listC_good class_good)) numC_good) numC_good) (listC_good job_good)) (listC_good part_good)) (listC_good keep_good)) (listC_good numC_good)) (listC_good numC_good)) (listC_good numC_good)) (fun _=>rfl) (fun _=>rfl)
def setQ (k:Int) (q:QV):CV:={ CV.z with kd:=k,us:=q.us,cl:=q.cl,a:=q.a,b:=q.b,c:=q.c,p:=q.p,q:=q.q,r:=q.r,tn:=q.tn,wa:=q.wa,pr:=q.pr,he:=q.he,af:=q.af }
def setK (k:Int) (p:(I3 × I3) × (Int × Int)):CV:=⟨k,0,0,0,0,0,0,false,false,false,false,0,0,false,[],0,0,0,p.1.1.1.1,p.1.1.1.2,p.1.1.2,p.1.2.1.1,p.1.2.1.2,p.1.2.2,p.2.1,p.2.2,0,false⟩
def cmdDec:Bs→Option (CV × Bs)
 | []=>none
 | k :: t =>
  if isJob k then (askC.dec t).map fun p=>(setQ k p.1,p.2)
  else if isId k then (numC.dec t).map fun p=>({ CV.z with kd:=k,ci:=p.1 },p.2)
  else if isKeep k then ((pairC boxC spanC).dec t).map fun p=>(setK k p.1,p.2)
  else if isWell k then ((pairC numC truthC).dec t).map fun p=>({ CV.z with kd:=k,ci:=p.1.1,we:=p.1.2 },p.2)
  else if isN k then (numC.dec t).map fun p=>({ CV.z with kd:=k,n:=p.1 },p.2)
  else none
def recDec (t:Bs):Option (RV × Bs):=(numC.dec t).bind fun p =>
 if p.1 < 0∨2147483647 < p.1 then none
 else if p.1=0 then (cmdDec p.2).map fun q=>(⟨0,SV.z,q.1⟩,q.2)
 else (stateC.dec p.2).map fun q=>(⟨p.1,q.1,CV.z⟩,q.2)
end Go.Proofs.Ytfdldbfjeamlcaa.RecCods
namespace Go.Proofs.Ytfdldbfjeamlcaa.RecWAt
open Go.RowKit Mem RecMem RecByte RecNum RecEach RecMath RecPort RecCmd RecCod RecCods RecCommand RecVal
structure WAt (gp:Nat) (v:Value) (w:World) (b o:Nat) (L:List Value):Prop where
 cell:∀ i u,L[i]? = some u→w.cell? ⟨b,o+i,none⟩=some u∧w.frozen? ⟨b,o+i,none⟩=false
 far:Far gp v w b
section
variable {gp b o:Nat} {v v1 v2:Value} {w w1 w2:World} {L M:List Value}
theorem WAt.fr (h:WAt gp v w b o L) (hf:Fr gp v w v1 w1):WAt gp v1 w1 b o L:=⟨fun i u hi=>⟨hf.cell h.far (h.cell i u hi).1,hf.frozen h.far (h.cell i u hi).2⟩,hf.far h.far⟩
theorem WAt.sub (h:WAt gp v w b o L) (k n:Nat) (hM:(L.drop k).take n=M):WAt gp v w b (o+k) M:=by
 refine ⟨fun i u hi=>?_,h.far⟩
 subst hM
 rw [List.getElem?_take] at hi
 split at hi
 ·rw [List.getElem?_drop] at hi
  rw [Nat.add_assoc]
  exact h.cell _ _ hi
 ·cases hi
theorem WAt.first (h:WAt gp v w b o L) (n:Nat) (hM:L.take n=M):WAt gp v w b o M:=h.sub 0 n (by simpa using hM)
theorem WAt.c (h:WAt gp v w b o L) (i:Nat) (u:Value) (hi:L[i]? = some u):w.cell? ⟨b,o+i,none⟩=some u:=(h.cell i u hi).1
theorem WAt.c0 (h:WAt gp v w b o L) (u:Value) (hi:L[0]? = some u):w.cell? ⟨b,o,none⟩=some u:=(h.cell 0 u hi).1
theorem WAt.f0 (h:WAt gp v w b o L) (u:Value) (hi:L[0]? = some u):w.frozen? ⟨b,o,none⟩=false:=(h.cell 0 u hi).2
theorem WAt.blk {g:Nat} {t:TypeId} {cs:Array Value} (h:Blk w g t cs) (hF:Far gp v w g):WAt gp v w g 0 cs.toList:=⟨fun i u hi=>⟨by rw [Nat.zero_add,h.cell];simpa using hi,h.frozen _⟩,hF⟩
end
def WOut (E:Bs) (O:Bool) (gp:Nat) (v:Value) (t:Bs) (od:Bool) (w:World) (e:Ending) (w':World):Prop:=(∃ r,e = .returned r)∧∃ v',PW w' gp v' (t ++ E) (od || !O)∧Fr gp v w v' w'
def WMid (E:Bs) (O:Bool) (gp:Nat) (v:Value) (t:Bs) (od:Bool) (w:World) (v':Value) (w':World):Prop:=PW w' gp v' (t ++ E) (od || !O)∧Fr gp v w v' w'
section
variable {E E2:Bs} {O O2:Bool} {gp:Nat} {v v1 v2:Value} {t:Bs} {od:Bool} {w w1 w2:World} {e:Ending}
theorem WMid.refl (h:PW w gp v t od):WMid [] true gp v t od w v w:=⟨by simpa using h,Fr.refl _ _ _⟩
theorem WMid.next (h:WMid E O gp v t od w v1 w1) (k:WOut E2 O2 gp v1 (t ++ E) (od || !O) w1 e w2):(∃ r,e = .returned r)∧∃ v2,WMid (E ++ E2) (O && O2) gp v t od w v2 w2∧Fr gp v1 w1 v2 w2:=by
 obtain ⟨hr,v2,hP,hF⟩:=k
 refine ⟨hr,v2,⟨?_,h.2.trans hF⟩,hF⟩
 rw [List.append_assoc] at hP
 rw [show (od || !(O && O2))=(od || !O || !O2) by cases od <;> cases O <;> cases O2 <;> rfl]
 exact hP
theorem WMid.out {E':Bs} {O':Bool} (h:WMid E O gp v t od w v1 w1) (hE:E=E') (hO:O=O') (r:Value):WOut E' O' gp v t od w (.returned r) w1:=by
 subst hE hO
 exact ⟨⟨r,rfl⟩,v1,h⟩
theorem WMid.up (h:WMid E O gp v t od w v1 w1) (hB:Below w1.heap.size w1 w2):WMid E O gp v t od w v1 w2:=⟨PW.up h.1 hB,Fr.up h.2 hB⟩
theorem fr_up {gp:Nat} {v:Value} (hB:Below w.heap.size w w1):Fr gp v w v w1:=Fr.up (Fr.refl gp v w) hB
theorem WOut.pre (hf:Fr gp v w v1 w1) (h:WOut E O gp v1 t od w1 e w2):WOut E O gp v t od w e w2:=by
 obtain ⟨hr,v2,hP,hF⟩:=h
 exact ⟨hr,v2,hP,hf.trans hF⟩
theorem wout_of (h:(∃ r,e = .returned r)∧∃ v',PW w1 gp v' (t ++ E) od∧Fr gp v w v' w1):WOut E true gp v t od w e w1:=by
 obtain ⟨hr,v2,hP,hF⟩:=h
 exact ⟨hr,v2,by simpa using hP,hF⟩
end
def SlcFar {α:Type} (n:Nat) (rep:Nat→Value→World→α→List Value→Prop) (gp:Nat) (v:Value) (w:World) (X:Option Addr) (l:List α):Prop:=
 ∀ (i:Nat) (x:α),l[i]? = some x→∃ b o cs,X=some ⟨b,o,none⟩∧Far gp v w b∧cs.length=n∧w.rangeAt b (o+i*n) cs∧rep gp v w x cs
def FrStays {α:Type} (rep:Nat→Value→World→α→List Value→Prop):Prop:=∀ gp v w v1 w1 x cs,rep gp v w x cs→Fr gp v w v1 w1→rep gp v1 w1 x cs
theorem range_fr {gp:Nat} {v v1:Value} {w w1:World} {b o:Nat} {cs:List Value} (h:w.rangeAt b o cs) (hf:Fr gp v w v1 w1) (hF:Far gp v w b):w1.rangeAt b o cs:=fun i u hi=>hf.cell hF (h i u hi)
theorem SlcFar.fr {α:Type} {n:Nat} {rep:Nat→Value→World→α→List Value→Prop} {gp:Nat} {v v1:Value} {w w1:World} {X:Option Addr} {l:List α} (hr:FrStays rep) (h:SlcFar n rep gp v w X l) (hf:Fr gp v w v1 w1):SlcFar n rep gp v1 w1 X l:=fun i x hi=>by
 obtain ⟨b,o,cs,e,h1,h2,h3,h4⟩:=h i x hi
 exact ⟨b,o,cs,e,hf.far h1,h2,range_fr h3 hf h1,hr _ _ _ _ _ _ _ h4 hf⟩
def iF (gp:Nat) (v:Value) (w:World) (x:Int) (cs:List Value):Prop:=cs=[.int .i64 x]
def kF (gp:Nat) (v:Value) (w:World) (x:KV) (cs:List Value):Prop:=cs=kL x
def pF (gp:Nat) (v:Value) (w:World) (x:PV) (cs:List Value):Prop:=cs=pL x
def eF (gp:Nat) (v:Value) (w:World) (x:EV) (cs:List Value):Prop:=cs=eL x
def jF (gp:Nat) (v:Value) (w:World) (x:JV) (cs:List Value):Prop:=∃ Y cy,cs=jL x Y cy∧x.q.af.length≤cy∧x.q.af.length≤maxLen∧SlcFar 1 iF gp v w Y x.q.af
theorem iStaysF:FrStays iF:=fun _ _ _ _ _ _ _ h _=>h
theorem kStaysF:FrStays kF:=fun _ _ _ _ _ _ _ h _=>h
theorem pStaysF:FrStays pF:=fun _ _ _ _ _ _ _ h _=>h
theorem eStaysF:FrStays eF:=fun _ _ _ _ _ _ _ h _=>h
theorem jStaysF:FrStays jF:=fun _ _ _ _ _ _ _ h hf=>by
 obtain ⟨Y,cy,e,h1,h2,h3⟩:=h
 exact ⟨Y,cy,e,h1,h2,h3.fr iStaysF hf⟩
structure StFar (gp:Nat) (v:Value) (w:World) (s:SV) (x:SA):Prop where
 C:SlcFar 4 kF gp v w x.C s.cs
 J:SlcFar 16 jF gp v w x.J s.js
 P:SlcFar 13 pF gp v w x.P s.ps
 K:SlcFar 9 eF gp v w x.K s.ks
 D:SlcFar 1 iF gp v w x.D s.dn
 S:SlcFar 1 iF gp v w x.S s.sh
 U:SlcFar 1 iF gp v w x.U s.cu
theorem StFar.fr {gp:Nat} {v v1:Value} {w w1:World} {s:SV} {x:SA} (h:StFar gp v w s x) (hf:Fr gp v w v1 w1):StFar gp v1 w1 s x:=
 ⟨h.C.fr kStaysF hf,h.J.fr jStaysF hf,h.P.fr pStaysF hf,h.K.fr eStaysF hf,h.D.fr iStaysF hf,h.S.fr iStaysF hf,h.U.fr iStaysF hf⟩
structure StTop (s:SV):Prop where
 C:s.cs.length≤maxLen
 J:s.js.length≤maxLen
 P:s.ps.length≤maxLen
 K:s.ks.length≤maxLen
 D:s.dn.length≤maxLen
 S:s.sh.length≤maxLen
 U:s.cu.length≤maxLen
 A:∀ j ∈ s.js,j.q.af.length≤maxLen
def listE {α:Type} (enc:α→Bs) (l:List α):Bs:=nB (l.length:Int) ++ if l.length≤1000 then l.flatMap enc else []
def listO {α:Type} (ok:α→Bool) (l:List α):Bool:=decide (l.length≤1000) && l.all ok
def yes {α:Type} (x:α):Bool:=true
def classE (x:KV):Bs:=((nB x.pr ++ nB x.wa) ++ nB x.no) ++ nB x.ea
def wantsE (x:QV):Bs:=numsB [x.a,x.b,x.c] ++ ([tB x.p,tB x.q,tB x.r] ++ [tB x.tn])
def askE (x:QV):Bs:=(((((nB x.us ++ nB x.cl) ++ wantsE x) ++ nB x.wa) ++ nB x.pr) ++ [tB x.he]) ++ listE nB x.af
def askO (x:QV):Bool:=listO yes x.af
def jobE (x:JV):Bs:=((nB x.id ++ askE x.q) ++ [x.st]) ++ nB x.ca
def jobO (x:JV):Bool:=askO x.q
def placeE (b0 b1 b2 b3 b4 b5:Int) (p q r:Bool):Bs:=numsB [b0,b1,b2,b3,b4,b5] ++ [tB p,tB q,tB r]
def partE (x:PV):Bs:=(((nB x.jb ++ placeE x.b0 x.b1 x.b2 x.b3 x.b4 x.b5 x.p x.q x.r) ++ [x.ph]) ++ nB x.tr) ++ nB x.si
def keepE (x:EV):Bs:=(nB x.id ++ numsB [x.b0,x.b1,x.b2,x.b3,x.b4,x.b5]) ++ (nB x.fr ++ nB x.to)
def stateE (s:SV):Bs:=((((((((((((numsB [s.d0,s.d1,s.d2] ++ nB s.bo) ++ nB s.fr) ++ nB s.tr) ++ nB s.ag) ++ listE classE s.cs) ++ nB s.nw) ++ nB s.nx) ++ listE jobE s.js) ++ listE partE s.ps) ++ listE keepE s.ks) ++ listE nB s.dn) ++ listE nB s.sh) ++ listE nB s.cu
def stateO (s:SV):Bool:=((((((listO yes s.cs && listO jobO s.js) && listO yes s.ps) && listO yes s.ks) && listO yes s.dn) && listO yes s.sh) && listO yes s.cu)
theorem flat_len {α:Type} {enc:α→Bs} {n:Nat} (h:∀ x,(enc x).length≤n):∀ l:List α,(l.flatMap enc).length≤l.length*n
 | []=>by simp
 | x :: l=>by
  rw [List.flatMap_cons,List.length_append,List.length_cons,Nat.add_mul]
  have:=h x
  have:=flat_len h l
  omega
theorem listE_len {α:Type} {enc:α→Bs} {n:Nat} (h:∀ x,(enc x).length≤n) (l:List α):(listE enc l).length≤8+1000*n:=by
 unfold listE
 rw [List.length_append,nB_len]
 split
 ·rename_i hl
  have:=flat_len h l
  have:l.length*n≤1000*n:=Nat.mul_le_mul_right _ hl
  omega
 ·simp
theorem nB_le (n:Int):(nB n).length≤8:=by rw [nB_len];omega
theorem classE_len (x:KV):(classE x).length≤32:=by simp only [classE,List.length_append,nB_len];omega
theorem wantsE_len (x:QV):(wantsE x).length=28:=by simp only [wantsE,List.length_append,numsB_len,List.length_cons,List.length_nil]
theorem askE_len (x:QV):(askE x).length≤9000:=by
 have:=listE_len nB_le x.af
 simp only [askE,List.length_append,nB_len,wantsE_len,List.length_cons,List.length_nil];omega
theorem jobE_len (x:JV):(jobE x).length≤10000:=by
 have:=askE_len x.q
 simp only [jobE,List.length_append,nB_len,List.length_cons,List.length_nil];omega
theorem placeE_len (b0 b1 b2 b3 b4 b5:Int) (p q r:Bool):(placeE b0 b1 b2 b3 b4 b5 p q r).length=51:=by simp only [placeE,List.length_append,numsB_len,List.length_cons,List.length_nil]
theorem partE_len (x:PV):(partE x).length≤100:=by simp only [partE,List.length_append,nB_len,placeE_len,List.length_cons,List.length_nil];omega
theorem keepE_len (x:EV):(keepE x).length≤100:=by simp only [keepE,List.length_append,nB_len,numsB_len,List.length_cons,List.length_nil];omega
theorem stateE_len (s:SV):(stateE s).length≤20000000:=by
 have h1:=listE_len classE_len s.cs
 have h2:=listE_len jobE_len s.js
 have h3:=listE_len partE_len s.ps
 have h4:=listE_len keepE_len s.ks
 have h5:=listE_len nB_le s.dn
 have h6:=listE_len nB_le s.sh
 have h7:=listE_len nB_le s.cu
 simp only [stateE,List.length_append,nB_len,numsB_len,List.length_cons,List.length_nil];omega
theorem nums_of {gp b o:Nat} {v:Value} {w:World} {L:List Value} {l:List Int} (h:WAt gp v w b o L) (hL:L=l.map (Value.int .i64)) (hw:∀ n ∈ l,W64 n):NumsAt w b o l:=fun i n hi=>by
 subst hL
 have hc:=h.cell i (.int .i64 n) (by rw [List.getElem?_map,hi];rfl)
 exact ⟨hc.1,hc.2,hw n (List.mem_of_getElem? hi)⟩
theorem truths_of {gp b o:Nat} {v:Value} {w:World} {L:List Value} {l:List Bool} (h:WAt gp v w b o L) (hL:L=l.map Value.bool):TruthsAt w b o l:=fun i n hi=>by
 subst hL
 exact h.cell i (.bool n) (by rw [List.getElem?_map,hi];rfl)
theorem far_ints {gp:Nat} {v:Value} {w:World} {X:Option Addr} {l:List Int} (h:IntsFar gp v w X l):SlcFar 1 iF gp v w X l:=fun i n hi=>by
 obtain ⟨b,o,e,h1,h2⟩:=h i n hi
 refine ⟨b,o,_,e,h1,rfl,fun j u hj=>?_,rfl⟩
 cases j with
 | zero=>cases hj;rw [Nat.mul_one,Nat.add_zero];exact h2
 | succ j=>simp at hj
theorem all3 {x y z:Int} {P:Int→Prop} (h1:P x) (h2:P y) (h3:P z):∀ n ∈ [x,y,z],P n:=by
 simp only [List.forall_mem_cons];exact ⟨h1,h2,h3,fun n hn=>by cases hn⟩
theorem all6 {x y z a b c:Int} {P:Int→Prop} (h1:P x) (h2:P y) (h3:P z) (h4:P a) (h5:P b) (h6:P c):∀ n ∈ [x,y,z,a,b,c],P n:=by
 simp only [List.forall_mem_cons];exact ⟨h1,h2,h3,h4,h5,h6,fun n hn=>by cases hn⟩
end Go.Proofs.Ytfdldbfjeamlcaa.RecWAt
