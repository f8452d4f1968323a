/- Several texts joined: rec.Same of records of commands. -/
import Derived.BigQuiet
import Derived.Deep.QuietTactic
import Derived.Deep.RegionHeld3
import Derived.Deep.MidRow
import Derived.Deep.DeepCutAuto
import Derived.Lib.QuietBelow
import Derived.Lib.SliceRun
import Derived.Test.YtfdldbfjeamlcaaPG4
import Derived.Test.YtfdldbfjeamlcaaPG2
set_option linter.unusedVariables false
set_option linter.unusedSimpArgs false
namespace Go.Proofs.Ytfdldbfjeamlcaa.RecSame
open Go.RowKit Mem RecMem RecByte RecNum RecEach RecMath RecCommand RecCmdJ RecEq RecJobs
theorem range_part {W:World} {g o n:Nat} {t:TypeId} {cs:Array Value} {l:List Value} (h:Blk W g t cs) (hd:(cs.toList.drop o).take n=l):W.rangeAt g o l:=fun i v hi=>by
 rw [h.cell]
 subst hd
 rw [List.getElem?_take] at hi
 split at hi
 ·rw [List.getElem?_drop] at hi
  simpa using hi
 ·cases hi
theorem range_up {w w':World} {b o:Nat} {cs:List Value} (h:w.rangeAt b o cs) (hB:Below w.heap.size w w'):w'.rangeAt b o cs:=fun i v hi=>keep_cell (h i v hi) hB
theorem blk_all {g:Nat} {t:TypeId} {vs:List Value} {W:World} {cs:Array Value} (h:Blk W g t cs) (hs:setA cs 0 vs=vs.toArray):Blk (World.setCells W g 0 vs) g t vs.toArray:=by
 have:=blk_setA (i:=0) (vs:=vs) h
 rwa [hs] at this
theorem blk_new_of {W:World} {n:Nat} (h:W.heap.size=n) (t:TypeId) (cs:Array Value):Blk (W.alloc (.cells cs t)) n t cs:=by
 subst h;exact Blk.new _ _ _
theorem below_alloc2 {B:Nat} {a w:World} (hB:B≤w.heap.size) (h:Below B a w) (o:Obj):Below B a (w.alloc o):=h.alloc hB o
theorem cv_eq (c d:CV):decide (c=d)=((c.kd == d.kd) && (jobB c d && ((c.ci == d.ci) && (boxB c d && (spanB c d && ((c.n == d.n) && (c.we == d.we))))))):=by
 rw [Bool.eq_iff_iff]
 obtain ⟨_,_,_,_,_,_,_,_,_,_,_,_,_,_,_,_,_,_,_,_,_,_,_,_,_,_,_,_⟩:=c
 obtain ⟨_,_,_,_,_,_,_,_,_,_,_,_,_,_,_,_,_,_,_,_,_,_,_,_,_,_,_,_⟩:=d
 simp only [jobB,wantsB,boxB,spanB,decide_eq_true_eq,Bool.and_eq_true,beq_iff_eq,CV.mk.injEq]
 constructor <;> intro h <;> simp_all
end Go.Proofs.Ytfdldbfjeamlcaa.RecSame
namespace Go.Proofs.Ytfdldbfjeamlcaa.RecWr0
open Go.RowKit Mem RecMem RecByte RecNum RecEach RecMath RecPort RecCmd RecCommand RecCmdJ RecEq RecJobs RecSame
theorem ccommandK (c:CV) (Y:Option Addr) (cy:Nat) (hn:c.af.length≤17592186044416) (w:World) (hI:IntsAt w Y c.af):Calls Try.prog 16 #[.agg (cmdA c Y cy)] w fun e w' => RetK w w' c e:=by
 obtain ⟨kd,id,us,cl,a,b,c,p,q,r,tn,wa,pr,he,af,st,ca,ci,b0,b1,b2,b3,b4,b5,fr,tt,n,we⟩:=c
 by_cases hk:1≤kd∧kd≤15
 ·by_cases h1:kd=1
  ·subst h1
   exact ccmd1K id us cl a b c p q r tn wa pr he af st ca ci b0 b1 b2 b3 b4 b5 fr tt n we Y cy hn w hI
  have h0:¬ isJob kd:=h1
  by_cases h2:kd=2∨kd=3∨kd=4∨kd=6
  ·exact (ccmdI kd id us cl a b c p q r tn wa pr he af st ca ci b0 b1 b2 b3 b4 b5 fr tt n we Y cy h2 w).mono fun _ _ h=>retK_of (own_none _ h0) h
  by_cases h3:kd=5
  ·exact (ccmdK kd id us cl a b c p q r tn wa pr he af st ca ci b0 b1 b2 b3 b4 b5 fr tt n we Y cy h3 w).mono fun _ _ h=>retK_of (own_none _ h0) h
  by_cases h4:kd=8∨kd=9
  ·exact (ccmdW kd id us cl a b c p q r tn wa pr he af st ca ci b0 b1 b2 b3 b4 b5 fr tt n we Y cy h4 w).mono fun _ _ h=>retK_of (own_none _ h0) h
  exact (ccmdN kd id us cl a b c p q r tn wa pr he af st ca ci b0 b1 b2 b3 b4 b5 fr tt n we Y cy (by omega) w).mono fun _ _ h=>retK_of (own_none _ h0) h
 ·exact (ccmdZ kd id us cl a b c p q r tn wa pr he af st ca ci b0 b1 b2 b3 b4 b5 fr tt n we Y cy hk w).mono fun _ _ h=>retK_of (own_none _ (by show ¬ isJob kd;unfold isJob;omega)) h
theorem own_wf {c:CV} (h:CWf c):CWf (own c):=by
 have z:(Lit.int .i64 0).wf=true:=by decide
 have h1:=h.1
 simp only [List.forall_mem_cons] at h1
 obtain ⟨x1,x2,x3,x4,x5,x6,x7,x8,x9,x10,x11,x12,x13,x14,x15,x16,x17,x18,x19,_⟩:=h1
 have z2:∀ n ∈ ([]:List Int),(Lit.int .i64 n).wf=true:=fun n hn=>by cases hn
 have h2:=h.2
 unfold own
 split
 ·exact ⟨by simp only [List.forall_mem_cons,CV.z];exact ⟨z,x2,x3,x4,x5,x6,x7,x8,z,z,z,z,z,z,z,z,z,z,z,z2⟩,h2⟩
 ·split
  ·exact ⟨by simp only [List.forall_mem_cons,CV.z];exact ⟨z,z,z,z,z,z,z,z,z,x10,z,z,z,z,z,z,z,z,z,z2⟩,z2⟩
  ·split
   ·exact ⟨by simp only [List.forall_mem_cons,CV.z];exact ⟨z,z,z,z,z,z,z,z,z,z,x11,x12,x13,x14,x15,x16,x17,x18,z,z2⟩,z2⟩
   ·split
    ·exact ⟨by simp only [List.forall_mem_cons,CV.z];exact ⟨z,z,z,z,z,z,z,z,z,x10,z,z,z,z,z,z,z,z,z,z2⟩,z2⟩
    ·split
     ·exact ⟨by simp only [List.forall_mem_cons,CV.z];exact ⟨z,z,z,z,z,z,z,z,z,z,z,z,z,z,z,z,z,z,x19,z2⟩,z2⟩
     ·exact ⟨by simp only [List.forall_mem_cons,CV.z];exact ⟨z,z,z,z,z,z,z,z,z,z,z,z,z,z,z,z,z,z,z,z2⟩,z2⟩
theorem own_len {c:CV} (h:c.af.length≤1000):(own c).af.length≤1000:=by
 unfold own
 repeat' split
 all_goals first | exact h | (simp [CV.z])
theorem set_rec (c:CV) (Y:Option Addr) (cy:Nat):setA Sq.zzR 17 (RecVal.cL c Y cy)=recA c Y cy:=by
 simp only [setA,List.setIfInBounds_toArray,List.set_cons_zero,List.set_cons_succ]
def BytesAt (w:World) (X:Option Addr) (t:List Int):Prop:=Reads w w.heap.size 1 X t.length (t.map (Value.int .u8))
theorem BytesAt.up {w w':World} {X:Option Addr} {t:List Int} (h:BytesAt w X t) (hB:Below w.heap.size w w'):BytesAt w' X t:=(h.below hB).more hB.size
theorem port_new {w:World} : PW (w.alloc (.cells #[.slice none 0 0,.bool false,.bool false] PT)) w.heap.size (.slice none 0 0) [] false:=⟨Blk.new _ _ _,World.ownsRow_nil _ _ _ _,by simp [Value.ownBlock]⟩
theorem far_new {w:World} {k:Nat} (h:k < w.heap.size):Far w.heap.size (.slice none 0 0) (w.alloc (.cells #[.slice none 0 0,.bool false,.bool false] PT)) k:=⟨by simp;omega,by omega,by simp [Value.ownBlock]⟩
theorem ints_new {w:World} {Y:Option Addr} {l:List Int} (h:IntsAt w Y l):IntsFar w.heap.size (.slice none 0 0) (w.alloc (.cells #[.slice none 0 0,.bool false,.bool false] PT)) Y l:=fun i n hi=>by
 obtain ⟨b,o,e,hb,hc⟩:=h i n hi
 exact ⟨b,o,e,far_new hb,cell_over _ hc⟩
end Go.Proofs.Ytfdldbfjeamlcaa.RecWr0
