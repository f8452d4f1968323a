/- Several texts joined: What every law's row wants beside its walk: the arguments read behind the call as they read before, where nothing below the heap's old size has turned; how arguments of the types that occur are opened -/
import Derived.Test.YtfdldbfjeamlcaaRows
import Derived.WalkKit
import Derived.ProofKit
import Derived.OpenShut
import Derived.ChangeOld
import Derived.Below
import Derived.Carry
import Derived.Lib.SmallJoins
import Derived.Lib.Hide
import Derived.Test.YtfdldbfjeamlcaaPG1
import Derived.Laws.IdiomArrays
import Derived.Deep.Slices
import Derived.Test.YtfdldbfjeamlcaaPG3
import Derived.SizedLaws
import Derived.Test.YtfdldbfjeamlcaaPG15
import Derived.Test.YtfdldbfjeamlcaaPG16
set_option linter.unusedVariables false
set_option linter.unusedSimpArgs false
namespace Go.Proofs.Ytfdldbfjeamlcaa.Lay
open Go.ChangeShapes Go.WideShapes Go.ChangeAt Go.RowKit Go.Joins Go.Deep Mem
theorem own:ownKnob Try.prog.godebug=none:=by kernel_rfl
theorem laidOut:laidOutB Try.prog=true:=by kernel_rfl
theorem trodAll_below {H:Type} {enc:TypeId × Value→H} {P:Program} (hl:laidOutB P=true) {W W':World} :
    ∀ {ts:List TypeId} {vs:List Value} {ds:List (DataW H)} {ps:List MemPlace},(∀ t ∈ ts,P.readableRec t=true∧t < P.types.size) →
    DataW.TrodAll enc P W 0 (fun _=>true) true ts vs ds ps→Below W.heap.size W W'→(∀ x ∈ ps,x.block < W.heap.size) →
    DataW.TrodAll enc P W' 0 (fun b=>decide (b < W.heap.size)) true ts vs ds ps
 | [],vs,ds,ps,_,h,_,_=>by obtain ⟨rfl,rfl,rfl⟩:=trodAll_nil h;exact trodAll_mk0
 | t :: ts,vs,ds,ps,hok,h,hb,hlt=>by
  obtain ⟨v,vs',d,ds',p,q,rfl,rfl,rfl,h0,r0⟩:=trodAll_cons h
  have h1:=Below.trod hl (hok t (by simp)).1 (hok t (by simp)).2 h0 hb (fun x hx=>hlt x (by simp [hx]))
  exact trodAll_cons_mk h1 (trodAll_below hl (fun u hu=>hok u (by simp [hu])) r0 hb (fun x hx=>hlt x (by simp [hx])))
theorem block_of_cell {W:World} {a:Addr} {v:Value} (h:W.cell? a=some v):a.block < W.heap.size:=by
 rcases Nat.lt_or_ge a.block W.heap.size with h1 | h1
 ·exact h1
 ·simp [World.cell?,Array.getElem?_eq_none h1] at h
theorem open_row {H:Type} {enc:TypeId × Value→H} {P:Program} {W:World} {r:Reach} {b0:Nat} {t e:TypeId} {k:IntKind} {v:Value} {d:DataW H} {p:List MemPlace} {sp:Nat→Bool} {held:Bool}
    (ht:P.underlying t=some (.slice e)) (he:P.underlying e=some (.int k)) (hC:P.cellsOf e=1) (hv:Value.okWide P W r b0 t v) (h:DataW.Trod enc P W 0 sp held t v d p) :
    ∃ (X:Option Addr) (c:Nat) (l:List Int),v = .slice X l.length c∧l.length≤c∧c≤maxLen∧Reads W W.heap.size 1 X l.length (l.map (Value.int k))∧∀ n ∈ l,(Lit.int k n).wf=true:=by
 obtain ⟨X,len,cap,rfl⟩:=okWide_slice ht hv
 obtain ⟨fuel,hf⟩:=h
 rcases open_ints ht he hC hf with ⟨hcs,_⟩ | ⟨x,l,c,zs,hcs,_,hl,hm,hz,_,hcell,hwz⟩
 ·simp [Value.cells] at hcs
  obtain ⟨rfl,rfl,rfl⟩:=hcs
  exact ⟨none,0,[],rfl,by simp,by simp [maxLen],Reads.none_,by simp⟩
 ·simp [Value.cells] at hcs
  obtain ⟨rfl,rfl,rfl⟩:=hcs
  have hlen:(zs.take len).length=len:=by
   have:len≤zs.length:=by
    rw [hz];split <;> omega
   simp;omega
  refine ⟨some x,cap,zs.take len,by rw [hlen],by omega,hm,⟨by simp,fun hn=>⟨x,rfl,?_,?_⟩⟩,fun n hn=>hwz n (List.mem_of_mem_take hn)⟩
  ·rw [hlen] at hn
   have h0:=hcell 0 (by rw [hz];split <;> omega)
   have:=block_of_cell h0
   rwa [block_of_add] at this
  ·intro j u hu
   rw [List.getElem?_map] at hu
   rcases Nat.lt_or_ge j len with hj | hj
   ·have hj2:j < zs.length:=by rw [hz];split <;> omega
    rw [List.getElem?_take,if_pos hj,List.getElem?_eq_getElem hj2] at hu
    simp at hu
    rw [hcell j hj2,← hu,List.getD_eq_getElem?_getD,List.getElem?_eq_getElem hj2]
    rfl
   ·rw [List.getElem?_take,if_neg (by omega)] at hu
    simp at hu
end Go.Proofs.Ytfdldbfjeamlcaa.Lay
namespace Go.Proofs.Ytfdldbfjeamlcaa.Lay
open Go.ChangeShapes Go.WideShapes Go.ChangeAt Go.RowKit Go.Joins Go.Deep Mem
end Go.Proofs.Ytfdldbfjeamlcaa.Lay
namespace Go.Proofs.Ytfdldbfjeamlcaa.OpenRec0
set_option maxRecDepth 100000
set_option maxHeartbeats 2000000
open Go.ChangeShapes Go.WideShapes Go.ChangeAt Go.RowKit Go.Joins Go.Deep Mem RecMath RecCommand RecVal Lay
theorem ints_trod {H:Type} {enc:TypeId × Value→H} {W:World} {held:Bool} {fuel:Nat} {v:Value} {x:DataW H × List MemPlace} (hf:DataW.trod enc Try.prog W 0 (fun _=>true) held fuel 26 [v]=some x) :
    ∃ (Y:Option Addr) (c:Nat) (l:List Int),v = .slice Y l.length c∧l.length≤c∧c≤maxLen∧IntsAt W Y l∧∀ n ∈ l,W64 n:=by
 rcases open_ints Try.underlying26 Try.underlying3 (by kernel_rfl) hf with ⟨hcs,_⟩ | ⟨a,len,cap,zs,hcs,_,hl,hm,hz,_,hcell,hwz⟩
 ·simp at hcs
  exact ⟨none,0,[],hcs,by simp,by simp [maxLen],IntsAt.nil,by simp⟩
 ·simp at hcs
  have hzl:zs.length=cap:=by simpa using hz
  have hlen:(zs.take len).length=len:=by simp;omega
  refine ⟨some a,cap,zs.take len,by rw [hcs,hlen],by omega,hm,fun i n hi=>?_,fun n hn=>hwz n (List.mem_of_mem_take hn)⟩
  have hil:i < len:=by have:=(List.getElem?_eq_some_iff.1 hi).1;simp at this;omega
  rw [List.getElem?_take_of_lt hil] at hi
  have hc:=hcell i (by omega)
  have h0:=hcell 0 (by omega)
  have h0':W.cell? a=some (.int .i64 (zs.getD 0 0)):=by
   have e:a.add 0=a:=by obtain ⟨b,o,s⟩:=a;simp [Addr.add]
   rwa [e] at h0
  have hs:=World.cell?_spot h0'
  obtain ⟨b,o,s⟩:=a
  simp at hs
  subst hs
  refine ⟨b,o,rfl,block_of_cell h0',?_⟩
  rw [add_flat] at hc
  rw [hc,List.getD_eq_getElem?_getD,hi]
  rfl
theorem slc_trod {α:Type} {Wf:α→Prop} {t e:TypeId} {n:Nat} (rep:World→α→List Value→Prop) [Inhabited α] {H:Type} {enc:TypeId × Value→H} {W:World} {held:Bool} {fuel:Nat} {v:Value} {x:DataW H × List MemPlace} (hu:Try.prog.underlying t=some (.slice e)) (kc:Try.prog.cellsOf e=n) (hn:0 < n)
    (hel:∀ (fuel:Nat) (cs:List Value) (x:DataW H × List MemPlace),cs.length=n→DataW.trod enc Try.prog W 0 (fun _=>true) held fuel e cs=some x→∃ a,rep W a cs∧Wf a)
    (hf:DataW.trod enc Try.prog W 0 (fun _=>true) held fuel t [v]=some x) :
    ∃ (Y:Option Addr) (c:Nat) (l:List α),v = .slice Y l.length c∧l.length≤c∧c≤maxLen∧SlcAt n rep W Y l∧∀ a ∈ l,Wf a:=by
 rcases open_slice hu hf with ⟨h0,_⟩ | ⟨⟨b,o,s⟩,len,cap,m,nn,D,Pl,hcs,hb,hl,hm,hmm,hx,hi⟩
 ·simp at h0
  exact ⟨none,0,[],h0,by simp,by simp [maxLen],SlcAt.nil,by simp⟩
 ·simp at hcs
  have hmc:m=cap:=by rw [hmm];rfl
  rw [kc] at hi
  have hs0:0 < len→s=none∧b < W.heap.size:=fun hl0=>by
   obtain ⟨cs',hc,ht'⟩:=hi 0 (by omega)
   obtain ⟨_,hcl,hat⟩:=World.cells?_some hc
   have h0:=hat 0 hn
   rw [Nat.zero_mul,add_of_add] at h0
   have h0':W.cell? ((⟨b,o,s⟩:Addr).add 0)=some (cs'[0]'(by omega)):=by
    rw [show (0:Nat)+0=0 from rfl] at h0
    rw [h0];exact List.getElem?_eq_getElem (by omega)
   refine ⟨by simpa [Addr.add] using World.cell?_spot h0',?_⟩
   have:=cell_lt h0'
   rwa [block_of_add] at this
  have hE:∀ i,∃ q:α × List Value,i < len→q.2.length=n∧W.rangeAt b (o+i*n) q.2∧rep W q.1 q.2∧Wf q.1:=by
   intro i
   by_cases hlt:i < len
   ·obtain ⟨rfl,_⟩:=hs0 (by omega)
    obtain ⟨cs',hc,ht'⟩:=hi i (by omega)
    obtain ⟨_,hcl,hat⟩:=World.cells?_some hc
    obtain ⟨a,h1,h2⟩:=hel _ _ _ hcl ht'
    refine ⟨(a,cs'),fun _=>⟨hcl,fun j u hu=>?_,h1,h2⟩⟩
    have hj:j < n:=by rw [← hcl];exact (List.getElem?_eq_some_iff.1 hu).1
    have h0:=hat j hj
    rw [add_flat,add_flat] at h0
    rw [h0];exact hu
   ·exact ⟨(default,[]),fun h=>absurd h hlt⟩
  refine ⟨some ⟨b,o,s⟩,cap,(List.range len).map (fun i=>(hE i).choose.1),by rw [hcs];simp,by simpa using hl,hm,fun i q hq=>?_,fun j hj=>?_⟩
  ·have hlt:i < len:=by
    have:=(List.getElem?_eq_some_iff.1 hq).1
    simpa using this
   have hq':q=(hE i).choose.1:=by simpa [hlt] using hq.symm
   obtain ⟨g1,g2,g3,g4⟩:=(hE i).choose_spec hlt
   obtain ⟨rfl,hbl⟩:=hs0 (by omega)
   rw [hq']
   exact ⟨b,o,_,rfl,hbl,g1,g2,g3⟩
  ·obtain ⟨i,hi2,rfl⟩:=List.mem_map.1 hj
   exact ((hE i).choose_spec (by simpa using hi2)).2.2.2
theorem trod_Wants {H:Type} {enc:TypeId × Value→H} {W:World} {held:Bool} {fuel:Nat} {cs:List Value} {x:DataW H × List MemPlace} (hlen:cs.length=7) (h:DataW.trod enc Try.prog W 0 (fun _=>true) held fuel 25 cs=some x) :
    ∃ (v0x:Int) (v0y:Int) (v0z:Int) (v1x:Bool) (v1y:Bool) (v1z:Bool) (v2:Bool),cs=[.int .i64 v0x,.int .i64 v0y,.int .i64 v0z,.bool v1x,.bool v1y,.bool v1z,.bool v2]∧W64 v0x∧W64 v0y∧W64 v0z:=by
 obtain ⟨xs,n,_,hx,_,hl,hg⟩:=DataW.trod_struct Try.underlying25 h
 match cs,hlen with
 | [c0,c1,c2,c3,c4,c5,c6],_ =>
  have q0:=hg 0 _ rfl
  have q1:=hg 1 _ rfl
  have q2:=hg 2 _ rfl
  match xs,hl with
  | [z0,z1,z2],_ =>
   simp only [List.getElem_toArray,List.getElem_cons_zero,List.getElem_cons_succ] at q0
   rw [show Try.prog.cellsOf 22=3 from by kernel_rfl] at q0
   simp at q0
   obtain ⟨_,_,_,_,_,a00,a01,a02⟩:=trod_array3 Try.underlying22 (by kernel_rfl) q0
   obtain ⟨v0x,f00,_,w00⟩:=DataW.trod_int Try.underlying3 a00
   obtain ⟨v0y,f01,_,w01⟩:=DataW.trod_int Try.underlying3 a01
   obtain ⟨v0z,f02,_,w02⟩:=DataW.trod_int Try.underlying3 a02
   simp at f00 f01 f02
   subst f00 f01 f02
   simp only [List.getElem_toArray,List.getElem_cons_zero,List.getElem_cons_succ] at q1
   rw [show Try.prog.cellsOf 23=3 from by kernel_rfl] at q1
   simp at q1
   obtain ⟨_,_,_,_,_,a10,a11,a12⟩:=trod_array3 Try.underlying23 (by kernel_rfl) q1
   obtain ⟨v1x,f10,_⟩:=DataW.trod_bool Try.underlying4 a10
   obtain ⟨v1y,f11,_⟩:=DataW.trod_bool Try.underlying4 a11
   obtain ⟨v1z,f12,_⟩:=DataW.trod_bool Try.underlying4 a12
   simp at f10 f11 f12
   subst f10 f11 f12
   simp only [List.getElem_toArray,List.getElem_cons_zero,List.getElem_cons_succ] at q2
   rw [show Try.prog.cellsOf 4=1 from by kernel_rfl] at q2
   simp at q2
   obtain ⟨v2,e2,_⟩:=DataW.trod_bool Try.underlying4 q2
   simp at e2
   subst e2
   exact ⟨v0x,v0y,v0z,v1x,v1y,v1z,v2,rfl,w00,w01,w02⟩
theorem trod_Job {H:Type} {enc:TypeId × Value→H} {W:World} {held:Bool} {fuel:Nat} {cs:List Value} {x:DataW H × List MemPlace} (hlen:cs.length=16) (h:DataW.trod enc Try.prog W 0 (fun _=>true) held fuel 28 cs=some x) :
    ∃ (v0:Int) (v1:Int) (v2:Int) (v30x:Int) (v30y:Int) (v30z:Int) (v31x:Bool) (v31y:Bool) (v31z:Bool) (v32:Bool) (v4:Int) (v5:Int) (v6:Bool) (v7Y:Option Addr) (v7c:Nat) (v7l:List Int) (v8:Int) (v9:Int),cs=[.int .i64 v0,.int .i64 v1,.int .i64 v2,.int .i64 v30x,.int .i64 v30y,.int .i64 v30z,.bool v31x,.bool v31y,.bool v31z,.bool v32,.int .i64 v4,.int .i64 v5,.bool v6,.slice v7Y v7l.length v7c,.int .u8 v8,.int .i64 v9]∧W64 v0∧W64 v1∧W64 v2∧W64 v30x∧W64 v30y∧W64 v30z∧W64 v4∧W64 v5∧v7l.length≤v7c∧v7c≤maxLen∧IntsAt W v7Y v7l∧(∀ n ∈ v7l,W64 n)∧W8 v8∧W64 v9:=by
 obtain ⟨xs,n,_,hx,_,hl,hg⟩:=DataW.trod_struct Try.underlying28 h
 match cs,hlen with
 | [c0,c1,c2,c3,c4,c5,c6,c7,c8,c9,c10,c11,c12,c13,c14,c15],_ =>
  have q0:=hg 0 _ rfl
  have q1:=hg 1 _ rfl
  have q2:=hg 2 _ rfl
  have q3:=hg 3 _ rfl
  have q4:=hg 4 _ rfl
  have q5:=hg 5 _ rfl
  have q6:=hg 6 _ rfl
  have q7:=hg 7 _ rfl
  have q8:=hg 8 _ rfl
  have q9:=hg 9 _ rfl
  match xs,hl with
  | [z0,z1,z2,z3,z4,z5,z6,z7,z8,z9],_ =>
   simp only [List.getElem_toArray,List.getElem_cons_zero,List.getElem_cons_succ] at q0
   rw [show Try.prog.cellsOf 3=1 from by kernel_rfl] at q0
   simp at q0
   obtain ⟨v0,e0,_,w0⟩:=DataW.trod_int Try.underlying3 q0
   simp at e0
   subst e0
   simp only [List.getElem_toArray,List.getElem_cons_zero,List.getElem_cons_succ] at q1
   rw [show Try.prog.cellsOf 3=1 from by kernel_rfl] at q1
   simp at q1
   obtain ⟨v1,e1,_,w1⟩:=DataW.trod_int Try.underlying3 q1
   simp at e1
   subst e1
   simp only [List.getElem_toArray,List.getElem_cons_zero,List.getElem_cons_succ] at q2
   rw [show Try.prog.cellsOf 3=1 from by kernel_rfl] at q2
   simp at q2
   obtain ⟨v2,e2,_,w2⟩:=DataW.trod_int Try.underlying3 q2
   simp at e2
   subst e2
   simp only [List.getElem_toArray,List.getElem_cons_zero,List.getElem_cons_succ] at q3
   rw [show Try.prog.cellsOf 25=7 from by kernel_rfl] at q3
   simp at q3
   obtain ⟨v30x,v30y,v30z,v31x,v31y,v31z,v32,e3,w3_0,w3_1,w3_2⟩:=trod_Wants (by rfl) q3
   simp only [List.cons.injEq,and_true] at e3
   obtain ⟨rfl,rfl,rfl,rfl,rfl,rfl,rfl⟩:=e3
   simp only [List.getElem_toArray,List.getElem_cons_zero,List.getElem_cons_succ] at q4
   rw [show Try.prog.cellsOf 3=1 from by kernel_rfl] at q4
   simp at q4
   obtain ⟨v4,e4,_,w4⟩:=DataW.trod_int Try.underlying3 q4
   simp at e4
   subst e4
   simp only [List.getElem_toArray,List.getElem_cons_zero,List.getElem_cons_succ] at q5
   rw [show Try.prog.cellsOf 3=1 from by kernel_rfl] at q5
   simp at q5
   obtain ⟨v5,e5,_,w5⟩:=DataW.trod_int Try.underlying3 q5
   simp at e5
   subst e5
   simp only [List.getElem_toArray,List.getElem_cons_zero,List.getElem_cons_succ] at q6
   rw [show Try.prog.cellsOf 4=1 from by kernel_rfl] at q6
   simp at q6
   obtain ⟨v6,e6,_⟩:=DataW.trod_bool Try.underlying4 q6
   simp at e6
   subst e6
   simp only [List.getElem_toArray,List.getElem_cons_zero,List.getElem_cons_succ] at q7
   rw [show Try.prog.cellsOf 26=1 from by kernel_rfl] at q7
   simp at q7
   obtain ⟨v7Y,v7c,v7l,e7,w7a,w7b,w7c,w7d⟩:=ints_trod q7
   subst e7
   simp only [List.getElem_toArray,List.getElem_cons_zero,List.getElem_cons_succ] at q8
   rw [show Try.prog.cellsOf 5=1 from by kernel_rfl] at q8
   simp at q8
   obtain ⟨v8,e8,_,w8⟩:=DataW.trod_int Try.underlying5 q8
   simp at e8
   subst e8
   simp only [List.getElem_toArray,List.getElem_cons_zero,List.getElem_cons_succ] at q9
   rw [show Try.prog.cellsOf 3=1 from by kernel_rfl] at q9
   simp at q9
   obtain ⟨v9,e9,_,w9⟩:=DataW.trod_int Try.underlying3 q9
   simp at e9
   subst e9
   exact ⟨v0,v1,v2,v30x,v30y,v30z,v31x,v31y,v31z,v32,v4,v5,v6,v7Y,v7c,v7l,v8,v9,rfl,w0,w1,w2,w3_0,w3_1,w3_2,w4,w5,w7a,w7b,w7c,w7d,w8,w9⟩
theorem trod_Box {H:Type} {enc:TypeId × Value→H} {W:World} {held:Bool} {fuel:Nat} {cs:List Value} {x:DataW H × List MemPlace} (hlen:cs.length=6) (h:DataW.trod enc Try.prog W 0 (fun _=>true) held fuel 30 cs=some x) :
    ∃ (v0x:Int) (v0y:Int) (v0z:Int) (v1x:Int) (v1y:Int) (v1z:Int),cs=[.int .i64 v0x,.int .i64 v0y,.int .i64 v0z,.int .i64 v1x,.int .i64 v1y,.int .i64 v1z]∧W64 v0x∧W64 v0y∧W64 v0z∧W64 v1x∧W64 v1y∧W64 v1z:=by
 obtain ⟨xs,n,_,hx,_,hl,hg⟩:=DataW.trod_struct Try.underlying30 h
 match cs,hlen with
 | [c0,c1,c2,c3,c4,c5],_ =>
  have q0:=hg 0 _ rfl
  have q1:=hg 1 _ rfl
  match xs,hl with
  | [z0,z1],_ =>
   simp only [List.getElem_toArray,List.getElem_cons_zero,List.getElem_cons_succ] at q0
   rw [show Try.prog.cellsOf 22=3 from by kernel_rfl] at q0
   simp at q0
   obtain ⟨_,_,_,_,_,a00,a01,a02⟩:=trod_array3 Try.underlying22 (by kernel_rfl) q0
   obtain ⟨v0x,f00,_,w00⟩:=DataW.trod_int Try.underlying3 a00
   obtain ⟨v0y,f01,_,w01⟩:=DataW.trod_int Try.underlying3 a01
   obtain ⟨v0z,f02,_,w02⟩:=DataW.trod_int Try.underlying3 a02
   simp at f00 f01 f02
   subst f00 f01 f02
   simp only [List.getElem_toArray,List.getElem_cons_zero,List.getElem_cons_succ] at q1
   rw [show Try.prog.cellsOf 22=3 from by kernel_rfl] at q1
   simp at q1
   obtain ⟨_,_,_,_,_,a10,a11,a12⟩:=trod_array3 Try.underlying22 (by kernel_rfl) q1
   obtain ⟨v1x,f10,_,w10⟩:=DataW.trod_int Try.underlying3 a10
   obtain ⟨v1y,f11,_,w11⟩:=DataW.trod_int Try.underlying3 a11
   obtain ⟨v1z,f12,_,w12⟩:=DataW.trod_int Try.underlying3 a12
   simp at f10 f11 f12
   subst f10 f11 f12
   exact ⟨v0x,v0y,v0z,v1x,v1y,v1z,rfl,w00,w01,w02,w10,w11,w12⟩
theorem trod_Span {H:Type} {enc:TypeId × Value→H} {W:World} {held:Bool} {fuel:Nat} {cs:List Value} {x:DataW H × List MemPlace} (hlen:cs.length=2) (h:DataW.trod enc Try.prog W 0 (fun _=>true) held fuel 32 cs=some x) :
    ∃ (v0:Int) (v1:Int),cs=[.int .i64 v0,.int .i64 v1]∧W64 v0∧W64 v1:=by
 obtain ⟨xs,n,_,hx,_,hl,hg⟩:=DataW.trod_struct Try.underlying32 h
 match cs,hlen with
 | [c0,c1],_ =>
  have q0:=hg 0 _ rfl
  have q1:=hg 1 _ rfl
  match xs,hl with
  | [z0,z1],_ =>
   simp only [List.getElem_toArray,List.getElem_cons_zero,List.getElem_cons_succ] at q0
   rw [show Try.prog.cellsOf 3=1 from by kernel_rfl] at q0
   simp at q0
   obtain ⟨v0,e0,_,w0⟩:=DataW.trod_int Try.underlying3 q0
   simp at e0
   subst e0
   simp only [List.getElem_toArray,List.getElem_cons_zero,List.getElem_cons_succ] at q1
   rw [show Try.prog.cellsOf 3=1 from by kernel_rfl] at q1
   simp at q1
   obtain ⟨v1,e1,_,w1⟩:=DataW.trod_int Try.underlying3 q1
   simp at e1
   subst e1
   exact ⟨v0,v1,rfl,w0,w1⟩
theorem trod_Place {H:Type} {enc:TypeId × Value→H} {W:World} {held:Bool} {fuel:Nat} {cs:List Value} {x:DataW H × List MemPlace} (hlen:cs.length=9) (h:DataW.trod enc Try.prog W 0 (fun _=>true) held fuel 107 cs=some x) :
    ∃ (v00x:Int) (v00y:Int) (v00z:Int) (v01x:Int) (v01y:Int) (v01z:Int) (v1x:Bool) (v1y:Bool) (v1z:Bool),cs=[.int .i64 v00x,.int .i64 v00y,.int .i64 v00z,.int .i64 v01x,.int .i64 v01y,.int .i64 v01z,.bool v1x,.bool v1y,.bool v1z]∧W64 v00x∧W64 v00y∧W64 v00z∧W64 v01x∧W64 v01y∧W64 v01z:=by
 obtain ⟨xs,n,_,hx,_,hl,hg⟩:=DataW.trod_struct Try.underlying107 h
 match cs,hlen with
 | [c0,c1,c2,c3,c4,c5,c6,c7,c8],_ =>
  have q0:=hg 0 _ rfl
  have q1:=hg 1 _ rfl
  match xs,hl with
  | [z0,z1],_ =>
   simp only [List.getElem_toArray,List.getElem_cons_zero,List.getElem_cons_succ] at q0
   rw [show Try.prog.cellsOf 30=6 from by kernel_rfl] at q0
   simp at q0
   obtain ⟨v00x,v00y,v00z,v01x,v01y,v01z,e0,w0_0,w0_1,w0_2,w0_3,w0_4,w0_5⟩:=trod_Box (by rfl) q0
   simp only [List.cons.injEq,and_true] at e0
   obtain ⟨rfl,rfl,rfl,rfl,rfl,rfl⟩:=e0
   simp only [List.getElem_toArray,List.getElem_cons_zero,List.getElem_cons_succ] at q1
   rw [show Try.prog.cellsOf 23=3 from by kernel_rfl] at q1
   simp at q1
   obtain ⟨_,_,_,_,_,a10,a11,a12⟩:=trod_array3 Try.underlying23 (by kernel_rfl) q1
   obtain ⟨v1x,f10,_⟩:=DataW.trod_bool Try.underlying4 a10
   obtain ⟨v1y,f11,_⟩:=DataW.trod_bool Try.underlying4 a11
   obtain ⟨v1z,f12,_⟩:=DataW.trod_bool Try.underlying4 a12
   simp at f10 f11 f12
   subst f10 f11 f12
   exact ⟨v00x,v00y,v00z,v01x,v01y,v01z,v1x,v1y,v1z,rfl,w0_0,w0_1,w0_2,w0_3,w0_4,w0_5⟩
theorem trod_Class {H:Type} {enc:TypeId × Value→H} {W:World} {held:Bool} {fuel:Nat} {cs:List Value} {x:DataW H × List MemPlace} (hlen:cs.length=4) (h:DataW.trod enc Try.prog W 0 (fun _=>true) held fuel 154 cs=some x) :
    ∃ (v0:Int) (v1:Int) (v2:Int) (v3:Int),cs=[.int .i64 v0,.int .i64 v1,.int .i64 v2,.int .i64 v3]∧W64 v0∧W64 v1∧W64 v2∧W64 v3:=by
 obtain ⟨xs,n,_,hx,_,hl,hg⟩:=DataW.trod_struct Try.underlying154 h
 match cs,hlen with
 | [c0,c1,c2,c3],_ =>
  have q0:=hg 0 _ rfl
  have q1:=hg 1 _ rfl
  have q2:=hg 2 _ rfl
  have q3:=hg 3 _ rfl
  match xs,hl with
  | [z0,z1,z2,z3],_ =>
   simp only [List.getElem_toArray,List.getElem_cons_zero,List.getElem_cons_succ] at q0
   rw [show Try.prog.cellsOf 3=1 from by kernel_rfl] at q0
   simp at q0
   obtain ⟨v0,e0,_,w0⟩:=DataW.trod_int Try.underlying3 q0
   simp at e0
   subst e0
   simp only [List.getElem_toArray,List.getElem_cons_zero,List.getElem_cons_succ] at q1
   rw [show Try.prog.cellsOf 3=1 from by kernel_rfl] at q1
   simp at q1
   obtain ⟨v1,e1,_,w1⟩:=DataW.trod_int Try.underlying3 q1
   simp at e1
   subst e1
   simp only [List.getElem_toArray,List.getElem_cons_zero,List.getElem_cons_succ] at q2
   rw [show Try.prog.cellsOf 3=1 from by kernel_rfl] at q2
   simp at q2
   obtain ⟨v2,e2,_,w2⟩:=DataW.trod_int Try.underlying3 q2
   simp at e2
   subst e2
   simp only [List.getElem_toArray,List.getElem_cons_zero,List.getElem_cons_succ] at q3
   rw [show Try.prog.cellsOf 3=1 from by kernel_rfl] at q3
   simp at q3
   obtain ⟨v3,e3,_,w3⟩:=DataW.trod_int Try.underlying3 q3
   simp at e3
   subst e3
   exact ⟨v0,v1,v2,v3,rfl,w0,w1,w2,w3⟩
theorem trod_Part {H:Type} {enc:TypeId × Value→H} {W:World} {held:Bool} {fuel:Nat} {cs:List Value} {x:DataW H × List MemPlace} (hlen:cs.length=13) (h:DataW.trod enc Try.prog W 0 (fun _=>true) held fuel 109 cs=some x) :
    ∃ (v0:Int) (v100x:Int) (v100y:Int) (v100z:Int) (v101x:Int) (v101y:Int) (v101z:Int) (v11x:Bool) (v11y:Bool) (v11z:Bool) (v2:Int) (v3:Int) (v4:Int),cs=[.int .i64 v0,.int .i64 v100x,.int .i64 v100y,.int .i64 v100z,.int .i64 v101x,.int .i64 v101y,.int .i64 v101z,.bool v11x,.bool v11y,.bool v11z,.int .u8 v2,.int .i64 v3,.int .i64 v4]∧W64 v0∧W64 v100x∧W64 v100y∧W64 v100z∧W64 v101x∧W64 v101y∧W64 v101z∧W8 v2∧W64 v3∧W64 v4:=by
 obtain ⟨xs,n,_,hx,_,hl,hg⟩:=DataW.trod_struct Try.underlying109 h
 match cs,hlen with
 | [c0,c1,c2,c3,c4,c5,c6,c7,c8,c9,c10,c11,c12],_ =>
  have q0:=hg 0 _ rfl
  have q1:=hg 1 _ rfl
  have q2:=hg 2 _ rfl
  have q3:=hg 3 _ rfl
  have q4:=hg 4 _ rfl
  match xs,hl with
  | [z0,z1,z2,z3,z4],_ =>
   simp only [List.getElem_toArray,List.getElem_cons_zero,List.getElem_cons_succ] at q0
   rw [show Try.prog.cellsOf 3=1 from by kernel_rfl] at q0
   simp at q0
   obtain ⟨v0,e0,_,w0⟩:=DataW.trod_int Try.underlying3 q0
   simp at e0
   subst e0
   simp only [List.getElem_toArray,List.getElem_cons_zero,List.getElem_cons_succ] at q1
   rw [show Try.prog.cellsOf 107=9 from by kernel_rfl] at q1
   simp at q1
   obtain ⟨v100x,v100y,v100z,v101x,v101y,v101z,v11x,v11y,v11z,e1,w1_0,w1_1,w1_2,w1_3,w1_4,w1_5⟩:=trod_Place (by rfl) q1
   simp only [List.cons.injEq,and_true] at e1
   obtain ⟨rfl,rfl,rfl,rfl,rfl,rfl,rfl,rfl,rfl⟩:=e1
   simp only [List.getElem_toArray,List.getElem_cons_zero,List.getElem_cons_succ] at q2
   rw [show Try.prog.cellsOf 5=1 from by kernel_rfl] at q2
   simp at q2
   obtain ⟨v2,e2,_,w2⟩:=DataW.trod_int Try.underlying5 q2
   simp at e2
   subst e2
   simp only [List.getElem_toArray,List.getElem_cons_zero,List.getElem_cons_succ] at q3
   rw [show Try.prog.cellsOf 3=1 from by kernel_rfl] at q3
   simp at q3
   obtain ⟨v3,e3,_,w3⟩:=DataW.trod_int Try.underlying3 q3
   simp at e3
   subst e3
   simp only [List.getElem_toArray,List.getElem_cons_zero,List.getElem_cons_succ] at q4
   rw [show Try.prog.cellsOf 3=1 from by kernel_rfl] at q4
   simp at q4
   obtain ⟨v4,e4,_,w4⟩:=DataW.trod_int Try.underlying3 q4
   simp at e4
   subst e4
   exact ⟨v0,v100x,v100y,v100z,v101x,v101y,v101z,v11x,v11y,v11z,v2,v3,v4,rfl,w0,w1_0,w1_1,w1_2,w1_3,w1_4,w1_5,w2,w3,w4⟩
theorem trod_Keep {H:Type} {enc:TypeId × Value→H} {W:World} {held:Bool} {fuel:Nat} {cs:List Value} {x:DataW H × List MemPlace} (hlen:cs.length=9) (h:DataW.trod enc Try.prog W 0 (fun _=>true) held fuel 112 cs=some x) :
    ∃ (v0:Int) (v10x:Int) (v10y:Int) (v10z:Int) (v11x:Int) (v11y:Int) (v11z:Int) (v20:Int) (v21:Int),cs=[.int .i64 v0,.int .i64 v10x,.int .i64 v10y,.int .i64 v10z,.int .i64 v11x,.int .i64 v11y,.int .i64 v11z,.int .i64 v20,.int .i64 v21]∧W64 v0∧W64 v10x∧W64 v10y∧W64 v10z∧W64 v11x∧W64 v11y∧W64 v11z∧W64 v20∧W64 v21:=by
 obtain ⟨xs,n,_,hx,_,hl,hg⟩:=DataW.trod_struct Try.underlying112 h
 match cs,hlen with
 | [c0,c1,c2,c3,c4,c5,c6,c7,c8],_ =>
  have q0:=hg 0 _ rfl
  have q1:=hg 1 _ rfl
  have q2:=hg 2 _ rfl
  match xs,hl with
  | [z0,z1,z2],_ =>
   simp only [List.getElem_toArray,List.getElem_cons_zero,List.getElem_cons_succ] at q0
   rw [show Try.prog.cellsOf 3=1 from by kernel_rfl] at q0
   simp at q0
   obtain ⟨v0,e0,_,w0⟩:=DataW.trod_int Try.underlying3 q0
   simp at e0
   subst e0
   simp only [List.getElem_toArray,List.getElem_cons_zero,List.getElem_cons_succ] at q1
   rw [show Try.prog.cellsOf 30=6 from by kernel_rfl] at q1
   simp at q1
   obtain ⟨v10x,v10y,v10z,v11x,v11y,v11z,e1,w1_0,w1_1,w1_2,w1_3,w1_4,w1_5⟩:=trod_Box (by rfl) q1
   simp only [List.cons.injEq,and_true] at e1
   obtain ⟨rfl,rfl,rfl,rfl,rfl,rfl⟩:=e1
   simp only [List.getElem_toArray,List.getElem_cons_zero,List.getElem_cons_succ] at q2
   rw [show Try.prog.cellsOf 32=2 from by kernel_rfl] at q2
   simp at q2
   obtain ⟨v20,v21,e2,w2_0,w2_1⟩:=trod_Span (by rfl) q2
   simp only [List.cons.injEq,and_true] at e2
   obtain ⟨rfl,rfl⟩:=e2
   exact ⟨v0,v10x,v10y,v10z,v11x,v11y,v11z,v20,v21,rfl,w0,w1_0,w1_1,w1_2,w1_3,w1_4,w1_5,w2_0,w2_1⟩
theorem trod_Command {H:Type} {enc:TypeId × Value→H} {W:World} {held:Bool} {fuel:Nat} {cs:List Value} {x:DataW H × List MemPlace} (hlen:cs.length=28) (h:DataW.trod enc Try.prog W 0 (fun _=>true) held fuel 34 cs=some x) :
    ∃ (v0:Int) (v10:Int) (v11:Int) (v12:Int) (v130x:Int) (v130y:Int) (v130z:Int) (v131x:Bool) (v131y:Bool) (v131z:Bool) (v132:Bool) (v14:Int) (v15:Int) (v16:Bool) (v17Y:Option Addr) (v17c:Nat) (v17l:List Int) (v18:Int) (v19:Int) (v2:Int) (v30x:Int) (v30y:Int) (v30z:Int) (v31x:Int) (v31y:Int) (v31z:Int) (v40:Int) (v41:Int) (v5:Int) (v6:Bool),cs=[.int .u8 v0,.int .i64 v10,.int .i64 v11,.int .i64 v12,.int .i64 v130x,.int .i64 v130y,.int .i64 v130z,.bool v131x,.bool v131y,.bool v131z,.bool v132,.int .i64 v14,.int .i64 v15,.bool v16,.slice v17Y v17l.length v17c,.int .u8 v18,.int .i64 v19,.int .i64 v2,.int .i64 v30x,.int .i64 v30y,.int .i64 v30z,.int .i64 v31x,.int .i64 v31y,.int .i64 v31z,.int .i64 v40,.int .i64 v41,.int .i64 v5,.bool v6]∧W8 v0∧W64 v10∧W64 v11∧W64 v12∧W64 v130x∧W64 v130y∧W64 v130z∧W64 v14∧W64 v15∧v17l.length≤v17c∧v17c≤maxLen∧IntsAt W v17Y v17l∧(∀ n ∈ v17l,W64 n)∧W8 v18∧W64 v19∧W64 v2∧W64 v30x∧W64 v30y∧W64 v30z∧W64 v31x∧W64 v31y∧W64 v31z∧W64 v40∧W64 v41∧W64 v5:=by
 obtain ⟨xs,n,_,hx,_,hl,hg⟩:=DataW.trod_struct Try.underlying34 h
 match cs,hlen with
 | [c0,c1,c2,c3,c4,c5,c6,c7,c8,c9,c10,c11,c12,c13,c14,c15,c16,c17,c18,c19,c20,c21,c22,c23,c24,c25,c26,c27],_ =>
  have q0:=hg 0 _ rfl
  have q1:=hg 1 _ rfl
  have q2:=hg 2 _ rfl
  have q3:=hg 3 _ rfl
  have q4:=hg 4 _ rfl
  have q5:=hg 5 _ rfl
  have q6:=hg 6 _ rfl
  match xs,hl with
  | [z0,z1,z2,z3,z4,z5,z6],_ =>
   simp only [List.getElem_toArray,List.getElem_cons_zero,List.getElem_cons_succ] at q0
   rw [show Try.prog.cellsOf 5=1 from by kernel_rfl] at q0
   simp at q0
   obtain ⟨v0,e0,_,w0⟩:=DataW.trod_int Try.underlying5 q0
   simp at e0
   subst e0
   simp only [List.getElem_toArray,List.getElem_cons_zero,List.getElem_cons_succ] at q1
   rw [show Try.prog.cellsOf 28=16 from by kernel_rfl] at q1
   simp at q1
   obtain ⟨v10,v11,v12,v130x,v130y,v130z,v131x,v131y,v131z,v132,v14,v15,v16,v17Y,v17c,v17l,v18,v19,e1,w1_0,w1_1,w1_2,w1_3,w1_4,w1_5,w1_6,w1_7,w1_8,w1_9,w1_10,w1_11,w1_12,w1_13⟩:=trod_Job (by rfl) q1
   simp only [List.cons.injEq,and_true] at e1
   obtain ⟨rfl,rfl,rfl,rfl,rfl,rfl,rfl,rfl,rfl,rfl,rfl,rfl,rfl,rfl,rfl,rfl⟩:=e1
   simp only [List.getElem_toArray,List.getElem_cons_zero,List.getElem_cons_succ] at q2
   rw [show Try.prog.cellsOf 3=1 from by kernel_rfl] at q2
   simp at q2
   obtain ⟨v2,e2,_,w2⟩:=DataW.trod_int Try.underlying3 q2
   simp at e2
   subst e2
   simp only [List.getElem_toArray,List.getElem_cons_zero,List.getElem_cons_succ] at q3
   rw [show Try.prog.cellsOf 30=6 from by kernel_rfl] at q3
   simp at q3
   obtain ⟨v30x,v30y,v30z,v31x,v31y,v31z,e3,w3_0,w3_1,w3_2,w3_3,w3_4,w3_5⟩:=trod_Box (by rfl) q3
   simp only [List.cons.injEq,and_true] at e3
   obtain ⟨rfl,rfl,rfl,rfl,rfl,rfl⟩:=e3
   simp only [List.getElem_toArray,List.getElem_cons_zero,List.getElem_cons_succ] at q4
   rw [show Try.prog.cellsOf 32=2 from by kernel_rfl] at q4
   simp at q4
   obtain ⟨v40,v41,e4,w4_0,w4_1⟩:=trod_Span (by rfl) q4
   simp only [List.cons.injEq,and_true] at e4
   obtain ⟨rfl,rfl⟩:=e4
   simp only [List.getElem_toArray,List.getElem_cons_zero,List.getElem_cons_succ] at q5
   rw [show Try.prog.cellsOf 3=1 from by kernel_rfl] at q5
   simp at q5
   obtain ⟨v5,e5,_,w5⟩:=DataW.trod_int Try.underlying3 q5
   simp at e5
   subst e5
   simp only [List.getElem_toArray,List.getElem_cons_zero,List.getElem_cons_succ] at q6
   rw [show Try.prog.cellsOf 4=1 from by kernel_rfl] at q6
   simp at q6
   obtain ⟨v6,e6,_⟩:=DataW.trod_bool Try.underlying4 q6
   simp at e6
   subst e6
   exact ⟨v0,v10,v11,v12,v130x,v130y,v130z,v131x,v131y,v131z,v132,v14,v15,v16,v17Y,v17c,v17l,v18,v19,v2,v30x,v30y,v30z,v31x,v31y,v31z,v40,v41,v5,v6,rfl,w0,w1_0,w1_1,w1_2,w1_3,w1_4,w1_5,w1_6,w1_7,w1_8,w1_9,w1_10,w1_11,w1_12,w1_13,w2,w3_0,w3_1,w3_2,w3_3,w3_4,w3_5,w4_0,w4_1,w5⟩
theorem el_cls {H:Type} {enc:TypeId × Value→H} {W:World} {held:Bool} {fuel:Nat} {cs:List Value} {x:DataW H × List MemPlace} (hlen:cs.length=4) (h:DataW.trod enc Try.prog W 0 (fun _=>true) held fuel 154 cs=some x):∃ a,kRep W a cs∧KWf a:=by
 obtain ⟨v0,v1,v2,v3,rfl,w0,w1,w2,w3⟩:=trod_Class hlen h
 exact ⟨⟨v0,v1,v2,v3⟩,rfl,w0,w1,w2,w3⟩
theorem el_part {H:Type} {enc:TypeId × Value→H} {W:World} {held:Bool} {fuel:Nat} {cs:List Value} {x:DataW H × List MemPlace} (hlen:cs.length=13) (h:DataW.trod enc Try.prog W 0 (fun _=>true) held fuel 109 cs=some x):∃ a,pRep W a cs∧PWf a:=by
 obtain ⟨v0,v100x,v100y,v100z,v101x,v101y,v101z,v11x,v11y,v11z,v2,v3,v4,rfl,w0,w1,w2,w3,w4,w5,w6,w7,w8,w9⟩:=trod_Part hlen h
 exact ⟨⟨v0,v100x,v100y,v100z,v101x,v101y,v101z,v11x,v11y,v11z,v2,v3,v4⟩,rfl,w0,w1,w2,w3,w4,w5,w6,w7,w8,w9⟩
theorem el_keep {H:Type} {enc:TypeId × Value→H} {W:World} {held:Bool} {fuel:Nat} {cs:List Value} {x:DataW H × List MemPlace} (hlen:cs.length=9) (h:DataW.trod enc Try.prog W 0 (fun _=>true) held fuel 112 cs=some x):∃ a,eRep W a cs∧EWf a:=by
 obtain ⟨v0,v10x,v10y,v10z,v11x,v11y,v11z,v20,v21,rfl,w0,w1,w2,w3,w4,w5,w6,w7,w8⟩:=trod_Keep hlen h
 exact ⟨⟨v0,v10x,v10y,v10z,v11x,v11y,v11z,v20,v21⟩,rfl,w0,w1,w2,w3,w4,w5,w6,w7,w8⟩
theorem trod_Config {H:Type} {enc:TypeId × Value→H} {W:World} {held:Bool} {fuel:Nat} {cs:List Value} {x:DataW H × List MemPlace} (hlen:cs.length=8) (h:DataW.trod enc Try.prog W 0 (fun _=>true) held fuel 44 cs=some x) :
    ∃ (v0x:Int) (v0y:Int) (v0z:Int) (v1:Int) (v2:Int) (v3:Int) (v4:Int) (v5Y:Option Addr) (v5c:Nat) (v5l:List KV),cs=[.int .i64 v0x,.int .i64 v0y,.int .i64 v0z,.int .i64 v1,.int .i64 v2,.int .i64 v3,.int .i64 v4,.slice v5Y v5l.length v5c]∧W64 v0x∧W64 v0y∧W64 v0z∧W64 v1∧W64 v2∧W64 v3∧W64 v4∧v5l.length≤v5c∧v5c≤maxLen∧SlcAt 4 kRep W v5Y v5l∧(∀ n ∈ v5l,KWf n):=by
 obtain ⟨xs,n,_,hx,_,hl,hg⟩:=DataW.trod_struct Try.underlying44 h
 match cs,hlen with
 | [c0,c1,c2,c3,c4,c5,c6,c7],_ =>
  have q0:=hg 0 _ rfl
  have q1:=hg 1 _ rfl
  have q2:=hg 2 _ rfl
  have q3:=hg 3 _ rfl
  have q4:=hg 4 _ rfl
  have q5:=hg 5 _ rfl
  match xs,hl with
  | [z0,z1,z2,z3,z4,z5],_ =>
   simp only [List.getElem_toArray,List.getElem_cons_zero,List.getElem_cons_succ] at q0
   rw [show Try.prog.cellsOf 41=3 from by kernel_rfl] at q0
   simp at q0
   obtain ⟨_,_,_,_,_,a00,a01,a02⟩:=trod_array3 Try.underlying41 (by kernel_rfl) q0
   obtain ⟨v0x,f00,_,w00⟩:=DataW.trod_int Try.underlying3 a00
   obtain ⟨v0y,f01,_,w01⟩:=DataW.trod_int Try.underlying3 a01
   obtain ⟨v0z,f02,_,w02⟩:=DataW.trod_int Try.underlying3 a02
   simp at f00 f01 f02
   subst f00 f01 f02
   simp only [List.getElem_toArray,List.getElem_cons_zero,List.getElem_cons_succ] at q1
   rw [show Try.prog.cellsOf 3=1 from by kernel_rfl] at q1
   simp at q1
   obtain ⟨v1,e1,_,w1⟩:=DataW.trod_int Try.underlying3 q1
   simp at e1
   subst e1
   simp only [List.getElem_toArray,List.getElem_cons_zero,List.getElem_cons_succ] at q2
   rw [show Try.prog.cellsOf 3=1 from by kernel_rfl] at q2
   simp at q2
   obtain ⟨v2,e2,_,w2⟩:=DataW.trod_int Try.underlying3 q2
   simp at e2
   subst e2
   simp only [List.getElem_toArray,List.getElem_cons_zero,List.getElem_cons_succ] at q3
   rw [show Try.prog.cellsOf 3=1 from by kernel_rfl] at q3
   simp at q3
   obtain ⟨v3,e3,_,w3⟩:=DataW.trod_int Try.underlying3 q3
   simp at e3
   subst e3
   simp only [List.getElem_toArray,List.getElem_cons_zero,List.getElem_cons_succ] at q4
   rw [show Try.prog.cellsOf 3=1 from by kernel_rfl] at q4
   simp at q4
   obtain ⟨v4,e4,_,w4⟩:=DataW.trod_int Try.underlying3 q4
   simp at e4
   subst e4
   simp only [List.getElem_toArray,List.getElem_cons_zero,List.getElem_cons_succ] at q5
   rw [show Try.prog.cellsOf 42=1 from by kernel_rfl] at q5
   simp at q5
   obtain ⟨v5Y,v5c,v5l,e5,w5a,w5b,w5c,w5d⟩:=slc_trod (Wf:=KWf) kRep Try.underlying42 (by kernel_rfl) (by omega) (fun _ _ _=>el_cls) q5
   subst e5
   exact ⟨v0x,v0y,v0z,v1,v2,v3,v4,v5Y,v5c,v5l,rfl,w00,w01,w02,w1,w2,w3,w4,w5a,w5b,w5c,w5d⟩
end Go.Proofs.Ytfdldbfjeamlcaa.OpenRec0
namespace Go.Proofs.Ytfdldbfjeamlcaa.OpenRec
open Go.ChangeShapes Go.WideShapes Go.ChangeAt Go.RowKit Go.Joins Go.Deep Mem RecMath RecCommand RecVal Lay OpenRec0
theorem el_cmd {H:Type} {enc:TypeId × Value→H} {W:World} {held:Bool} {fuel:Nat} {cs:List Value} {x:DataW H × List MemPlace} (hlen:cs.length=28) (h:DataW.trod enc Try.prog W 0 (fun _=>true) held fuel 34 cs=some x) :
    ∃ (c:CV) (Y:Option Addr) (cy:Nat),cs=cL c Y cy∧c.af.length≤cy∧cy≤maxLen∧IntsAt W Y c.af∧CWf c∧W8 c.kd∧W8 c.st:=by
 obtain ⟨v0,v10,v11,v12,v130x,v130y,v130z,v131x,v131y,v131z,v132,v14,v15,v16,v17Y,v17c,v17l,v18,v19,v2,v30x,v30y,v30z,v31x,v31y,v31z,v40,v41,v5,v6,rfl,w0,w1,w2,w3,w4,w5,w6,w7,w8,w9,w10,w11,w12,w13,w14,w15,w16,w17,w18,w19,w20,w21,w22,w23,w24⟩:=trod_Command hlen h
 exact ⟨⟨v0,v10,v11,v12,v130x,v130y,v130z,v131x,v131y,v131z,v132,v14,v15,v16,v17l,v18,v19,v2,v30x,v30y,v30z,v31x,v31y,v31z,v40,v41,v5,v6⟩,v17Y,v17c,rfl,w9,w10,w11,⟨by simp only [List.forall_mem_cons];exact ⟨w1,w2,w3,w4,w5,w6,w7,w8,w14,w15,w16,w17,w18,w19,w20,w21,w22,w23,w24,fun n hn=>by cases hn⟩,w12⟩,w0,w13⟩
def RIn (W:World) (r:RV) (x:SA) (Y:Option Addr) (cy:Nat):Prop:=StAt W r.s x∧SWf r.s∧W64 r.g∧r.c.af.length≤cy∧cy≤maxLen∧IntsAt W Y r.c.af∧CWf r.c∧W8 r.c.kd∧W8 r.c.st
def rRep (W:World) (r:RV) (cs:List Value):Prop:=∃ x Y cy,cs=rL r x Y cy∧RIn W r x Y cy
theorem RIn.up {w w':World} {r:RV} {x:SA} {Y:Option Addr} {cy:Nat} (h:RIn w r x Y cy) (hB:Below w.heap.size w w'):RIn w' r x Y cy:=⟨h.1.up hB,h.2.1,h.2.2.1,h.2.2.2.1,h.2.2.2.2.1,h.2.2.2.2.2.1.up hB,h.2.2.2.2.2.2⟩
theorem rStays:Stays rRep:=fun _ _ _ _ h hB=>by
 obtain ⟨x,Y,cy,e,h1⟩:=h
 exact ⟨x,Y,cy,e,h1.up hB⟩
end Go.Proofs.Ytfdldbfjeamlcaa.OpenRec
namespace Go.Proofs.Ytfdldbfjeamlcaa.OpenRec2
set_option maxRecDepth 100000
set_option maxHeartbeats 2000000
open Go.ChangeShapes Go.WideShapes Go.ChangeAt Go.RowKit Go.Joins Go.Deep Mem RecMath RecCommand RecVal RecSameA RecF3 RecAll Lay OpenRec0 OpenRec
def JWf2 (j:JV):Prop:=JWf j∧j.q.af.length≤9223372036854775807
theorem el_job2 {H:Type} {enc:TypeId × Value→H} {W:World} {held:Bool} {fuel:Nat} {cs:List Value} {x:DataW H × List MemPlace} (hlen:cs.length=16) (h:DataW.trod enc Try.prog W 0 (fun _=>true) held fuel 28 cs=some x):∃ a,jRep W a cs∧JWf2 a:=by
 obtain ⟨v0,v1,v2,v30x,v30y,v30z,v31x,v31y,v31z,v32,v4,v5,v6,v7Y,v7c,v7l,v8,v9,rfl,w0,w1,w2,w3,w4,w5,w6,w7,w8,w9,w10,w11,w12,w13⟩:=trod_Job hlen h
 exact ⟨⟨v0,⟨v1,v2,v30x,v30y,v30z,v31x,v31y,v31z,v32,v4,v5,v6,v7l⟩,v8,v9⟩,⟨v7Y,v7c,rfl,w8,w10⟩,⟨w0,⟨w1,w2,w3,w4,w5,w6,w7,w11⟩,w12,w13⟩,Nat.le_trans w8 w9⟩
theorem trod_State2 {H:Type} {enc:TypeId × Value→H} {W:World} {held:Bool} {fuel:Nat} {cs:List Value} {x:DataW H × List MemPlace} (hlen:cs.length=16) (h:DataW.trod enc Try.prog W 0 (fun _=>true) held fuel 49 cs=some x) :
    ∃ (v00x:Int) (v00y:Int) (v00z:Int) (v01:Int) (v02:Int) (v03:Int) (v04:Int) (v05Y:Option Addr) (v05c:Nat) (v05l:List KV) (v1:Int) (v2:Int) (v3Y:Option Addr) (v3c:Nat) (v3l:List JV) (v4Y:Option Addr) (v4c:Nat) (v4l:List PV) (v5Y:Option Addr) (v5c:Nat) (v5l:List EV) (v6Y:Option Addr) (v6c:Nat) (v6l:List Int) (v7Y:Option Addr) (v7c:Nat) (v7l:List Int) (v8Y:Option Addr) (v8c:Nat) (v8l:List Int),cs=[.int .i64 v00x,.int .i64 v00y,.int .i64 v00z,.int .i64 v01,.int .i64 v02,.int .i64 v03,.int .i64 v04,.slice v05Y v05l.length v05c,.int .i64 v1,.int .i64 v2,.slice v3Y v3l.length v3c,.slice v4Y v4l.length v4c,.slice v5Y v5l.length v5c,.slice v6Y v6l.length v6c,.slice v7Y v7l.length v7c,.slice v8Y v8l.length v8c]∧W64 v00x∧W64 v00y∧W64 v00z∧W64 v01∧W64 v02∧W64 v03∧W64 v04∧v05l.length≤v05c∧v05c≤maxLen∧SlcAt 4 kRep W v05Y v05l∧(∀ n ∈ v05l,KWf n)∧W64 v1∧W64 v2∧v3l.length≤v3c∧v3c≤maxLen∧SlcAt 16 jRep W v3Y v3l∧(∀ n ∈ v3l,JWf2 n)∧v4l.length≤v4c∧v4c≤maxLen∧SlcAt 13 pRep W v4Y v4l∧(∀ n ∈ v4l,PWf n)∧v5l.length≤v5c∧v5c≤maxLen∧SlcAt 9 eRep W v5Y v5l∧(∀ n ∈ v5l,EWf n)∧v6l.length≤v6c∧v6c≤maxLen∧IntsAt W v6Y v6l∧(∀ n ∈ v6l,W64 n)∧v7l.length≤v7c∧v7c≤maxLen∧IntsAt W v7Y v7l∧(∀ n ∈ v7l,W64 n)∧v8l.length≤v8c∧v8c≤maxLen∧IntsAt W v8Y v8l∧(∀ n ∈ v8l,W64 n):=by
 obtain ⟨xs,n,_,hx,_,hl,hg⟩:=DataW.trod_struct Try.underlying49 h
 match cs,hlen with
 | [c0,c1,c2,c3,c4,c5,c6,c7,c8,c9,c10,c11,c12,c13,c14,c15],_ =>
  have q0:=hg 0 _ rfl
  have q1:=hg 1 _ rfl
  have q2:=hg 2 _ rfl
  have q3:=hg 3 _ rfl
  have q4:=hg 4 _ rfl
  have q5:=hg 5 _ rfl
  have q6:=hg 6 _ rfl
  have q7:=hg 7 _ rfl
  have q8:=hg 8 _ rfl
  match xs,hl with
  | [z0,z1,z2,z3,z4,z5,z6,z7,z8],_ =>
   simp only [List.getElem_toArray,List.getElem_cons_zero,List.getElem_cons_succ] at q0
   rw [show Try.prog.cellsOf 44=8 from by kernel_rfl] at q0
   simp at q0
   obtain ⟨v00x,v00y,v00z,v01,v02,v03,v04,v05Y,v05c,v05l,e0,w0_0,w0_1,w0_2,w0_3,w0_4,w0_5,w0_6,w0_7,w0_8,w0_9,w0_10⟩:=trod_Config (by rfl) q0
   simp only [List.cons.injEq,and_true] at e0
   obtain ⟨rfl,rfl,rfl,rfl,rfl,rfl,rfl,rfl⟩:=e0
   simp only [List.getElem_toArray,List.getElem_cons_zero,List.getElem_cons_succ] at q1
   rw [show Try.prog.cellsOf 3=1 from by kernel_rfl] at q1
   simp at q1
   obtain ⟨v1,e1,_,w1⟩:=DataW.trod_int Try.underlying3 q1
   simp at e1
   subst e1
   simp only [List.getElem_toArray,List.getElem_cons_zero,List.getElem_cons_succ] at q2
   rw [show Try.prog.cellsOf 3=1 from by kernel_rfl] at q2
   simp at q2
   obtain ⟨v2,e2,_,w2⟩:=DataW.trod_int Try.underlying3 q2
   simp at e2
   subst e2
   simp only [List.getElem_toArray,List.getElem_cons_zero,List.getElem_cons_succ] at q3
   rw [show Try.prog.cellsOf 45=1 from by kernel_rfl] at q3
   simp at q3
   obtain ⟨v3Y,v3c,v3l,e3,w3a,w3b,w3c,w3d⟩:=slc_trod (Wf:=JWf2) jRep Try.underlying45 (by kernel_rfl) (by omega) (fun _ _ _=>el_job2) q3
   subst e3
   simp only [List.getElem_toArray,List.getElem_cons_zero,List.getElem_cons_succ] at q4
   rw [show Try.prog.cellsOf 46=1 from by kernel_rfl] at q4
   simp at q4
   obtain ⟨v4Y,v4c,v4l,e4,w4a,w4b,w4c,w4d⟩:=slc_trod (Wf:=PWf) pRep Try.underlying46 (by kernel_rfl) (by omega) (fun _ _ _=>el_part) q4
   subst e4
   simp only [List.getElem_toArray,List.getElem_cons_zero,List.getElem_cons_succ] at q5
   rw [show Try.prog.cellsOf 47=1 from by kernel_rfl] at q5
   simp at q5
   obtain ⟨v5Y,v5c,v5l,e5,w5a,w5b,w5c,w5d⟩:=slc_trod (Wf:=EWf) eRep Try.underlying47 (by kernel_rfl) (by omega) (fun _ _ _=>el_keep) q5
   subst e5
   simp only [List.getElem_toArray,List.getElem_cons_zero,List.getElem_cons_succ] at q6
   rw [show Try.prog.cellsOf 26=1 from by kernel_rfl] at q6
   simp at q6
   obtain ⟨v6Y,v6c,v6l,e6,w6a,w6b,w6c,w6d⟩:=ints_trod q6
   subst e6
   simp only [List.getElem_toArray,List.getElem_cons_zero,List.getElem_cons_succ] at q7
   rw [show Try.prog.cellsOf 26=1 from by kernel_rfl] at q7
   simp at q7
   obtain ⟨v7Y,v7c,v7l,e7,w7a,w7b,w7c,w7d⟩:=ints_trod q7
   subst e7
   simp only [List.getElem_toArray,List.getElem_cons_zero,List.getElem_cons_succ] at q8
   rw [show Try.prog.cellsOf 26=1 from by kernel_rfl] at q8
   simp at q8
   obtain ⟨v8Y,v8c,v8l,e8,w8a,w8b,w8c,w8d⟩:=ints_trod q8
   subst e8
   exact ⟨v00x,v00y,v00z,v01,v02,v03,v04,v05Y,v05c,v05l,v1,v2,v3Y,v3c,v3l,v4Y,v4c,v4l,v5Y,v5c,v5l,v6Y,v6c,v6l,v7Y,v7c,v7l,v8Y,v8c,v8l,rfl,w0_0,w0_1,w0_2,w0_3,w0_4,w0_5,w0_6,w0_7,w0_8,w0_9,w0_10,w1,w2,w3a,w3b,w3c,w3d,w4a,w4b,w4c,w4d,w5a,w5b,w5c,w5d,w6a,w6b,w6c,w6d,w7a,w7b,w7c,w7d,w8a,w8b,w8c,w8d⟩
theorem el_state2 {H:Type} {enc:TypeId × Value→H} {W:World} {held:Bool} {fuel:Nat} {cs:List Value} {x:DataW H × List MemPlace} (hlen:cs.length=16) (h:DataW.trod enc Try.prog W 0 (fun _=>true) held fuel 49 cs=some x):∃ s x,cs=sL s x∧StAt W s x∧SWf s∧RTopS s:=by
 obtain ⟨v00x,v00y,v00z,v01,v02,v03,v04,v05Y,v05c,v05l,v1,v2,v3Y,v3c,v3l,v4Y,v4c,v4l,v5Y,v5c,v5l,v6Y,v6c,v6l,v7Y,v7c,v7l,v8Y,v8c,v8l,rfl,w0,w1,w2,w3,w4,w5,w6,w7,w8,w9,w10,w11,w12,w13,w14,w15,w16,w17,w18,w19,w20,w21,w22,w23,w24,w25,w26,w27,w28,w29,w30,w31,w32,w33,w34,w35,w36⟩:=trod_State2 hlen h
 exact ⟨⟨v00x,v00y,v00z,v01,v02,v03,v04,v05l,v1,v2,v3l,v4l,v5l,v6l,v7l,v8l⟩,⟨v05Y,v05c,v3Y,v3c,v4Y,v4c,v5Y,v5c,v6Y,v6c,v7Y,v7c,v8Y,v8c⟩,rfl,⟨w9,w15,w19,w23,w27,w31,w35,w7,w13,w17,w21,w25,w29,w33⟩,⟨⟨w0,w1,w2,w3,w4,w5,w6,w11,w12⟩,w10,(fun n hn=>(w16 n hn).1),w20,w24,w28,w32,w36⟩,⟨Nat.le_trans w7 w8,Nat.le_trans w13 w14,Nat.le_trans w17 w18,Nat.le_trans w21 w22,Nat.le_trans w25 w26,Nat.le_trans w29 w30,Nat.le_trans w33 w34,(fun j hj=>(w16 j hj).2)⟩⟩
theorem sub_small {H:Type} {P:Program} {t:TypeId} {fs:Array Field} (ht:P.underlying t=some (.struct fs)) {parts:List (DataW H)} (h:∀ n ∈ (DataW.agg parts).weights P t,n≤reachBytes) {j:Nat} {f:Field} (hf:fs[j]? = some f) {d:DataW H} (hd:parts[j]? = some d):∀ n ∈ d.weights P f.type,n≤reachBytes:=fun n hn=>h n (by
 simp only [DataW.weights,ht]
 exact DataW.weights_mem_each (by rw [List.getElem?_map,Array.getElem?_toList,hf];rfl) hd n hn)
theorem job_small {H:Type} {enc:TypeId × Value→H} {W:World} {held:Bool} {fuel:Nat} {cs:List Value} {x:DataW H × List MemPlace} (h:DataW.trod enc Try.prog W 0 (fun _=>true) held fuel 28 cs=some x) (hs:∀ n ∈ x.1.weights Try.prog 28,n≤reachBytes) {Y:Option Addr} {n c:Nat} (hc:(cs.drop 13).take 1=[.slice Y n c]):n*8≤reachBytes:=by
 obtain ⟨xs,m,_,rfl,_,hl,hg⟩:=DataW.trod_struct Try.underlying28 h
 have q7:=hg 7 _ rfl
 match xs,hl with
 | [z0,z1,z2,z3,z4,z5,z6,z7,z8,z9],_ =>
  have hs7:=sub_small Try.underlying28 hs (j:=7) rfl (d:=z7.1) rfl
  simp only [List.getElem_toArray,List.getElem_cons_zero,List.getElem_cons_succ] at q7 hs7
  rw [show Try.prog.cellsOf 26=1 from by kernel_rfl,hc] at q7
  have q:DataW.trod enc Try.prog W 0 (fun _=>true) held m 26 [.slice Y n c]=some z7:=q7
  rcases open_ints Try.underlying26 Try.underlying3 (by kernel_rfl) q with ⟨e,_⟩ | ⟨a,len,cap,zs,e,_,hlc,_,hz,e2,_⟩
  ·simp at e;omega
  ·simp at e
   obtain ⟨_,rfl,_⟩:=e
   have hz2:zs.length=cap:=by simpa using hz
   have:=hs7 ((zs.take n).length*8+(zs.drop n).length*8) (by
    rw [e2]
    show _ ∈ DataW.weights Try.prog 26 _
    simp only [DataW.weights,Try.underlying26,show Try.prog.bytesOf 3=8 from by kernel_rfl]
    simp [lits,Nat.add_mul])
   have hzt:(zs.take n).length=n:=by simp;omega
   omega
theorem cmd_small {H:Type} {enc:TypeId × Value→H} {W:World} {held:Bool} {fuel:Nat} {x:DataW H × List MemPlace} {k:CV} {Y:Option Addr} {cy:Nat} (h:DataW.trod enc Try.prog W 0 (fun _=>true) held fuel 34 (cL k Y cy)=some x) (hs:∀ n ∈ x.1.weights Try.prog 34,n≤reachBytes):k.af.length*8≤reachBytes:=by
 obtain ⟨xs,m,_,rfl,_,hl,hg⟩:=DataW.trod_struct Try.underlying34 h
 have q1:=hg 1 _ rfl
 match xs,hl with
 | [z0,z1,z2,z3,z4,z5,z6],_ =>
  have hs1:=sub_small Try.underlying34 hs (j:=1) rfl (d:=z1.1) rfl
  simp only [List.getElem_toArray,List.getElem_cons_zero,List.getElem_cons_succ] at q1 hs1
  rw [show Try.prog.cellsOf 28=16 from by kernel_rfl] at q1
  exact job_small q1 hs1 (Y:=Y) (c:=cy) rfl
theorem rec_small {H:Type} {enc:TypeId × Value→H} {W:World} {held:Bool} {fuel:Nat} {x:DataW H × List MemPlace} {r:RV} {y:SA} {Y:Option Addr} {cy:Nat} (h:DataW.trod enc Try.prog W 0 (fun _=>true) held fuel 51 (rL r y Y cy)=some x) (hs:∀ n ∈ x.1.weights Try.prog 51,n≤reachBytes):r.c.af.length≤17592186044416:=by
 obtain ⟨xs,m,_,rfl,_,hl,hg⟩:=DataW.trod_struct Try.underlying51 h
 have q2:=hg 2 _ rfl
 match xs,hl with
 | [z0,z1,z2],_ =>
  have hs2:=sub_small Try.underlying51 hs (j:=2) rfl (d:=z2.1) rfl
  simp only [List.getElem_toArray,List.getElem_cons_zero,List.getElem_cons_succ] at q2 hs2
  rw [show Try.prog.cellsOf 34=28 from by kernel_rfl] at q2
  have:=cmd_small (k:=r.c) (Y:=Y) (cy:=cy) q2 hs2
  simp only [reachBytes] at this
  omega
theorem el_record2 {H:Type} {enc:TypeId × Value→H} {W:World} {held:Bool} {fuel:Nat} {cs:List Value} {x:DataW H × List MemPlace} (hlen:cs.length=45) (h:DataW.trod enc Try.prog W 0 (fun _=>true) held fuel 51 cs=some x) (hs:∀ n ∈ x.1.weights Try.prog 51,n≤reachBytes):∃ r y Y cy,cs=rL r y Y cy∧RFacts r∧RIs W r y Y cy:=by
 obtain ⟨xs,n,_,hx,_,hl,hg⟩:=DataW.trod_struct Try.underlying51 h
 have q0:=hg 0 _ rfl
 have q1:=hg 1 _ rfl
 have q2:=hg 2 _ rfl
 match xs,hl with
 | [z0,z1,z2],_ =>
  simp only [List.getElem_toArray,List.getElem_cons_zero,List.getElem_cons_succ] at q0 q1 q2
  rw [show Try.prog.cellsOf 3=1 from by kernel_rfl] at q0
  rw [show Try.prog.cellsOf 49=16 from by kernel_rfl] at q1
  rw [show Try.prog.cellsOf 34=28 from by kernel_rfl] at q2
  obtain ⟨c0,rest,rfl⟩:∃ c0 rest,cs=c0 :: rest:=by
   cases cs with
   | nil=>simp at hlen
   | cons a l=>exact ⟨a,l,rfl⟩
  have hr:rest.length=44:=by simpa using hlen
  have p0:DataW.trod enc Try.prog W 0 (fun _=>true) held n 3 [c0]=some z0:=q0
  obtain ⟨v,e,_,wv⟩:=DataW.trod_int Try.underlying3 p0
  simp at e
  subst e
  have p1:DataW.trod enc Try.prog W 0 (fun _=>true) held n 49 (rest.take 16)=some z1:=q1
  have p2:DataW.trod enc Try.prog W 0 (fun _=>true) held n 34 ((rest.drop 16).take 28)=some z2:=q2
  obtain ⟨s,y,e1,h1,h2,h5⟩:=el_state2 (by rw [List.length_take,hr];rfl) p1
  obtain ⟨c,Y,cy,e2,g1,g2,g3,g4,_⟩:=el_cmd (by rw [List.length_take,List.length_drop,hr];rfl) p2
  have e:rest=sL s y ++ cL c Y cy:=by
   rw [List.take_of_length_le (show (rest.drop 16).length≤28 by rw [List.length_drop,hr];omega)] at e2
   rw [← e1,← e2]
   exact (List.take_append_drop 16 rest).symm
  subst e
  exact ⟨⟨v,s,c⟩,y,Y,cy,rfl,⟨h2,g4,wv,⟨h5.C,h5.J,h5.P,h5.K,h5.D,h5.S,h5.U,h5.A,Nat.le_trans g1 g2⟩,rec_small (r:=⟨v,s,c⟩) (y:=y) (Y:=Y) (cy:=cy) h hs⟩,⟨h1,g3,g1⟩⟩
theorem open_rec2 {H:Type} {enc:TypeId × Value→H} {W:World} {r:Reach} {b0:Nat} {v:Value} {d:DataW H} {p:List MemPlace} {held:Bool}
    (hv:Value.okWide Try.prog W r b0 51 v) (h:DataW.Trod enc Try.prog W 0 (fun _=>true) held 51 v d p) (hs:∀ n ∈ d.weights Try.prog 51,n≤reachBytes) :
    ∃ (c:RV) (x:SA) (Y:Option Addr) (cy:Nat),v = .agg (rL c x Y cy).toArray∧RFacts c∧RIs W c x Y cy:=by
 obtain ⟨cs,rfl,hsz⟩:=okWide_struct Try.underlying51 hv
 obtain ⟨fuel,hf⟩:=h
 obtain ⟨c,x,Y,cy,e,hI⟩:=el_record2 (by simpa [Value.cells] using hsz.trans (by kernel_rfl)) hf hs
 refine ⟨c,x,Y,cy,?_,hI⟩
 have e2:cs.toList=rL c x Y cy:=by simpa only [Value.cells] using e
 rw [← e2]
theorem arg_small {H:Type} {P:Program} {ts:List TypeId} {ds:List (DataW H)} (h:(DataW.weightsEach P ts ds).all (·≤reachBytes)=true) {j:Nat} {t:TypeId} {d:DataW H} (ht:ts[j]? = some t) (hd:ds[j]? = some d):∀ n ∈ d.weights P t,n≤reachBytes:=fun n hn=>by
 have:=List.all_eq_true.1 h n (DataW.weights_mem_each ht hd n hn)
 simpa using this
end Go.Proofs.Ytfdldbfjeamlcaa.OpenRec2
