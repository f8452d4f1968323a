/- Several texts joined: A whole struct loaded out of the midst of a block, by an operation that may be guarded. No conditions but those named. -/
import Derived.Deep.MidRow
import Derived.Test.YtfdldbfjeamlcaaRows
import Derived.Below
import Derived.Laws.OwnMore
import Derived.Deep.AppendLies
import Derived.Deep.Draws
import Derived.Deep.OwnRows
import Derived.Laws.Rows
import Derived.Laws.AppendOwn
import Derived.Maps.AppendAt
import Derived.RegionTactic
import Derived.OwnWalk
import Derived.Calls
import Derived.Lib.Hide
import Derived.Laws.BytesString
import Derived.Laws.Cells
import Derived.Lib.BufferRead
import Derived.OneCell
import Derived.BigQuiet
import Derived.Deep.QuietTactic
import Derived.Deep.RegionLaw
import Derived.Lib.QuietBelow
import Derived.IntWalk
import Derived.WalkKit
import Derived.Laws.BitsAllLaws
import Derived.Lib.SliceRun
set_option linter.unusedVariables false
set_option linter.unusedSimpArgs false
namespace Go.Proofs.Ytfdldbfjeamlcaa.Sq
abbrev zzR:Array Value:=#[.int .i64 0,.int .i64 0,.int .i64 0,.int .i64 0,.int .i64 0,.int .i64 0,.int .i64 0,.int .i64 0,.slice none 0 0,.int .i64 0,.int .i64 0,.slice none 0 0,.slice none 0 0,.slice none 0 0,.slice none 0 0,.slice none 0 0,.slice none 0 0,.int .u8 0,.int .i64 0,.int .i64 0,.int .i64 0,.int .i64 0,.int .i64 0,.int .i64 0,.bool false,.bool false,.bool false,.bool false,.int .i64 0,.int .i64 0,.bool false,.slice none 0 0,.int .u8 0,.int .i64 0,.int .i64 0,.int .i64 0,.int .i64 0,.int .i64 0,.int .i64 0,.int .i64 0,.int .i64 0,.int .i64 0,.int .i64 0,.int .i64 0,.bool false]
abbrev zzC:Array Value:=#[.int .u8 0,.int .i64 0,.int .i64 0,.int .i64 0,.int .i64 0,.int .i64 0,.int .i64 0,.bool false,.bool false,.bool false,.bool false,.int .i64 0,.int .i64 0,.bool false,.slice none 0 0,.int .u8 0,.int .i64 0,.int .i64 0,.int .i64 0,.int .i64 0,.int .i64 0,.int .i64 0,.int .i64 0,.int .i64 0,.int .i64 0,.int .i64 0,.int .i64 0,.bool false]
abbrev zzS:Array Value:=#[.int .i64 0,.int .i64 0,.int .i64 0,.int .i64 0,.int .i64 0,.int .i64 0,.int .i64 0,.slice none 0 0,.int .i64 0,.int .i64 0,.slice none 0 0,.slice none 0 0,.slice none 0 0,.slice none 0 0,.slice none 0 0,.slice none 0 0]
abbrev zzJ:Array Value:=#[.int .i64 0,.int .i64 0,.int .i64 0,.int .i64 0,.int .i64 0,.int .i64 0,.bool false,.bool false,.bool false,.bool false,.int .i64 0,.int .i64 0,.bool false,.slice none 0 0,.int .u8 0,.int .i64 0]
abbrev zzP:Array Value:=#[.int .i64 0,.int .i64 0,.int .i64 0,.int .i64 0,.int .i64 0,.int .i64 0,.int .i64 0,.bool false,.bool false,.bool false,.int .u8 0,.int .i64 0,.int .i64 0]
abbrev zzE:Array Value:=#[.int .i64 0,.int .i64 0,.int .i64 0,.int .i64 0,.int .i64 0,.int .i64 0,.int .i64 0,.int .i64 0,.int .i64 0]
abbrev zzG:Array Value:=#[.int .i64 0,.int .i64 0,.int .i64 0,.int .i64 0,.int .i64 0,.int .i64 0,.int .i64 0,.slice none 0 0]
end Go.Proofs.Ytfdldbfjeamlcaa.Sq
namespace Go.Proofs.Ytfdldbfjeamlcaa.RecGuard
open Go
theorem wpList_load_mid_g {P:Program} {ops:Array Oper} {rest:List Oper} {op:Oper} {a:Act} {w:World} {Q:Exit→Act→World→Prop} (hw:Region.wanted op (yielded ops a.tmps)=true) (ty:TypeId) (x:Operand) (ho:op.op = .load ty x)
    (b o:Nat) (hx:a.eval x = .pointer (some ⟨b,o,none⟩)) (cs:List Value) (d:TypeDesc) (hc:w.rangeAt b o cs)
    (hu:P.underlying ty=some d) (hd:d.isRow=true) (hi:(P.info? ty).map (·.size)=some cs.length)
    (h:wpList P ops Q rest (a.put op.dst (.agg cs.toArray)) w):wpList P ops Q (op :: rest) a w:=
 wpList_step fun K hK=>by
  rw [if_pos hw]
  exact wp_load_mid ty x ho b o hx cs d hc hu hd hi (hK _ _ h)
end Go.Proofs.Ytfdldbfjeamlcaa.RecGuard
namespace Go.Proofs.Ytfdldbfjeamlcaa.Mem
open Go.RowKit
theorem block_of_add (a:Addr) (n:Nat):(a.add n).block=a.block:=by unfold Addr.add;split <;> rfl
theorem add_of_add (a:Addr) (i j:Nat):(a.add i).add j=a.add (i+j):=by
 unfold Addr.add
 by_cases hi:i=0 <;> by_cases hj:j=0 <;> simp [hi,hj,Nat.add_assoc]
def Reads (w:World) (B size:Nat) (A:Option Addr) (n:Nat) (xs:List Value):Prop:=
 xs.length=n*size∧(0 < n→∃ ad,A=some ad∧ad.block < B∧∀ j u,xs[j]? = some u→w.cell? (ad.add j)=some u)
section
variable {w w':World} {B B' size n:Nat} {A:Option Addr} {xs:List Value}
theorem Reads.none_:Reads w B size A 0 []:=⟨by simp,fun h=>absurd h (by omega)⟩
theorem Reads.at_ {k:Nat} (h:Reads w B 1 A n xs) (hk:k < n):∃ ad u,A=some ad∧ad.block < B∧xs[k]? = some u∧w.cell? (ad.add k)=some u:=by
 obtain ⟨ad,e,hb,hc⟩:=h.2 (by omega)
 have hl:k < xs.length:=by have:=h.1;omega
 exact ⟨ad,xs[k],e,hb,List.getElem?_eq_getElem hl,hc k _ (List.getElem?_eq_getElem hl)⟩
theorem Reads.keep (h:Reads w B size A n xs) (hk:∀ p:Addr,p.block < B→w'.cell? p=w.cell? p):Reads w' B size A n xs:=
 ⟨h.1,fun hn=>by
  obtain ⟨ad,e,hb,hc⟩:=h.2 hn
  exact ⟨ad,e,hb,fun j u hu=>(hk _ (by rw [block_of_add];exact hb)).trans (hc j u hu)⟩⟩
theorem Reads.more (h:Reads w B size A n xs) (hB:B≤B'):Reads w B' size A n xs:=
 ⟨h.1,fun hn=>by
  obtain ⟨ad,e,hb,hc⟩:=h.2 hn
  exact ⟨ad,e,by omega,hc⟩⟩
theorem Reads.below (h:Reads w B size A n xs) (hb:Below B w w'):Reads w' B size A n xs:=h.keep fun _ hp=>hb.cell hp
theorem Reads.drew (h:Reads w B size A n xs):Reads w.drew B size A n xs:=h
theorem Reads.drewN (h:Reads w B size A n xs) (k:Nat):Reads (w.drewN k) B size A n xs:=h
theorem Reads.alloc (h:Reads w B size A n xs) (hB:B≤w.heap.size) (o:Obj):Reads (w.alloc o) B size A n xs:=h.keep fun p hp=>World.cell?_alloc_lt w o p (by omega)
theorem Reads.setCell (h:Reads w B size A n xs) {p:Addr} (hB:B≤p.block) (u:Value):Reads (w.setCell p u) B size A n xs:=
 h.keep fun q hq=>World.cell?_setCell_other w p q u (fun e=>by subst e;omega)
theorem Reads.grown (h:Reads w B size A n xs) {row:Option Nat} (hg:w.grownBy w' row) (hB:B≤w.heap.size) (hr:∀ g,row=some g→B≤g):Reads w' B size A n xs:=
 h.keep fun p hp=>World.cell?_of_block (hg.block p.block (by omega) (fun e=>by have:=hr _ e.symm;omega))
theorem Reads.of_own {base:Nat} {e:TypeId} {c:Nat} (h:w.ownsRow base e size (.slice A n c) n xs):Reads w w.heap.size size A n xs:=by
 refine ⟨h.1,fun hn=>?_⟩
 obtain ⟨g,cap,hv,_,hlt⟩:=h.form hn
 have hA:A=some ⟨g,0,none⟩:=by injection hv
 subst hA
 exact ⟨_,rfl,hlt,h.cells (g:=g) rfl⟩
end
def Blk (w:World) (g:Nat) (t:TypeId) (cs:Array Value):Prop:=w.heap[g]? = some (.cells cs t (0,0))
section
variable {w w':World} {g:Nat} {t:TypeId} {cs:Array Value}
theorem Blk.lt (h:Blk w g t cs):g < w.heap.size:=by
 rcases Nat.lt_or_ge g w.heap.size with hlt | hge
 ·exact hlt
 ·unfold Blk at h;rw [Array.getElem?_eq_none hge] at h;cases h
theorem Blk.cell (h:Blk w g t cs) (i:Nat):w.cell? ⟨g,i,none⟩=cs[i]?:=cell_of_row w g i cs t (0,0) h
theorem Blk.frozen (h:Blk w g t cs) (i:Nat):w.frozen? ⟨g,i,none⟩=false:=by
 unfold Blk at h
 simp [World.frozen?,h]
theorem Blk.new (w:World) (t:TypeId) (cs:Array Value):Blk (w.alloc (.cells cs t)) w.heap.size t cs:=heap_alloc_new w _
theorem Blk.drew (h:Blk w g t cs):Blk w.drew g t cs:=h
theorem Blk.drewN (h:Blk w g t cs) (n:Nat):Blk (w.drewN n) g t cs:=h
theorem Blk.alloc (h:Blk w g t cs) (o:Obj):Blk (w.alloc o) g t cs:=(Below.heap_alloc w o g h.lt).trans h
theorem Blk.set_ (h:Blk w g t cs) (i:Nat) (u:Value):Blk (w.setCell ⟨g,i,none⟩ u) g t (cs.setIfInBounds i u):=by
 unfold Blk at h ⊢
 simp [World.setCell,Array.getElem?_modify,h]
theorem Blk.far (h:Blk w g t cs) {p:Addr} (hp:g≠p.block) (u:Value):Blk (w.setCell p u) g t cs:=(Below.heap_setCell w p u g hp).trans h
theorem Blk.below {B:Nat} (h:Blk w g t cs) (hb:Below B w w') (hg:g < B):Blk w' g t cs:=(hb.block g hg).trans h
theorem Blk.grown {row:Option Nat} (h:Blk w g t cs) (hb:w.grownBy w' row) (hg:some g≠row):Blk w' g t cs:=(hb.block g h.lt hg).trans h
theorem Blk.ne_ {g':Nat} {t':TypeId} {cs':Array Value} (h:Blk w g t cs) (h':Blk w g' t' cs') (hne:t≠t'):g≠g':=by
 rintro rfl
 unfold Blk at h h'
 rw [h] at h'
 injection h' with h'
 injection h' with _ ht
 exact hne ht
theorem own_blk_ne {base:Nat} {e:TypeId} {size n:Nat} {v:Value} {xs:List Value} (h:w.ownsRow base e size v n xs) (hg:Blk w g t cs) (hne:e≠t):v.ownBlock≠some g:=by
 rcases h.2 with ⟨rfl,_⟩ | ⟨g',cap,cur,rfl,_,hh,_⟩
 ·simp [Value.ownBlock]
 ·intro he
  have:g' = g:=by simpa [Value.ownBlock] using he
  subst this
  exact Blk.ne_ (t:=e) hh hg hne rfl
end
section
variable {P:Program} (w:World)
theorem run_append_of_nil (base:Nat) (t ty e:TypeId) (i:TypeInfo) (size:Nat) (ht:P.underlying t=some (.slice e)) (hi:P.info? e=some i)
    (v:Value) (n:Nat) (xs:List Value) (hown:w.ownsRow base e size v n xs) (c:Nat):(Builtin.append_ #[t,t] ty #[v,.slice none 0 c]).run P w = .ok v w:=by
 rcases hown.2 with ⟨rfl,rfl⟩ | ⟨g,cap,cur,rfl,_,_,hnc,_⟩
 ·simp [Builtin.append_,run_underlying ht,sizeOf,typeInfo,hi,Builtin.lenOf,Builtin.firstCells]
 ·simp [Builtin.append_,run_underlying ht,sizeOf,typeInfo,hi,Builtin.lenOf,Builtin.firstCells,hnc,storeCells]
theorem run_append_any (base:Nat) (t ty e:TypeId) (i:TypeInfo) (z:Value) (size bytes:Nat) (ht:P.underlying t=some (.slice e)) (hi:P.info? e=some i) (hz:i.zero=some z)
    (hsize:i.size=size) (hby:i.bytes=bytes) (hzs:z.cells.size=size) (hsz:0 < size)
    (v:Value) (n:Nat) (xs:List Value) (hown:w.ownsRow base e size v n xs)
    (B:Nat) (A:Option Addr) (m c:Nat) (news:List Value) (hr:Reads w B size A m news) (h1:∀ u ∈ news,u.oneCell' = true)
    (h63:n+m≤maxLen) (hbytes:(n+m)*bytes≤140737488355328) (hbase:base≤w.heap.size) :
    ∃ v' w',(Builtin.append_ #[t,t] ty #[v,.slice A m c]).run P w = .ok v' w'∧w'.ownsRow base e size v' (n+m) (xs ++ news)∧w.grownBy w' v.ownBlock ∧
     (v'.ownBlock=v.ownBlock∨v'.ownBlock=some w.heap.size):=by
 rcases A with _ | ad
 ·have hm:m=0:=by
   rcases Nat.eq_zero_or_pos m with h0 | h0
   ·exact h0
   ·obtain ⟨ad,h,_⟩:=hr.2 h0
    cases h
  subst hm
  have hn:news=[]:=List.eq_nil_of_length_eq_zero (by simpa using hr.1)
  subst hn
  exact ⟨v,w,run_append_of_nil w base t ty e i size ht hi v n xs hown c,by simpa using hown,World.grownBy.refl w _,.inl rfl⟩
 ·have hcells:∀ j u,news[j]? = some u→w.cell? (ad.add j)=some u:=by
   intro j u hu
   rcases Nat.eq_zero_or_pos m with h0 | h0
   ·subst h0
    have hn:news=[]:=List.eq_nil_of_length_eq_zero (by simpa using hr.1)
    subst hn
    simp at hu
   ·obtain ⟨ad',h,_,hc⟩:=hr.2 h0
    injection h with h
    subst h
    exact hc j u hu
  obtain ⟨v',w',hrun,h2,h3,_,h5⟩:=run_append_own_at (P:=P) w base t ty e i z size bytes ht hi hz hsize hby hzs hsz v n xs hown ad m c news hr.1 hcells h1 h63 hbytes hbase
  exact ⟨v',w',hrun,h2,h3,h5⟩
theorem wp_append_any {o:Oper} {a:Act} {K:Act→World→Prop} {Q:Exit→Act→World→Prop} (s x:Operand) (t:TypeId)
    (ho:o.op = .call { callee:=.builtin .append,args:=#[s,x],argTypes:=#[t,t] })
    (base:Nat) (e:TypeId) (i:TypeInfo) (z:Value) (size bytes:Nat) (ht:P.underlying t=some (.slice e)) (hi:P.info? e=some i) (hz:i.zero=some z)
    (hsize:i.size=size) (hby:i.bytes=bytes) (hzs:z.cells.size=size) (hsz:0 < size)
    (v:Value) (n:Nat) (xs:List Value) (hs:a.eval s=v) (hown:w.ownsRow base e size v n xs)
    (B:Nat) (A:Option Addr) (m c:Nat) (news:List Value) (hx:a.eval x = .slice A m c) (hr:Reads w B size A m news) (h1:∀ u ∈ news,u.oneCell' = true)
    (h63:n+m≤maxLen) (hbytes:(n+m)*bytes≤140737488355328) (hbase:base≤w.heap.size)
    (h:∀ v' w',w'.ownsRow base e size v' (n+m) (xs ++ news)→w.grownBy w' v.ownBlock→(v'.ownBlock=v.ownBlock∨v'.ownBlock=some w.heap.size)→K (a.put o.dst v') w'):o.wp P a w K Q:=by
 obtain ⟨v',w',hrun,h2,h3,h4⟩:=run_append_any (P:=P) w base t o.type e i z size bytes ht hi hz hsize hby hzs hsz v n xs hown B A m c news hr h1 h63 hbytes hbase
 unfold Oper.wp execOp
 simp only [ho,resolve,invoke,builtin,Sem.run_bind,Sem.run_pure,Result.andThen_ok,List.map_toArray,List.map_cons,List.map_nil,hs,hx,hrun]
 exact h v' w' h2 h3 h4
theorem wpList_append_any {ops:Array Oper} {rest:List Oper} {o:Oper} {a:Act} {Q:Exit→Act→World→Prop} (hgd:o.guard=none) (s x:Operand) (t:TypeId)
    (ho:o.op = .call { callee:=.builtin .append,args:=#[s,x],argTypes:=#[t,t] })
    (base:Nat) (e:TypeId) (i:TypeInfo) (z:Value) (size bytes:Nat) (ht:P.underlying t=some (.slice e)) (hi:P.info? e=some i) (hz:i.zero=some z)
    (hsize:i.size=size) (hby:i.bytes=bytes) (hzs:z.cells.size=size) (hsz:0 < size)
    (v:Value) (n:Nat) (xs:List Value) (hs:a.eval s=v) (hown:w.ownsRow base e size v n xs)
    (B:Nat) (A:Option Addr) (m c:Nat) (news:List Value) (hx:a.eval x = .slice A m c) (hr:Reads w B size A m news) (h1:∀ u ∈ news,u.oneCell' = true)
    (h63:n+m≤maxLen) (hbytes:(n+m)*bytes≤140737488355328) (hbase:base≤w.heap.size)
    (h:∀ v' w',w'.ownsRow base e size v' (n+m) (xs ++ news)→w.grownBy w' v.ownBlock→(v'.ownBlock=v.ownBlock∨v'.ownBlock=some w.heap.size)→wpList P ops Q rest (a.put o.dst v') w'):wpList P ops Q (o :: rest) a w:=
 wpList_plain hgd fun _ hK=>wp_append_any w s x t ho base e i z size bytes ht hi hz hsize hby hzs hsz v n xs hs hown B A m c news hx hr h1 h63 hbytes hbase fun v' w' h2 h3 h4=>hK _ _ (h v' w' h2 h3 h4)
theorem step_append_any {ops:Array Oper} {o:Oper} {a:Act} {K:Act→World→Prop} {Q:Exit→Act→World→Prop} {E:Prop} (hgd:o.guard=none) (s x:Operand) (t:TypeId)
    (ho:o.op = .call { callee:=.builtin .append,args:=#[s,x],argTypes:=#[t,t] })
    (base:Nat) (e:TypeId) (i:TypeInfo) (z:Value) (size bytes:Nat) (ht:P.underlying t=some (.slice e)) (hi:P.info? e=some i) (hz:i.zero=some z)
    (hsize:i.size=size) (hby:i.bytes=bytes) (hzs:z.cells.size=size) (hsz:0 < size)
    (v:Value) (n:Nat) (xs:List Value) (hs:a.eval s=v) (hown:w.ownsRow base e size v n xs)
    (B:Nat) (A:Option Addr) (m c:Nat) (news:List Value) (hx:a.eval x = .slice A m c) (hr:Reads w B size A m news) (h1:∀ u ∈ news,u.oneCell' = true)
    (h63:n+m≤maxLen) (hbytes:(n+m)*bytes≤140737488355328) (hbase:base≤w.heap.size)
    (h:∀ v' w',w'.ownsRow base e size v' (n+m) (xs ++ news)→w.grownBy w' v.ownBlock→(v'.ownBlock=v.ownBlock∨v'.ownBlock=some w.heap.size)→K (a.put o.dst v') w') :
    if Region.wanted o (yielded ops a.tmps)=true then Oper.wp P o a w K Q else E:=by
 have hw:Region.wanted o (yielded ops a.tmps)=true:=by simp [Region.wanted,hgd]
 rw [if_pos hw]
 exact wp_append_any w s x t ho base e i z size bytes ht hi hz hsize hby hzs hsz v n xs hs hown B A m c news hx hr h1 h63 hbytes hbase h
end
theorem below_drewN {B:Nat} {a w:World} (h:Below B a w) (n:Nat):Below B a (w.drewN n):=⟨h.os,h.tape,h.output,h.size,h.block⟩
theorem add_flat (b o k:Nat):(⟨b,o,none⟩:Addr).add k=⟨b,o+k,none⟩:=by
 unfold Addr.add
 by_cases hk:k=0 <;> simp [hk]
theorem Reads.flat {w:World} {B n:Nat} {A:Option Addr} {xs:List Value} (h:Reads w B 1 A n xs) (hn:0 < n):∃ b o,A=some ⟨b,o,none⟩∧b < B∧∀ j u,xs[j]? = some u→w.cell? ⟨b,o+j,none⟩=some u:=by
 obtain ⟨⟨b,o,s⟩,rfl,hb,hc⟩:=h.2 hn
 have hl:0 < xs.length:=by have:=h.1;omega
 have h0:=hc 0 _ (List.getElem?_eq_getElem hl)
 have hs:s=none:=by simpa [Addr.add] using World.cell?_spot h0
 subst hs
 exact ⟨b,o,rfl,hb,fun j u hu=>by rw [← add_flat];exact hc j u hu⟩
def u8s (l:List Int):List Value:=l.map (Value.int .u8)
def Parts (w:World) (B:Nat) (A:Option Addr) (ps:List (List Int)):Prop:=
 ∃ vs:List Value,Reads w B 1 A ps.length vs∧∀ (i:Nat) (l:List Int),ps[i]? = some l→∃ (X:Option Addr) (c:Nat),vs[i]? = some (Value.slice X l.length c)∧Reads w B 1 X l.length (u8s l)
theorem Parts.keep {w w':World} {B:Nat} {A:Option Addr} {ps:List (List Int)} (h:Parts w B A ps) (hk:∀ p:Addr,p.block < B→w'.cell? p=w.cell? p):Parts w' B A ps:=by
 obtain ⟨vs,hr,hi⟩:=h
 exact ⟨vs,hr.keep hk,fun i l hl=>by obtain ⟨X,c,e,hx⟩:=hi i l hl;exact ⟨X,c,e,hx.keep hk⟩⟩
theorem Parts.below {w w':World} {B:Nat} {A:Option Addr} {ps:List (List Int)} (h:Parts w B A ps) (hb:Below B w w'):Parts w' B A ps:=h.keep fun _ hp=>hb.cell hp
theorem Parts.more {w:World} {B B':Nat} {A:Option Addr} {ps:List (List Int)} (h:Parts w B A ps) (hB:B≤B'):Parts w B' A ps:=by
 obtain ⟨vs,hr,hi⟩:=h
 exact ⟨vs,hr.more hB,fun i l hl=>by obtain ⟨X,c,e,hx⟩:=hi i l hl;exact ⟨X,c,e,hx.more hB⟩⟩
theorem Parts.at_ {w:World} {B:Nat} {A:Option Addr} {ps:List (List Int)} (h:Parts w B A ps) {i:Nat} {l:List Int} (hi:ps[i]? = some l) :
    ∃ ad X c,A=some ad∧ad.block < B∧w.cell? (ad.add i)=some (.slice X l.length c)∧Reads w B 1 X l.length (u8s l):=by
 obtain ⟨vs,hr,hv⟩:=h
 obtain ⟨X,c,e,hx⟩:=hv i l hi
 have hlt:i < ps.length:=(List.getElem?_eq_some_iff.1 hi).1
 obtain ⟨ad,u,rfl,hb,hu,hc⟩:=hr.at_ hlt
 rw [e] at hu
 cases hu
 exact ⟨ad,X,c,rfl,hb,hc,hx⟩
theorem cell_lt {w:World} {a:Addr} {v:Value} (h:w.cell? a=some v):a.block < w.heap.size:=by
 rcases Nat.lt_or_ge a.block w.heap.size with h1 | h1
 ·exact h1
 ·simp [World.cell?,Array.getElem?_eq_none h1] at h
theorem keep_cell {W W':World} {a:Addr} {v:Value} (h:W.cell? a=some v) (hB:Below W.heap.size W W'):W'.cell? a=some v:=(hB.cell (cell_lt h)).trans h
theorem cell_over {W:World} {a:Addr} {v:Value} (o:Obj) (h:W.cell? a=some v):(W.alloc o).cell? a=some v:=by
 rw [← h];exact World.cell?_alloc_lt W o a (cell_lt h)
theorem box0 (W:World) (t:TypeId) (cs:Array Value) (j:Nat):(W.alloc (.cells cs t)).cell? ⟨W.heap.size,j,none⟩=cs[j]?:=(Blk.new W t cs).cell j
theorem blk1 (W:World) (t:TypeId) (cs:Array Value) {o:Obj} : Blk ((W.alloc o).alloc (.cells cs t)) (W.heap.size+1) t cs:=by
 have h:=Blk.new (W.alloc o) t cs
 rwa [World.size_alloc] at h
theorem blk2 (W:World) (t:TypeId) (cs:Array Value) {o o':Obj} : Blk (((W.alloc o).alloc o').alloc (.cells cs t)) (W.heap.size+1+1) t cs:=by
 have h:=Blk.new ((W.alloc o).alloc o') t cs
 rwa [World.size_alloc,World.size_alloc] at h
theorem below_up {w W W':World} (h:Below w.heap.size w W) (h2:Below W.heap.size W W'):Below w.heap.size w W':=h.trans (h2.mono h.size)
theorem below_alloc {w W:World} {o:Obj} (h:Below w.heap.size w W):Below w.heap.size w (W.alloc o):=h.alloc h.size o
def Cells (W:World):List (Addr × Value)→Prop
 | []=>True
 | [p]=>W.cell? p.1=some p.2
 | p :: q :: l=>W.cell? p.1=some p.2∧Cells W (q :: l)
theorem Cells.imp {W W':World} (h:∀ a v,W.cell? a=some v→W'.cell? a=some v):∀ l,Cells W l→Cells W' l
 | [],_=>trivial
 | [p],k=>h _ _ k
 | p :: q :: l,k=>⟨h _ _ k.1,Cells.imp h (q :: l) k.2⟩
def KeptL (w:World) (fs:List (Addr × Value)) (W:World):Prop:=Below w.heap.size w W∧Cells W fs
theorem KeptL.drew {w W:World} {fs:List (Addr × Value)} (h:KeptL w fs W):KeptL w fs W.drew:=⟨h.1.drew,Cells.imp (W:=W) (W':=W.drew) (fun _ _ k=>k) fs h.2⟩
theorem KeptL.alloc {w W:World} {fs:List (Addr × Value)} (h:KeptL w fs W) (o:Obj):KeptL w fs (W.alloc o):=⟨below_alloc h.1,Cells.imp (fun _ _ k=>cell_over o k) fs h.2⟩
theorem KeptL.up {w W W':World} {fs:List (Addr × Value)} (h:KeptL w fs W) (hB:Below W.heap.size W W'):KeptL w fs W':=⟨below_up h.1 hB,Cells.imp (fun _ _ k=>keep_cell k hB) fs h.2⟩
end Go.Proofs.Ytfdldbfjeamlcaa.Mem
namespace Go.Proofs.Ytfdldbfjeamlcaa.RecMem
open Go.RowKit Mem
abbrev PT:TypeId:=99
def PW (w:World) (gp:Nat) (v:Value) (t:List Int) (od:Bool):Prop:=
 Blk w gp PT #[v,.bool false,.bool od]∧w.ownsRow 0 5 1 v t.length (t.map (Value.int .u8))∧v.ownBlock≠some gp
structure Fr (gp:Nat) (v:Value) (w:World) (v':Value) (w':World):Prop where
 os:w'.os=w.os
 tape:w'.tape=w.tape
 output:w'.output=w.output
 size:w.heap.size≤w'.heap.size
 block:∀ k,k < w.heap.size→k≠gp→v.ownBlock≠some k→w'.heap[k]? = w.heap[k]?
 row:v'.ownBlock=v.ownBlock∨∀ b,v'.ownBlock=some b→w.heap.size≤b
theorem Fr.refl (gp:Nat) (v:Value) (w:World):Fr gp v w v w:=⟨rfl,rfl,rfl,Nat.le_refl _,fun _ _ _ _=>rfl,.inl rfl⟩
theorem Fr.trans {gp:Nat} {v v1 v2:Value} {w w1 w2:World} (h:Fr gp v w v1 w1) (k:Fr gp v1 w1 v2 w2):Fr gp v w v2 w2:=
 ⟨k.os.trans h.os,k.tape.trans h.tape,k.output.trans h.output,Nat.le_trans h.size k.size,fun i hi hg hv=>by
  have hv1:v1.ownBlock≠some i:=fun e=>by
   rcases h.row with h2 | h2
   ·exact hv (h2 ▸ e)
   ·have:=h2 i e;omega
  exact (k.block i (Nat.lt_of_lt_of_le hi h.size) hg hv1).trans (h.block i hi hg hv),
 by
  rcases k.row with h2 | h2
  ·rcases h.row with h1 | h1
   ·exact .inl (h2.trans h1)
   ·exact .inr fun b e=>h1 b (h2 ▸ e)
  ·exact .inr fun b e=>Nat.le_trans h.size (h2 b e)⟩
def Far (gp:Nat) (v:Value) (w:World) (k:Nat):Prop:=k < w.heap.size∧k≠gp∧v.ownBlock≠some k
theorem Fr.far {gp k:Nat} {v v':Value} {w w':World} (h:Fr gp v w v' w') (hf:Far gp v w k):Far gp v' w' k:=
 ⟨Nat.lt_of_lt_of_le hf.1 h.size,hf.2.1,fun e=>by
  rcases h.row with h2 | h2
  ·exact hf.2.2 (h2 ▸ e)
  ·have:=h2 k e;have:=hf.1;omega⟩
theorem Fr.same {gp k:Nat} {v v':Value} {w w':World} (h:Fr gp v w v' w') (hf:Far gp v w k):w'.heap[k]? = w.heap[k]?:=h.block k hf.1 hf.2.1 hf.2.2
theorem Fr.cell {gp:Nat} {v v' u:Value} {w w':World} {a:Addr} (h:Fr gp v w v' w') (hf:Far gp v w a.block) (hc:w.cell? a=some u):w'.cell? a=some u:=by
 rw [World.cell?_of_block (h.same hf)];exact hc
theorem Fr.frozen {gp:Nat} {v v':Value} {w w':World} {a:Addr} (h:Fr gp v w v' w') (hf:Far gp v w a.block) (hc:w.frozen? a=false):w'.frozen? a=false:=by
 unfold World.frozen? at hc ⊢
 rw [h.same hf];exact hc
theorem Fr.blk {gp g:Nat} {v v':Value} {w w':World} {t:TypeId} {cs:Array Value} (h:Fr gp v w v' w') (hf:Far gp v w g) (hc:Blk w g t cs):Blk w' g t cs:=(h.same hf).trans hc
theorem Fr.alloc {gp:Nat} {v v':Value} {w w':World} (h:Fr gp v w v' w') (o:Obj):Fr gp v w v' (w'.alloc o):=
 ⟨h.os,h.tape,h.output,by have:=h.size;simp;omega,fun k hk hg hv=>by
  have:=h.size
  rw [Below.heap_alloc w' o k (by omega)]
  exact h.block k hk hg hv,h.row⟩
theorem Fr.drew {gp:Nat} {v v':Value} {w w':World} (h:Fr gp v w v' w'):Fr gp v w v' w'.drew:=⟨h.os,h.tape,h.output,h.size,h.block,h.row⟩
theorem Fr.set_ {gp:Nat} {v v':Value} {w w':World} (h:Fr gp v w v' w') {p:Addr} (hp:p.block=gp∨w.heap.size≤p.block) (u:Value):Fr gp v w v' (w'.setCell p u):=
 ⟨h.os,h.tape,h.output,by have:=h.size;simpa using this,fun k hk hg hv=>by
  rw [Below.heap_setCell w' p u k (by rcases hp with e | e <;> omega)]
  exact h.block k hk hg hv,h.row⟩
theorem Fr.below {gp B:Nat} {v v':Value} {w w':World} (h:Fr gp v w v' w') (hg:B≤gp) (hv:∀ b,v.ownBlock=some b→B≤b) (hB:B≤w.heap.size):Below B w w':=
 ⟨h.os,h.tape,h.output,h.size,fun k hk=>h.block k (by omega) (by omega) (fun e=>by have:=hv k e;omega)⟩
theorem Far.alloc {gp k:Nat} {v:Value} {w:World} (h:Far gp v w k) (o:Obj):Far gp v (w.alloc o) k:=⟨by have:=h.1;simp;omega,h.2⟩
theorem PW.lt {w:World} {gp:Nat} {v:Value} {t:List Int} {od:Bool} (h:PW w gp v t od):gp < w.heap.size:=h.1.lt
theorem PW.new {w:World} {gp:Nat} {v:Value} {t:List Int} {od:Bool} (h:PW w gp v t od) (o:Obj):Far gp v (w.alloc o) w.heap.size:=
 ⟨by simp,by have:=h.lt;omega,fun e=>by have:=(h.2.1.lt _ e).2;omega⟩
theorem PW.alloc {w:World} {gp:Nat} {v:Value} {t:List Int} {od:Bool} (h:PW w gp v t od) (o:Obj):PW (w.alloc o) gp v t od:=⟨h.1.alloc o,h.2.1.alloc o,h.2.2⟩
theorem PW.far {w:World} {gp:Nat} {v:Value} {t:List Int} {od:Bool} (h:PW w gp v t od) {p:Addr} (hp:Far gp v w p.block) (u:Value):PW (w.setCell p u) gp v t od:=
 ⟨h.1.far hp.2.1.symm u,Go.ownsRow_setCell_other h.2.1 hp.2.2 u,h.2.2⟩
theorem Fr.grown {gp:Nat} {v v2:Value} {w w1 w2:World} (h:Fr gp v w v w1) (hg:w1.grownBy w2 v.ownBlock) (hat:v2.ownBlock=v.ownBlock∨v2.ownBlock=some w1.heap.size):Fr gp v w v2 w2:=
 ⟨hg.os.trans h.os,hg.tape.trans h.tape,hg.output.trans h.output,Nat.le_trans h.size hg.size,fun k hk hkg hv=>(hg.block k (Nat.lt_of_lt_of_le hk h.size) (fun e=>hv e.symm)).trans (h.block k hk hkg hv),by
  rcases hat with e | e
  ·exact .inl e
  ·exact .inr fun b hb=>by rw [e] at hb;cases hb;exact h.size⟩
theorem setCell_self {w:World} {g i:Nat} {u:Value} (h:w.cell? ⟨g,i,none⟩=some u):w.setCell ⟨g,i,none⟩ u=w:=by
 have e:(w.setCell ⟨g,i,none⟩ u).heap=w.heap:=by
  apply Array.ext_getElem?
  intro k
  unfold World.setCell
  simp only
  rw [Array.getElem?_modify]
  split
  ·rename_i hk
   subst hk
   unfold World.cell? at h
   simp only at h
   cases hb:w.heap[g]? with
   | none=>rfl
   | some o =>
    rw [hb] at h
    cases o with
    | cells cs t fz =>
     simp only [Option.map_some,Option.isSome_none,Bool.false_eq_true,if_false]
     simp at h
     have e2:cs.setIfInBounds i u=cs:=by
      apply Array.ext_getElem?
      intro j
      rw [Array.getElem?_setIfInBounds]
      split
      ·rename_i hj
       subst hj
       split
       ·exact h.symm
       ·rename_i hn
        rw [Array.getElem?_eq_none (by omega)] at h
        cases h
      ·rfl
     rw [e2]
    | _=>rfl
  ·rfl
 calc w.setCell ⟨g,i,none⟩ u = { w with heap:=(w.setCell ⟨g,i,none⟩ u).heap }:=rfl
  _=w:=by rw [e]
end Go.Proofs.Ytfdldbfjeamlcaa.RecMem
namespace Go.Proofs.Ytfdldbfjeamlcaa.RecByte
set_option maxRecDepth 100000
set_option maxHeartbeats 4000000
open Go.RowKit Mem RecMem
theorem byte_info:(Try.prog.info? 5).map (fun i=>(i.zero,i.size,i.bytes))=some (some (.int .u8 0),1,1):=by kernel_rfl
theorem reads_one (w:World) (t:TypeId) (u:Value):Reads (w.alloc (.cells #[u] t)) (w.heap.size+1) 1 (some ⟨w.heap.size,0,none⟩) 1 [u]:=
 ⟨rfl,fun _=>⟨_,rfl,by simp,fun j q hq=>by
  match j with
  | 0=>rw [add_flat];exact ((Blk.new w t #[u]).cell 0).trans hq
  | j+1=>simp at hq⟩⟩
theorem own_slice {w:World} {B n:Nat} {v:Value} {xs:List Value} (h:w.ownsRow B 5 1 v n xs):∃ Y c,v = .slice Y n c:=by
 rcases h.2 with ⟨rfl,e0⟩ | ⟨g,cap',cur,rfl,_⟩
 ·exact ⟨none,0,by rw [e0]⟩
 ·exact ⟨_,cap',rfl⟩
theorem wbyte (gp:Nat) (v:Value) (t:List Int) (od:Bool) (b o:Nat) (x:Int) (hl:t.length≤1000000000) (w:World) (hP:PW w gp v t od) (ha:w.cell? ⟨b,o,none⟩=some (.int .u8 x)) :
    Calls Try.prog 102 #[.pointer (some ⟨gp,0,none⟩),.pointer (some ⟨b,o,none⟩)] w fun e w' => (∃ r,e = .returned r)∧∃ v',PW w' gp v' (t ++ [x]) od∧Fr gp v w v' w':=by
 obtain ⟨i0,hi0,hz0,hz1,hz2⟩:=info_parts byte_info
 have HI:=Lib.hid (And.intro hi0 (And.intro hz0 (And.intro hz1 hz2)))
 have p0:w.cell? ⟨gp,0,none⟩=some v:=hP.1.cell 0
 have p1:w.cell? ⟨gp,1,none⟩=some (.bool false):=hP.1.cell 1
 have f0:=hP.1.frozen 0
 have hgs:gp < w.heap.size:=hP.lt
 have hbs:b < w.heap.size:=cell_lt ha
 have HP:=Lib.hid hP
 clear hP hi0 hz0 hz1 hz2
 go_enter Try.func102,Try.ntmps102
 go_wp2_with fail
 go_region_law (refine step_append_any _ rfl (.tmp 13) (.tmp 17) _ rfl 0 5 i0 (.int .u8 0) 1 1 Try.underlying37 HI.out.1 HI.out.2.1 HI.out.2.2.1 HI.out.2.2.2 rfl (by decide) v t.length (t.map (Value.int .u8)) (by simp [Act.eval,Act.put]) ((HP.out.2.1.drew).alloc (.cells #[.int .u8 x] 5)) (w.heap.size+1) (some ⟨w.heap.size,0,none⟩) 1 1 [.int .u8 x] (by simp [Act.eval,Act.put]) (Reads.drew (reads_one w 5 (.int .u8 x))) (fun u hu=>by simp at hu;subst hu;rfl) (by simp only [maxLen];omega) (by omega) (Nat.zero_le _) ?_;intro v2 w2 hown hg hat;obtain ⟨X2,c2,rfl⟩:=own_slice hown;have hK2:=((HP.out.1.drew).alloc (.cells #[.int .u8 x] 5)).grown hg (fun e=>HP.out.2.2 e.symm);have q0:w2.cell? ⟨gp,0,none⟩=some v:=hK2.cell 0;have g0:=hK2.frozen 0;have H2:=Lib.hid (And.intro hown (And.intro hg (And.intro hat hK2)));clear hown hg hat hK2)
 all_goals
  go_wp2_with fail
  refine bodyPost_ret (results_none rfl _ _ _) rfl ?_
  have hne:(Value.slice X2 (t.length+1) c2).ownBlock≠some gp:=fun e=>by
   rcases H2.out.2.2.1 with h | h
   ·exact HP.out.2.2 (h ▸ e)
   ·rw [e] at h;simp at h;omega
  have e1:(t ++ [x]).length=t.length+1:=by simp
  refine ⟨⟨_,rfl⟩,.slice X2 (t.length+1) c2,⟨(H2.out.2.2.2.set_ 0 _),?_,hne⟩,?_⟩
  ·rw [e1,List.map_append]
   exact Go.ownsRow_setCell_other H2.out.1 (a:=⟨gp,0,none⟩) hne _
  ·exact (((Fr.refl gp v w).drew.alloc (.cells #[.int .u8 x] 5)).grown H2.out.2.1 H2.out.2.2.1).set_ (.inl rfl) _
end Go.Proofs.Ytfdldbfjeamlcaa.RecByte
namespace Go.Proofs.Ytfdldbfjeamlcaa.RecNum
set_option maxRecDepth 100000
set_option maxHeartbeats 4000000
open Go.RowKit Mem RecMem RecByte
def byteAt (R:Int) (k:Nat):Int:=R / 256 ^ k % 256
def numB (R:Int):List Int:=(List.range 8).map (byteAt R)
theorem i64_in {x:Int} (h:(Lit.int .i64 x).wf=true):-9223372036854775808≤x∧x≤9223372036854775807:=by simpa [Lit.wf,IntKind.min,IntKind.max,IntKind.signed,IntKind.bits] using h
theorem numB_len (R:Int):(numB R).length=8:=by simp [numB]
theorem wnum (gp:Nat) (v:Value) (t:List Int) (od:Bool) (b o:Nat) (n:Int) (hn:(Lit.int .i64 n).wf=true) (hl:t.length≤900000000) (w:World) (hP:PW w gp v t od) (ha:w.cell? ⟨b,o,none⟩=some (.int .i64 n)) (hfz:w.frozen? ⟨b,o,none⟩=false) (hF:Far gp v w b) :
    Calls Try.prog 74 #[.pointer (some ⟨gp,0,none⟩),.pointer (some ⟨b,o,none⟩)] w fun e w' => (∃ r,e = .returned r)∧∃ v',PW w' gp v' (t ++ numB (IntKind.u64.wrap n)) od∧Fr gp v w v' w':=by
 have HP:=Lib.hid (And.intro hP (And.intro ha (And.intro hfz hF)))
 have hbs:b < w.heap.size:=cell_lt ha
 clear hP hfz hF
 have hi:=i64_in hn
 have hR0:0≤IntKind.u64.wrap n:=by rw [IntKind.wrap_u64];omega
 have hR1:IntKind.u64.wrap n < 18446744073709551616:=by rw [IntKind.wrap_u64];omega
 have hR2:wrap64 (IntKind.u64.wrap n % 18446744073709551616)=n:=by
  rw [IntKind.wrap_u64]
  unfold wrap64
  omega
 have HR2:=Lib.hid hR2
 clear hR2
 generalize hR:IntKind.u64.wrap n=R at *
 go_enter Try.func74,Try.ntmps74
 go_wp2_with fail
 go_loopw [5,6,7,12] (fun out _ _ i wr=>∃ (k:Nat) (v':Value),k≤8∧i = .int .i64 k∧out = .int .u64 (R % 256 ^ k)∧Hid (PW wr gp v' (t ++ (numB R).take k) od)∧Hid (Fr gp v w v' wr))
  (fun _ _ _ i _=>8 - (intOf i).toNat)
 case atStart=>exact ⟨0,v,by omega,rfl,by simp,by show PW w gp v (t ++ []) od;rw [List.append_nil];exact HP.out.1,Fr.refl _ _ _⟩
 case round =>
  obtain ⟨k,v',hk,rfl,rfl,hP',hFr⟩:=hrel
  match k,hk with
  | 0,_ =>
   have HC:=Lib.hid (wbyte gp v' (t ++ (numB R).take 0) od wr.heap.size 0 (R % 256) (by simp [numB];omega) (wr.alloc (.cells #[.int .u8 (R % 256)] 5)) (hP'.out.alloc _) (box0 _ _ _ 0))
   have hnew:=hP'.out.new (.cells #[.int .u8 (R % 256)] 5)
   go_wp2_with fail
   refine HC.out.mono ?_
   rintro e w2 ⟨⟨r,rfl⟩,v2,hP2,hF2⟩
   have cc:w2.cell? ⟨wr.heap.size,0,none⟩=some (.int .u8 (R % 256)):=hF2.cell hnew (box0 _ _ _ 0)
   have H2:=Lib.hid (And.intro hP2 ((hFr.out.alloc (.cells #[.int .u8 (R % 256)] 5)).trans hF2))
   clear hP2 hF2 HC hnew
   go_wp2_with fail
   go_roundw
   case measure=>simp [intOf]
   refine ⟨1,v2,by omega,rfl,?_,?_,H2.out.2⟩
   ·rw [show (256:Int) ^ 1=256 from by decide]
    congr 1
    rw [Go.u64_or 0 (R % 256) (by omega) (by omega) (by omega) (by omega)]
    simp
    omega
   ·have:=H2.out.1
    rwa [List.append_assoc,show (numB R).take 0 ++ [R % 256]=(numB R).take 1 from by simp [numB,byteAt,List.range,List.range.loop]] at this
  | 1,_ =>
   have HC:=Lib.hid (wbyte gp v' (t ++ (numB R).take 1) od wr.heap.size 0 (R / 256 % 256) (by simp [numB];omega) (wr.alloc (.cells #[.int .u8 (R / 256 % 256)] 5)) (hP'.out.alloc _) (box0 _ _ _ 0))
   have hnew:=hP'.out.new (.cells #[.int .u8 (R / 256 % 256)] 5)
   go_wp2_with fail
   refine HC.out.mono ?_
   rintro e w2 ⟨⟨r,rfl⟩,v2,hP2,hF2⟩
   have cc:w2.cell? ⟨wr.heap.size,0,none⟩=some (.int .u8 (R / 256 % 256)):=hF2.cell hnew (box0 _ _ _ 0)
   have H2:=Lib.hid (And.intro hP2 ((hFr.out.alloc (.cells #[.int .u8 (R / 256 % 256)] 5)).trans hF2))
   clear hP2 hF2 HC hnew
   go_wp2_with fail
   go_roundw
   case measure=>simp [intOf]
   refine ⟨2,v2,by omega,rfl,?_,?_,H2.out.2⟩
   ·rw [show (256:Int) ^ 2=65536 from by decide]
    congr 1
    rw [Go.u64_or (R % 256) (R / 256 % 256*256) (by omega) (by omega) (by omega) (by omega)]
    have e1:=Nat.two_pow_add_eq_or_of_lt (i:=8) (b:=(R % 256).toNat) (by omega) (R / 256 % 256).toNat
    have e2:(R / 256 % 256*256).toNat=2 ^ 8*(R / 256 % 256).toNat:=by omega
    rw [e2,Nat.or_comm,← e1]
    omega
   ·have:=H2.out.1
    rwa [List.append_assoc,show (numB R).take 1 ++ [R / 256 % 256]=(numB R).take 2 from by simp [numB,byteAt,List.range,List.range.loop]] at this
  | 2,_ =>
   have HC:=Lib.hid (wbyte gp v' (t ++ (numB R).take 2) od wr.heap.size 0 (R / 65536 % 256) (by simp [numB];omega) (wr.alloc (.cells #[.int .u8 (R / 65536 % 256)] 5)) (hP'.out.alloc _) (box0 _ _ _ 0))
   have hnew:=hP'.out.new (.cells #[.int .u8 (R / 65536 % 256)] 5)
   go_wp2_with fail
   refine HC.out.mono ?_
   rintro e w2 ⟨⟨r,rfl⟩,v2,hP2,hF2⟩
   have cc:w2.cell? ⟨wr.heap.size,0,none⟩=some (.int .u8 (R / 65536 % 256)):=hF2.cell hnew (box0 _ _ _ 0)
   have H2:=Lib.hid (And.intro hP2 ((hFr.out.alloc (.cells #[.int .u8 (R / 65536 % 256)] 5)).trans hF2))
   clear hP2 hF2 HC hnew
   go_wp2_with fail
   go_roundw
   case measure=>simp [intOf]
   refine ⟨3,v2,by omega,rfl,?_,?_,H2.out.2⟩
   ·rw [show (256:Int) ^ 3=16777216 from by decide]
    congr 1
    rw [Go.u64_or (R % 65536) (R / 65536 % 256*65536) (by omega) (by omega) (by omega) (by omega)]
    have e1:=Nat.two_pow_add_eq_or_of_lt (i:=16) (b:=(R % 65536).toNat) (by omega) (R / 65536 % 256).toNat
    have e2:(R / 65536 % 256*65536).toNat=2 ^ 16*(R / 65536 % 256).toNat:=by omega
    rw [e2,Nat.or_comm,← e1]
    omega
   ·have:=H2.out.1
    rwa [List.append_assoc,show (numB R).take 2 ++ [R / 65536 % 256]=(numB R).take 3 from by simp [numB,byteAt,List.range,List.range.loop]] at this
  | 3,_ =>
   have HC:=Lib.hid (wbyte gp v' (t ++ (numB R).take 3) od wr.heap.size 0 (R / 16777216 % 256) (by simp [numB];omega) (wr.alloc (.cells #[.int .u8 (R / 16777216 % 256)] 5)) (hP'.out.alloc _) (box0 _ _ _ 0))
   have hnew:=hP'.out.new (.cells #[.int .u8 (R / 16777216 % 256)] 5)
   go_wp2_with fail
   refine HC.out.mono ?_
   rintro e w2 ⟨⟨r,rfl⟩,v2,hP2,hF2⟩
   have cc:w2.cell? ⟨wr.heap.size,0,none⟩=some (.int .u8 (R / 16777216 % 256)):=hF2.cell hnew (box0 _ _ _ 0)
   have H2:=Lib.hid (And.intro hP2 ((hFr.out.alloc (.cells #[.int .u8 (R / 16777216 % 256)] 5)).trans hF2))
   clear hP2 hF2 HC hnew
   go_wp2_with fail
   go_roundw
   case measure=>simp [intOf]
   refine ⟨4,v2,by omega,rfl,?_,?_,H2.out.2⟩
   ·rw [show (256:Int) ^ 4=4294967296 from by decide]
    congr 1
    rw [Go.u64_or (R % 16777216) (R / 16777216 % 256*16777216) (by omega) (by omega) (by omega) (by omega)]
    have e1:=Nat.two_pow_add_eq_or_of_lt (i:=24) (b:=(R % 16777216).toNat) (by omega) (R / 16777216 % 256).toNat
    have e2:(R / 16777216 % 256*16777216).toNat=2 ^ 24*(R / 16777216 % 256).toNat:=by omega
    rw [e2,Nat.or_comm,← e1]
    omega
   ·have:=H2.out.1
    rwa [List.append_assoc,show (numB R).take 3 ++ [R / 16777216 % 256]=(numB R).take 4 from by simp [numB,byteAt,List.range,List.range.loop]] at this
  | 4,_ =>
   have HC:=Lib.hid (wbyte gp v' (t ++ (numB R).take 4) od wr.heap.size 0 (R / 4294967296 % 256) (by simp [numB];omega) (wr.alloc (.cells #[.int .u8 (R / 4294967296 % 256)] 5)) (hP'.out.alloc _) (box0 _ _ _ 0))
   have hnew:=hP'.out.new (.cells #[.int .u8 (R / 4294967296 % 256)] 5)
   go_wp2_with fail
   refine HC.out.mono ?_
   rintro e w2 ⟨⟨r,rfl⟩,v2,hP2,hF2⟩
   have cc:w2.cell? ⟨wr.heap.size,0,none⟩=some (.int .u8 (R / 4294967296 % 256)):=hF2.cell hnew (box0 _ _ _ 0)
   have H2:=Lib.hid (And.intro hP2 ((hFr.out.alloc (.cells #[.int .u8 (R / 4294967296 % 256)] 5)).trans hF2))
   clear hP2 hF2 HC hnew
   go_wp2_with fail
   go_roundw
   case measure=>simp [intOf]
   refine ⟨5,v2,by omega,rfl,?_,?_,H2.out.2⟩
   ·rw [show (256:Int) ^ 5=1099511627776 from by decide]
    congr 1
    rw [Go.u64_or (R % 4294967296) (R / 4294967296 % 256*4294967296) (by omega) (by omega) (by omega) (by omega)]
    have e1:=Nat.two_pow_add_eq_or_of_lt (i:=32) (b:=(R % 4294967296).toNat) (by omega) (R / 4294967296 % 256).toNat
    have e2:(R / 4294967296 % 256*4294967296).toNat=2 ^ 32*(R / 4294967296 % 256).toNat:=by omega
    rw [e2,Nat.or_comm,← e1]
    omega
   ·have:=H2.out.1
    rwa [List.append_assoc,show (numB R).take 4 ++ [R / 4294967296 % 256]=(numB R).take 5 from by simp [numB,byteAt,List.range,List.range.loop]] at this
  | 5,_ =>
   have HC:=Lib.hid (wbyte gp v' (t ++ (numB R).take 5) od wr.heap.size 0 (R / 1099511627776 % 256) (by simp [numB];omega) (wr.alloc (.cells #[.int .u8 (R / 1099511627776 % 256)] 5)) (hP'.out.alloc _) (box0 _ _ _ 0))
   have hnew:=hP'.out.new (.cells #[.int .u8 (R / 1099511627776 % 256)] 5)
   go_wp2_with fail
   refine HC.out.mono ?_
   rintro e w2 ⟨⟨r,rfl⟩,v2,hP2,hF2⟩
   have cc:w2.cell? ⟨wr.heap.size,0,none⟩=some (.int .u8 (R / 1099511627776 % 256)):=hF2.cell hnew (box0 _ _ _ 0)
   have H2:=Lib.hid (And.intro hP2 ((hFr.out.alloc (.cells #[.int .u8 (R / 1099511627776 % 256)] 5)).trans hF2))
   clear hP2 hF2 HC hnew
   go_wp2_with fail
   go_roundw
   case measure=>simp [intOf]
   refine ⟨6,v2,by omega,rfl,?_,?_,H2.out.2⟩
   ·rw [show (256:Int) ^ 6=281474976710656 from by decide]
    congr 1
    rw [Go.u64_or (R % 1099511627776) (R / 1099511627776 % 256*1099511627776) (by omega) (by omega) (by omega) (by omega)]
    have e1:=Nat.two_pow_add_eq_or_of_lt (i:=40) (b:=(R % 1099511627776).toNat) (by omega) (R / 1099511627776 % 256).toNat
    have e2:(R / 1099511627776 % 256*1099511627776).toNat=2 ^ 40*(R / 1099511627776 % 256).toNat:=by omega
    rw [e2,Nat.or_comm,← e1]
    omega
   ·have:=H2.out.1
    rwa [List.append_assoc,show (numB R).take 5 ++ [R / 1099511627776 % 256]=(numB R).take 6 from by simp [numB,byteAt,List.range,List.range.loop]] at this
  | 6,_ =>
   have HC:=Lib.hid (wbyte gp v' (t ++ (numB R).take 6) od wr.heap.size 0 (R / 281474976710656 % 256) (by simp [numB];omega) (wr.alloc (.cells #[.int .u8 (R / 281474976710656 % 256)] 5)) (hP'.out.alloc _) (box0 _ _ _ 0))
   have hnew:=hP'.out.new (.cells #[.int .u8 (R / 281474976710656 % 256)] 5)
   go_wp2_with fail
   refine HC.out.mono ?_
   rintro e w2 ⟨⟨r,rfl⟩,v2,hP2,hF2⟩
   have cc:w2.cell? ⟨wr.heap.size,0,none⟩=some (.int .u8 (R / 281474976710656 % 256)):=hF2.cell hnew (box0 _ _ _ 0)
   have H2:=Lib.hid (And.intro hP2 ((hFr.out.alloc (.cells #[.int .u8 (R / 281474976710656 % 256)] 5)).trans hF2))
   clear hP2 hF2 HC hnew
   go_wp2_with fail
   go_roundw
   case measure=>simp [intOf]
   refine ⟨7,v2,by omega,rfl,?_,?_,H2.out.2⟩
   ·rw [show (256:Int) ^ 7=72057594037927936 from by decide]
    congr 1
    rw [Go.u64_or (R % 281474976710656) (R / 281474976710656 % 256*281474976710656) (by omega) (by omega) (by omega) (by omega)]
    have e1:=Nat.two_pow_add_eq_or_of_lt (i:=48) (b:=(R % 281474976710656).toNat) (by omega) (R / 281474976710656 % 256).toNat
    have e2:(R / 281474976710656 % 256*281474976710656).toNat=2 ^ 48*(R / 281474976710656 % 256).toNat:=by omega
    rw [e2,Nat.or_comm,← e1]
    omega
   ·have:=H2.out.1
    rwa [List.append_assoc,show (numB R).take 6 ++ [R / 281474976710656 % 256]=(numB R).take 7 from by simp [numB,byteAt,List.range,List.range.loop]] at this
  | 7,_ =>
   have HC:=Lib.hid (wbyte gp v' (t ++ (numB R).take 7) od wr.heap.size 0 (R / 72057594037927936) (by simp [numB];omega) (wr.alloc (.cells #[.int .u8 (R / 72057594037927936)] 5)) (hP'.out.alloc _) (box0 _ _ _ 0))
   have hnew:=hP'.out.new (.cells #[.int .u8 (R / 72057594037927936)] 5)
   go_wp2_with fail
   refine HC.out.mono ?_
   rintro e w2 ⟨⟨r,rfl⟩,v2,hP2,hF2⟩
   have cc:w2.cell? ⟨wr.heap.size,0,none⟩=some (.int .u8 (R / 72057594037927936)):=hF2.cell hnew (box0 _ _ _ 0)
   have H2:=Lib.hid (And.intro hP2 ((hFr.out.alloc (.cells #[.int .u8 (R / 72057594037927936)] 5)).trans hF2))
   clear hP2 hF2 HC hnew
   go_wp2_with fail
   go_roundw
   case measure=>simp [intOf]
   refine ⟨8,v2,by omega,rfl,?_,?_,H2.out.2⟩
   ·rw [show (256:Int) ^ 8=18446744073709551616 from by decide]
    congr 1
    rw [Go.u64_or (R % 72057594037927936) (R / 72057594037927936*72057594037927936) (by omega) (by omega) (by omega) (by omega)]
    have e1:=Nat.two_pow_add_eq_or_of_lt (i:=56) (b:=(R % 72057594037927936).toNat) (by omega) (R / 72057594037927936).toNat
    have e2:(R / 72057594037927936*72057594037927936).toNat=2 ^ 56*(R / 72057594037927936).toNat:=by omega
    rw [e2,Nat.or_comm,← e1]
    omega
   ·have:=H2.out.1
    rwa [List.append_assoc,show (numB R).take 7 ++ [R / 72057594037927936]=(numB R).take 8 from by simp [numB,byteAt,List.range,List.range.loop];omega] at this
  | 8,_ =>
   have ca:=hFr.out.cell HP.out.2.2.2 HP.out.2.1
   have cf:=hFr.out.frozen HP.out.2.2.2 HP.out.2.2.1
   have f8:=HR2.out
   go_wp2_with fail
   go_end0
   rw [setCell_self ca]
   refine ⟨⟨_,rfl⟩,v',?_,hFr.out⟩
   have:=hP'.out
   rwa [show (numB R).take 8=numB R from List.take_of_length_le (by rw [numB_len];omega)] at this
end Go.Proofs.Ytfdldbfjeamlcaa.RecNum
namespace Go.Proofs.Ytfdldbfjeamlcaa.RecEach
set_option maxRecDepth 100000
set_option maxHeartbeats 4000000
open Go.RowKit Mem RecMem RecByte RecNum
open Go.Sort (grow)
def tB (p:Bool):Int:=if p then 1 else 0
def nB (n:Int):List Int:=numB (IntKind.u64.wrap n)
def numsB (l:List Int):List Int:=l.flatMap nB
theorem nB_len (n:Int):(nB n).length=8:=numB_len _
theorem numsB_len (l:List Int):(numsB l).length=8*l.length:=by
 induction l with
 | nil=>rfl
 | cons x l ih=>simp only [numsB,List.flatMap_cons,List.length_append,nB_len,List.length_cons] at ih ⊢;omega
theorem numsB_snoc (l:List Int) (n:Int):numsB (l ++ [n])=numsB l ++ nB n:=by simp [numsB]
theorem take_snoc {α:Type} {l:List α} {k:Nat} {x:α} (h:l[k]? = some x):l.take (k+1)=l.take k ++ [x]:=by rw [List.take_add_one,h];rfl
theorem wtruth (gp:Nat) (v:Value) (t:List Int) (od:Bool) (b o:Nat) (p:Bool) (hl:t.length≤900000000) (w:World) (hP:PW w gp v t od) (ha:w.cell? ⟨b,o,none⟩=some (.bool p)) (hfz:w.frozen? ⟨b,o,none⟩=false) (hF:Far gp v w b) :
    Calls Try.prog 106 #[.pointer (some ⟨gp,0,none⟩),.pointer (some ⟨b,o,none⟩)] w fun e w' => (∃ r,e = .returned r)∧∃ v',PW w' gp v' (t ++ [tB p]) od∧Fr gp v w v' w':=by
 have hbs:b < w.heap.size:=cell_lt ha
 cases p
 ·have HC:=Lib.hid (wbyte gp v t od w.heap.size 0 0 (by omega) (w.alloc (.cells #[.int .u8 0] 5)) (hP.alloc _) (box0 _ _ _ 0))
  have HP:=Lib.hid (And.intro (hP.new (.cells #[.int .u8 0] 5)) (And.intro (hF.alloc (.cells #[.int .u8 0] 5)) (And.intro (cell_over (.cells #[.int .u8 0] 5) ha) (show (w.alloc (.cells #[.int .u8 0] 5)).frozen? ⟨b,o,none⟩=false from by
   unfold World.frozen? at hfz ⊢
   rw [Below.heap_alloc w _ b hbs];exact hfz))))
  clear hP hfz hF
  go_enter Try.func106,Try.ntmps106
  go_wp2_with fail
  refine HC.out.mono ?_
  rintro e w2 ⟨⟨r,rfl⟩,v2,hP2,hF2⟩
  have cc:w2.cell? ⟨w.heap.size,0,none⟩=some (.int .u8 0):=hF2.cell HP.out.1 (box0 _ _ _ 0)
  have ca:=hF2.cell HP.out.2.1 HP.out.2.2.1
  have cf:=hF2.frozen HP.out.2.1 HP.out.2.2.2
  have H2:=Lib.hid (And.intro hP2 (((Fr.refl gp v w).alloc (.cells #[.int .u8 0] 5)).trans hF2))
  clear hP2 hF2 HC ha
  go_wp2_with fail
  go_end0
  rw [setCell_self ca]
  exact ⟨⟨_,rfl⟩,v2,H2.out.1,H2.out.2⟩
 ·have HC:=Lib.hid (wbyte gp v t od w.heap.size 0 1 (by omega) (w.alloc (.cells #[.int .u8 1] 5)) (hP.alloc _) (box0 _ _ _ 0))
  have HP:=Lib.hid (And.intro (hP.new (.cells #[.int .u8 1] 5)) (And.intro (hF.alloc (.cells #[.int .u8 1] 5)) (And.intro (cell_over (.cells #[.int .u8 1] 5) ha) (show (w.alloc (.cells #[.int .u8 1] 5)).frozen? ⟨b,o,none⟩=false from by
   unfold World.frozen? at hfz ⊢
   rw [Below.heap_alloc w _ b hbs];exact hfz))))
  clear hP hfz hF
  go_enter Try.func106,Try.ntmps106
  go_wp2_with fail
  refine HC.out.mono ?_
  rintro e w2 ⟨⟨r,rfl⟩,v2,hP2,hF2⟩
  have cc:w2.cell? ⟨w.heap.size,0,none⟩=some (.int .u8 1):=hF2.cell HP.out.1 (box0 _ _ _ 0)
  have ca:=hF2.cell HP.out.2.1 HP.out.2.2.1
  have cf:=hF2.frozen HP.out.2.1 HP.out.2.2.2
  have H2:=Lib.hid (And.intro hP2 (((Fr.refl gp v w).alloc (.cells #[.int .u8 1] 5)).trans hF2))
  clear hP2 hF2 HC ha
  go_wp2_with fail
  go_end0
  rw [setCell_self ca]
  exact ⟨⟨_,rfl⟩,v2,H2.out.1,H2.out.2⟩
def NumsAt (w:World) (b o:Nat) (l:List Int):Prop:=∀ i n,l[i]? = some n→w.cell? ⟨b,o+i,none⟩=some (.int .i64 n)∧w.frozen? ⟨b,o+i,none⟩=false∧(Lit.int .i64 n).wf=true
def TruthsAt (w:World) (b o:Nat) (l:List Bool):Prop:=∀ i n,l[i]? = some n→w.cell? ⟨b,o+i,none⟩=some (.bool n)∧w.frozen? ⟨b,o+i,none⟩=false
theorem weach (gp:Nat) (v:Value) (t:List Int) (od:Bool) (b o c:Nat) (l:List Int) (hl:t.length+8*l.length≤900000000) (w:World) (hP:PW w gp v t od) (hN:NumsAt w b o l) (hF:Far gp v w b) :
    Calls Try.prog 107 #[.slice (some ⟨b,o,none⟩) l.length c,.func (.func 74) #[.pointer (some ⟨gp,0,none⟩)] #[]] w fun e w' => (∃ r,e = .returned r)∧∃ v',PW w' gp v' (t ++ numsB l) od∧Fr gp v w v' w':=by
 have HP:=Lib.hid (And.intro hP (And.intro hN hF))
 clear hP hN hF
 go_enter Try.func107,Try.ntmps107
 go_wp2_with fail
 go_loopw [4,7] (fun _ i wr=>∃ (k:Nat) (v':Value),k≤l.length∧i = .int .i64 k∧Hid (PW wr gp v' (t ++ numsB (l.take k)) od)∧Hid (Fr gp v w v' wr))
  (fun _ i _=>l.length - (intOf i).toNat)
 case atStart=>exact ⟨0,v,Nat.zero_le _,rfl,by show PW w gp v (t ++ []) od;rw [List.append_nil];exact HP.out.1,Fr.refl _ _ _⟩
 case round =>
  obtain ⟨k,v',hk,rfl,hP',hFr⟩:=hrel
  by_cases hlt:k < l.length
  ·have hg:l[k]? = some l[k]:=List.getElem?_eq_getElem hlt
   generalize l[k]=x at hg
   have hki:(k:Int) < (l.length:Int):=by omega
   have hki0:(0:Int)≤(k:Int):=by omega
   obtain ⟨n1,n2,n3⟩:=HP.out.2.1 k x hg
   have hlen:(t ++ numsB (l.take k)).length≤900000000:=by rw [List.length_append,numsB_len,List.length_take];omega
   have HC:=Lib.hid (wnum gp v' (t ++ numsB (l.take k)) od b (o+k) x n3 hlen wr hP'.out (hFr.out.cell HP.out.2.2 n1) (hFr.out.frozen HP.out.2.2 n2) (hFr.out.far HP.out.2.2))
   have HG:=Lib.hid hg
   clear hg n1 n2 n3 hlen
   go_wp2_with fail
   refine HC.out.mono ?_
   rintro e w2 ⟨⟨r,rfl⟩,v2,hP2,hF2⟩
   have H2:=Lib.hid (And.intro hP2 (hFr.out.trans hF2))
   clear hP2 hF2 HC
   go_wp2_with fail
   go_roundw
   case measure=>simp [intOf];omega
   refine ⟨k+1,v2,by omega,by go_num,?_,H2.out.2⟩
   rw [take_snoc HG.out,numsB_snoc,← List.append_assoc]
   exact H2.out.1
  ·obtain rfl:k=l.length:=by omega
   go_wp2_with fail
   go_end0
   refine ⟨⟨_,rfl⟩,v',?_,hFr.out⟩
   have:=hP'.out
   rwa [List.take_length] at this
theorem weachB (gp:Nat) (v:Value) (t:List Int) (od:Bool) (b o c:Nat) (l:List Bool) (hl:t.length+l.length≤900000000) (w:World) (hP:PW w gp v t od) (hN:TruthsAt w b o l) (hF:Far gp v w b) :
    Calls Try.prog 128 #[.slice (some ⟨b,o,none⟩) l.length c,.func (.func 106) #[.pointer (some ⟨gp,0,none⟩)] #[]] w fun e w' => (∃ r,e = .returned r)∧∃ v',PW w' gp v' (t ++ l.map tB) od∧Fr gp v w v' w':=by
 have HP:=Lib.hid (And.intro hP (And.intro hN hF))
 clear hP hN hF
 go_enter Try.func128,Try.ntmps128
 go_wp2_with fail
 go_loopw [4,7] (fun _ i wr=>∃ (k:Nat) (v':Value),k≤l.length∧i = .int .i64 k∧Hid (PW wr gp v' (t ++ (l.take k).map tB) od)∧Hid (Fr gp v w v' wr))
  (fun _ i _=>l.length - (intOf i).toNat)
 case atStart=>exact ⟨0,v,Nat.zero_le _,rfl,by show PW w gp v (t ++ []) od;rw [List.append_nil];exact HP.out.1,Fr.refl _ _ _⟩
 case round =>
  obtain ⟨k,v',hk,rfl,hP',hFr⟩:=hrel
  by_cases hlt:k < l.length
  ·have hg:l[k]? = some l[k]:=List.getElem?_eq_getElem hlt
   generalize l[k]=x at hg
   have hki:(k:Int) < (l.length:Int):=by omega
   have hki0:(0:Int)≤(k:Int):=by omega
   obtain ⟨n1,n2⟩:=HP.out.2.1 k x hg
   have hlen:(t ++ (l.take k).map tB).length≤900000000:=by simp;omega
   have HC:=Lib.hid (wtruth gp v' (t ++ (l.take k).map tB) od b (o+k) x hlen wr hP'.out (hFr.out.cell HP.out.2.2 n1) (hFr.out.frozen HP.out.2.2 n2) (hFr.out.far HP.out.2.2))
   have HG:=Lib.hid hg
   clear hg n1 n2 hlen
   go_wp2_with fail
   refine HC.out.mono ?_
   rintro e w2 ⟨⟨r,rfl⟩,v2,hP2,hF2⟩
   have H2:=Lib.hid (And.intro hP2 (hFr.out.trans hF2))
   clear hP2 hF2 HC
   go_wp2_with fail
   go_roundw
   case measure=>simp [intOf];omega
   refine ⟨k+1,v2,by omega,by go_num,?_,H2.out.2⟩
   rw [take_snoc HG.out,List.map_append,← List.append_assoc]
   exact H2.out.1
  ·obtain rfl:k=l.length:=by omega
   go_wp2_with fail
   go_end0
   refine ⟨⟨_,rfl⟩,v',?_,hFr.out⟩
   have:=hP'.out
   rwa [List.take_length] at this
end Go.Proofs.Ytfdldbfjeamlcaa.RecEach
namespace Go.Proofs.Ytfdldbfjeamlcaa.RecMath
open Go.RowKit Mem RecMem RecByte RecNum RecEach
structure CV where
 kd:Int
 id:Int
 us:Int
 cl:Int
 a:Int
 b:Int
 c:Int
 p:Bool
 q:Bool
 r:Bool
 tn:Bool
 wa:Int
 pr:Int
 he:Bool
 af:List Int
 st:Int
 ca:Int
 ci:Int
 b0:Int
 b1:Int
 b2:Int
 b3:Int
 b4:Int
 b5:Int
 fr:Int
 to:Int
 n:Int
 we:Bool
deriving DecidableEq,Inhabited
def CV.z:CV:=⟨0,0,0,0,0,0,0,false,false,false,false,0,0,false,[],0,0,0,0,0,0,0,0,0,0,0,0,false⟩
def isJob (k:Int):Prop:=k=1
def isId (k:Int):Prop:=k=2∨k=3∨k=4∨k=6
def isKeep (k:Int):Prop:=k=5
def isWell (k:Int):Prop:=k=8∨k=9
def isN (k:Int):Prop:=k=7∨k=10∨k=11∨k=12∨k=13∨k=14∨k=15
instance (k:Int):Decidable (isJob k):=by unfold isJob;infer_instance
instance (k:Int):Decidable (isId k):=by unfold isId;infer_instance
instance (k:Int):Decidable (isKeep k):=by unfold isKeep;infer_instance
instance (k:Int):Decidable (isWell k):=by unfold isWell;infer_instance
instance (k:Int):Decidable (isN k):=by unfold isN;infer_instance
def own (c:CV):CV:=
 if isJob c.kd then { CV.z with kd:=c.kd,us:=c.us,cl:=c.cl,a:=c.a,b:=c.b,c:=c.c,p:=c.p,q:=c.q,r:=c.r,tn:=c.tn,wa:=c.wa,pr:=c.pr,he:=c.he,af:=c.af }
 else if isId c.kd then { CV.z with kd:=c.kd,ci:=c.ci }
 else if isKeep c.kd then { CV.z with kd:=c.kd,b0:=c.b0,b1:=c.b1,b2:=c.b2,b3:=c.b3,b4:=c.b4,b5:=c.b5,fr:=c.fr,to:=c.to }
 else if isWell c.kd then { CV.z with kd:=c.kd,ci:=c.ci,we:=c.we }
 else if isN c.kd then { CV.z with kd:=c.kd,n:=c.n }
 else { CV.z with kd:=c.kd }
theorem own_kd (c:CV):(own c).kd=c.kd:=by unfold own;repeat (first | rfl | split)
def mayK (k:Int):Bool:=decide (1≤k) && decide (k≤15)
theorem mayK_iff {k:Int} : mayK k=true↔isJob k∨isId k∨isKeep k∨isWell k∨isN k:=by
 simp [mayK,isJob,isId,isKeep,isWell,isN]
 omega
def CWf (c:CV):Prop:=(∀ n ∈ [c.id,c.us,c.cl,c.a,c.b,c.c,c.wa,c.pr,c.ca,c.ci,c.b0,c.b1,c.b2,c.b3,c.b4,c.b5,c.fr,c.to,c.n],(Lit.int .i64 n).wf=true)∧∀ n ∈ c.af,(Lit.int .i64 n).wf=true
def askB (c:CV):List Int:=nB c.us ++ (nB c.cl ++ (numsB [c.a,c.b,c.c] ++ ([tB c.p,tB c.q,tB c.r] ++ ([tB c.tn] ++ (nB c.wa ++ (nB c.pr ++ ([tB c.he] ++ (nB c.af.length ++ numsB c.af))))))))
def cmdB (c:CV):List Int:=
 c.kd :: (if isJob c.kd then askB c
 else if isId c.kd then nB c.ci
 else if isKeep c.kd then numsB [c.b0,c.b1,c.b2,c.b3,c.b4,c.b5] ++ (nB c.fr ++ nB c.to)
 else if isWell c.kd then nB c.ci ++ [tB c.we]
 else if isN c.kd then nB c.n
 else [])
theorem askB_len (c:CV):(askB c).length=69+8*c.af.length:=by
 simp only [askB,List.length_append,nB_len,numsB_len,List.length_cons,List.length_nil]
 omega
theorem cmdB_len (c:CV):(cmdB c).length≤82+8*c.af.length:=by
 unfold cmdB
 rw [List.length_cons]
 have:=askB_len c
 split
 ·omega
 ·split
  ·rw [nB_len];omega
  ·split
   ·simp only [List.length_append,nB_len,numsB_len,List.length_cons,List.length_nil];omega
   ·split
    ·simp only [List.length_append,nB_len,List.length_cons,List.length_nil];omega
    ·split
     ·rw [nB_len];omega
     ·simp only [List.length_nil];omega
abbrev cmdA (c:CV) (Y:Option Addr) (cy:Nat):Array Value:=#[.int .u8 c.kd,.int .i64 c.id,.int .i64 c.us,.int .i64 c.cl,.int .i64 c.a,.int .i64 c.b,.int .i64 c.c,.bool c.p,.bool c.q,.bool c.r,.bool c.tn,.int .i64 c.wa,.int .i64 c.pr,.bool c.he,.slice Y c.af.length cy,.int .u8 c.st,.int .i64 c.ca,.int .i64 c.ci,.int .i64 c.b0,.int .i64 c.b1,.int .i64 c.b2,.int .i64 c.b3,.int .i64 c.b4,.int .i64 c.b5,.int .i64 c.fr,.int .i64 c.to,.int .i64 c.n,.bool c.we]
abbrev recA (c:CV) (Y:Option Addr) (cy:Nat):Array Value:=#[.int .i64 0,.int .i64 0,.int .i64 0,.int .i64 0,.int .i64 0,.int .i64 0,.int .i64 0,.int .i64 0,.slice none 0 0,.int .i64 0,.int .i64 0,.slice none 0 0,.slice none 0 0,.slice none 0 0,.slice none 0 0,.slice none 0 0,.slice none 0 0,.int .u8 c.kd,.int .i64 c.id,.int .i64 c.us,.int .i64 c.cl,.int .i64 c.a,.int .i64 c.b,.int .i64 c.c,.bool c.p,.bool c.q,.bool c.r,.bool c.tn,.int .i64 c.wa,.int .i64 c.pr,.bool c.he,.slice Y c.af.length cy,.int .u8 c.st,.int .i64 c.ca,.int .i64 c.ci,.int .i64 c.b0,.int .i64 c.b1,.int .i64 c.b2,.int .i64 c.b3,.int .i64 c.b4,.int .i64 c.b5,.int .i64 c.fr,.int .i64 c.to,.int .i64 c.n,.bool c.we]
end Go.Proofs.Ytfdldbfjeamlcaa.RecMath
namespace Go.Proofs.Ytfdldbfjeamlcaa.RecPort
set_option maxRecDepth 100000
set_option maxHeartbeats 4000000
open Go.RowKit Mem RecMem RecByte RecNum RecEach RecMath
open Go.Sort (grow)
theorem ownsRow_up {w w':World} {B n size:Nat} {e:TypeId} {v:Value} {xs:List Value} (h:w.ownsRow B e size v n xs) (hb:Below w.heap.size w w'):w'.ownsRow B e size v n xs:=by
 refine ⟨h.1,?_⟩
 rcases h.2 with h2 | ⟨g,cap,cur,e1,e2,e3,e4⟩
 ·exact .inl h2
 ·exact .inr ⟨g,cap,cur,e1,e2,(hb.block g (Array.getElem?_eq_some_iff.1 e3).1).trans e3,e4⟩
theorem PW.up {w w':World} {gp:Nat} {v:Value} {t:List Int} {od:Bool} (h:PW w gp v t od) (hB:Below w.heap.size w w'):PW w' gp v t od:=⟨h.1.below hB h.1.lt,ownsRow_up h.2.1 hB,h.2.2⟩
theorem Fr.up {gp:Nat} {v v':Value} {w w1 w2:World} (h:Fr gp v w v' w1) (hB:Below w1.heap.size w1 w2):Fr gp v w v' w2:=
 h.trans ⟨hB.os,hB.tape,hB.output,hB.size,fun k hk _ _=>hB.block k hk,.inl rfl⟩
theorem NumsAt.fr {gp b o:Nat} {v v':Value} {w w':World} {l:List Int} (h:NumsAt w b o l) (hf:Fr gp v w v' w') (hF:Far gp v w b):NumsAt w' b o l:=fun i n hi=>by
 obtain ⟨h1,h2,h3⟩:=h i n hi
 exact ⟨hf.cell hF h1,hf.frozen hF h2,h3⟩
theorem NumsAt.blk {g o:Nat} {w:World} {t:TypeId} {cs:Array Value} {l:List Int} (h:Blk w g t cs) (hl:∀ i n,l[i]? = some n→cs[o+i]? = some (.int .i64 n)) (hw:∀ n ∈ l,(Lit.int .i64 n).wf=true):NumsAt w g o l:=fun i n hi =>
 ⟨(h.cell _).trans (hl i n hi),h.frozen _,hw n (List.mem_of_getElem? hi)⟩
theorem TruthsAt.blk {g o:Nat} {w:World} {t:TypeId} {cs:Array Value} {l:List Bool} (h:Blk w g t cs) (hl:∀ i n,l[i]? = some n→cs[o+i]? = some (.bool n)):TruthsAt w g o l:=fun i n hi=>⟨(h.cell _).trans (hl i n hi),h.frozen _⟩
theorem NumsAt.two {w:World} {b o:Nat} {x y:Int} (h:NumsAt w b o [x,y]):(w.cell? ⟨b,o,none⟩=some (.int .i64 x)∧w.frozen? ⟨b,o,none⟩=false∧(Lit.int .i64 x).wf=true)∧(w.cell? ⟨b,o+1,none⟩=some (.int .i64 y)∧w.frozen? ⟨b,o+1,none⟩=false∧(Lit.int .i64 y).wf=true):=⟨h 0 x rfl,h 1 y rfl⟩
theorem NumsAt.front {w:World} {b o:Nat} {l m:List Int} (h:NumsAt w b o (l ++ m)):NumsAt w b o l:=fun i n hi=>h i n (by rw [List.getElem?_append_left (List.getElem?_eq_some_iff.1 hi).1];exact hi)
theorem NumsAt.back {w:World} {b o:Nat} {l m:List Int} (h:NumsAt w b o (l ++ m)):NumsAt w b (o+l.length) m:=fun i n hi=>by
 rw [Nat.add_assoc]
 exact h (l.length+i) n (by rw [List.getElem?_append_right (by omega),show l.length+i - l.length=i by omega];exact hi)
theorem wbox (gp:Nat) (v:Value) (t:List Int) (od:Bool) (b o:Nat) (x0 x1 x2 y0 y1 y2:Int) (hl:t.length≤800000000) (w:World) (hP:PW w gp v t od) (hN:NumsAt w b o [x0,x1,x2,y0,y1,y2]) (hF:Far gp v w b) :
    Calls Try.prog 104 #[.pointer (some ⟨gp,0,none⟩),.pointer (some ⟨b,o,none⟩)] w fun e w' => (∃ r,e = .returned r)∧∃ v',PW w' gp v' (t ++ numsB [x0,x1,x2,y0,y1,y2]) od∧Fr gp v w v' w':=by
 have h1:NumsAt w b o [x0,x1,x2]:=NumsAt.front (m:=[y0,y1,y2]) hN
 have h2:NumsAt w b (o+3) [y0,y1,y2]:=NumsAt.back (l:=[x0,x1,x2]) hN
 have HC:=Lib.hid (weach gp v t od b o 3 [x0,x1,x2] (by simp;omega) w hP h1 hF)
 have H0:=Lib.hid (And.intro h2 hF)
 clear hP hN h1 h2 hF
 go_enter Try.func104,Try.ntmps104
 go_wp2_with fail
 refine HC.out.mono ?_
 rintro e w1 ⟨⟨r,rfl⟩,v1,hP1,hF1⟩
 have HC2:=Lib.hid (weach gp v1 (t ++ numsB [x0,x1,x2]) od b (o+3) 3 [y0,y1,y2] (by rw [List.length_append,numsB_len];simp;omega) w1 hP1 (NumsAt.fr H0.out.1 hF1 H0.out.2) (hF1.far H0.out.2))
 have H1:=Lib.hid hF1
 clear hP1 hF1 HC
 go_wp2_with fail
 refine HC2.out.mono ?_
 rintro e w2 ⟨⟨r,rfl⟩,v2,hP2,hF2⟩
 have H2:=Lib.hid (And.intro hP2 (H1.out.trans hF2))
 clear hP2 hF2 HC2
 go_wp2_with fail
 go_end0
 refine ⟨⟨_,rfl⟩,v2,?_,H2.out.2⟩
 have:=H2.out.1
 rwa [List.append_assoc,show numsB [x0,x1,x2] ++ numsB [y0,y1,y2]=numsB [x0,x1,x2,y0,y1,y2] from by simp [numsB]] at this
theorem wspan (gp:Nat) (v:Value) (t:List Int) (od:Bool) (b o:Nat) (x y:Int) (hl:t.length≤800000000) (w:World) (hP:PW w gp v t od) (hN:NumsAt w b o [x,y]) (hF:Far gp v w b) :
    Calls Try.prog 105 #[.pointer (some ⟨gp,0,none⟩),.pointer (some ⟨b,o,none⟩)] w fun e w' => (∃ r,e = .returned r)∧∃ v',PW w' gp v' (t ++ (nB x ++ nB y)) od∧Fr gp v w v' w':=by
 obtain ⟨⟨a1,a2,a3⟩,⟨b1,b2,b3⟩⟩:=NumsAt.two hN
 have HC:=Lib.hid (wnum gp v t od b o x a3 (by omega) w hP a1 a2 hF)
 have H0:=Lib.hid (And.intro (And.intro b1 (And.intro b2 b3)) hF)
 clear hP hN a1 a2 a3 b1 b2 b3 hF
 go_enter Try.func105,Try.ntmps105
 go_wp2_with fail
 refine HC.out.mono ?_
 rintro e w1 ⟨⟨r,rfl⟩,v1,hP1,hF1⟩
 have HC2:=Lib.hid (wnum gp v1 (t ++ nB x) od b (o+1) y H0.out.1.2.2 (by rw [List.length_append,nB_len];omega) w1 hP1 (hF1.cell H0.out.2 H0.out.1.1) (hF1.frozen H0.out.2 H0.out.1.2.1) (hF1.far H0.out.2))
 have H1:=Lib.hid hF1
 clear hP1 hF1 HC
 go_wp2_with fail
 refine HC2.out.mono ?_
 rintro e w2 ⟨⟨r,rfl⟩,v2,hP2,hF2⟩
 have H2:=Lib.hid (And.intro hP2 (H1.out.trans hF2))
 clear hP2 hF2 HC2
 go_wp2_with fail
 go_end0
 refine ⟨⟨_,rfl⟩,v2,?_,H2.out.2⟩
 have:=H2.out.1
 rwa [List.append_assoc] at this
theorem wwants (gp:Nat) (v:Value) (t:List Int) (od:Bool) (b o:Nat) (x y z:Int) (p q r tn:Bool) (hl:t.length≤800000000) (w:World) (hP:PW w gp v t od) (hN:NumsAt w b o [x,y,z]) (hT:TruthsAt w b (o+3) [p,q,r]) (hL:TruthsAt w b (o+6) [tn]) (hF:Far gp v w b) :
    Calls Try.prog 124 #[.pointer (some ⟨gp,0,none⟩),.pointer (some ⟨b,o,none⟩)] w fun e w' => (∃ r,e = .returned r)∧∃ v',PW w' gp v' (t ++ (numsB [x,y,z] ++ ([tB p,tB q,tB r] ++ [tB tn]))) od∧Fr gp v w v' w':=by
 have HC:=Lib.hid (weach gp v t od b o 3 [x,y,z] (by simp;omega) w hP hN hF)
 have H0:=Lib.hid (And.intro (And.intro hT (hL 0 tn rfl)) hF)
 clear hP hN hT hL hF
 go_enter Try.func124,Try.ntmps124
 go_wp2_with fail
 refine HC.out.mono ?_
 rintro e w1 ⟨⟨r1,rfl⟩,v1,hP1,hF1⟩
 have HC2:=Lib.hid (weachB gp v1 (t ++ numsB [x,y,z]) od b (o+3) 3 [p,q,r] (by rw [List.length_append,numsB_len];simp;omega) w1 hP1 (fun i n hi=>⟨hF1.cell H0.out.2 (H0.out.1.1 i n hi).1,hF1.frozen H0.out.2 (H0.out.1.1 i n hi).2⟩) (hF1.far H0.out.2))
 have H1:=Lib.hid hF1
 clear hP1 hF1 HC
 go_wp2_with fail
 refine HC2.out.mono ?_
 rintro e w2 ⟨⟨r2,rfl⟩,v2,hP2,hF2⟩
 have hF12:=H1.out.trans hF2
 have HC3:=Lib.hid (wtruth gp v2 (t ++ numsB [x,y,z] ++ [p,q,r].map tB) od b (o+6) tn (by simp only [List.length_append,numsB_len,List.length_map,List.length_cons,List.length_nil];omega) w2 hP2 (hF12.cell H0.out.2 H0.out.1.2.1) (hF12.frozen H0.out.2 H0.out.1.2.2) (hF12.far H0.out.2))
 have H2:=Lib.hid hF12
 clear hP2 hF2 HC2 hF12
 go_wp2_with fail
 refine HC3.out.mono ?_
 rintro e w3 ⟨⟨r3,rfl⟩,v3,hP3,hF3⟩
 have H3:=Lib.hid (And.intro hP3 (H2.out.trans hF3))
 clear hP3 hF3 HC3
 go_wp2_with fail
 go_end0
 refine ⟨⟨_,rfl⟩,v3,?_,H3.out.2⟩
 have:=H3.out.1
 rwa [List.append_assoc,List.append_assoc] at this
def IntsFar (gp:Nat) (v:Value) (w:World) (Y:Option Addr) (l:List Int):Prop:=∀ i n,l[i]? = some n→∃ b o,Y=some ⟨b,o,none⟩∧Far gp v w b∧w.cell? ⟨b,o+i,none⟩=some (.int .i64 n)
theorem IntsFar.fr {gp:Nat} {v v':Value} {w w':World} {Y:Option Addr} {l:List Int} (h:IntsFar gp v w Y l) (hf:Fr gp v w v' w'):IntsFar gp v' w' Y l:=fun i n hi=>by
 obtain ⟨b,o,e,h1,h2⟩:=h i n hi
 exact ⟨b,o,e,hf.far h1,hf.cell h1 h2⟩
theorem fr_over {gp:Nat} {v:Value} (w:World) (o:Obj):Fr gp v w v (w.alloc o):=(Fr.refl gp v w).alloc o
theorem wlist (gp:Nat) (v:Value) (t:List Int) (od:Bool) (b o:Nat) (Y:Option Addr) (cy:Nat) (l:List Int) (hc:l.length≤cy) (hn:l.length≤1000) (hl:t.length≤800000000) (w:World) (hP:PW w gp v t od) (ha:w.cell? ⟨b,o,none⟩=some (.slice Y l.length cy)) (hF:Far gp v w b) (hY:IntsFar gp v w Y l) (hw:∀ n ∈ l,(Lit.int .i64 n).wf=true) :
    Calls Try.prog 116 #[.pointer (some ⟨gp,0,none⟩),.pointer (some ⟨b,o,none⟩),.func (.func 74) #[.pointer (some ⟨gp,0,none⟩)] #[]] w fun e w' => (∃ r,e = .returned r)∧∃ v',PW w' gp v' (t ++ (nB (l.length:Int) ++ numsB l)) od∧Fr gp v w v' w':=by
 have hlw:(Lit.int .i64 (l.length:Int)).wf=true:=by simp [Lit.wf,IntKind.min,IntKind.max,IntKind.signed,IntKind.bits];omega
 have HC:=Lib.hid (wnum gp v t od w.heap.size 0 (l.length:Int) hlw (by omega) (w.alloc (.cells #[.int .i64 (l.length:Int)] 3)) (hP.alloc _) (box0 _ _ _ 0) ((Blk.new _ _ _).frozen 0) (hP.new _))
 have H0:=Lib.hid (And.intro (hP.new (.cells #[.int .i64 (l.length:Int)] 3)) (And.intro (hF.alloc (.cells #[.int .i64 (l.length:Int)] 3)) (And.intro (cell_over (.cells #[.int .i64 (l.length:Int)] 3) ha) (hY.fr (fr_over w (.cells #[.int .i64 (l.length:Int)] 3))))))
 have HW:=Lib.hid hw
 clear hP hF hY hw hlw
 go_enter Try.func116,Try.ntmps116
 go_wp2_with fail
 refine HC.out.mono ?_
 rintro e w1 ⟨⟨r,rfl⟩,v1,hP1,hF1⟩
 have cn:w1.cell? ⟨w.heap.size,0,none⟩=some (.int .i64 (l.length:Int)):=hF1.cell H0.out.1 (box0 _ _ _ 0)
 have cl:w1.cell? ⟨b,o,none⟩=some (.slice Y l.length cy):=hF1.cell H0.out.2.1 H0.out.2.2.1
 have p1:w1.cell? ⟨gp,1,none⟩=some (.bool false):=hP1.1.cell 1
 have hY1:=H0.out.2.2.2.fr hF1
 have H1:=Lib.hid (And.intro hP1 (And.intro ((fr_over w (.cells #[.int .i64 (l.length:Int)] 3)).trans hF1) hY1))
 clear hP1 hF1 HC H0 ha hY1
 go_wp2_with fail
 have kq0:=cell_regrown cn
 have kq1:=cell_regrown cl
 refine wp_region_quiet_below (by kernel_rfl) (by kernel_rfl) ?_
 repeat (go_big_quiet_step (first | fail))
 refine wpQuiet_nil ?_
 intro _ hw'
 obtain ⟨⟨dq,osq⟩,hw''⟩:=hw'
 subst hw''
 have hBq:=below_regrown w1 dq osq
 clear kq0 kq1 cn cl p1
 have hP2:=PW.up H1.out.1 hBq
 have hF2:=Fr.up H1.out.2.1 hBq
 have hY2:=H1.out.2.2.fr (Fr.up (Fr.refl gp v1 w1) hBq)
 generalize grow (redrawn w1 dq) osq=w2 at *
 have H2:=Lib.hid (And.intro hP2 (And.intro hF2 hY2))
 clear hP2 hF2 hY2 hBq H1
 go_wp2_with fail
 go_loopw [9,51] (fun _ i wr=>∃ (k:Nat) (v':Value),k≤l.length∧i = .int .i64 k∧Hid (PW wr gp v' (t ++ nB (l.length:Int) ++ numsB (l.take k)) od)∧Hid (Fr gp v w v' wr)∧Hid (IntsFar gp v' wr Y l))
  (fun _ i _=>l.length - (intOf i).toNat)
 case atStart=>exact ⟨0,v1,Nat.zero_le _,rfl,by show PW w2 gp v1 (t ++ nB (l.length:Int) ++ []) od;rw [List.append_nil];exact H2.out.1,H2.out.2.1,H2.out.2.2⟩
 case round =>
  obtain ⟨k,v',hk,rfl,hP',hFr,hY'⟩:=hrel
  clear H2
  by_cases hlt:k < l.length
  ·have hg:l[k]? = some l[k]:=List.getElem?_eq_getElem hlt
   generalize l[k]=x at hg
   have hki:(k:Int) < (l.length:Int):=by omega
   have hki0:(0:Int)≤(k:Int):=by omega
   obtain ⟨yb,yo,rfl,hyF,hyc⟩:=hY'.out k x hg
   have hlen:(t ++ nB (l.length:Int) ++ numsB (l.take k)).length≤900000000:=by simp only [List.length_append,numsB_len,nB_len,List.length_take];omega
   have HC:=Lib.hid (wnum gp v' (t ++ nB (l.length:Int) ++ numsB (l.take k)) od wr.heap.size 0 x (HW.out x (List.mem_of_getElem? hg)) hlen (wr.alloc (.cells #[.int .i64 x] 3)) (hP'.out.alloc _) (box0 _ _ _ 0) ((Blk.new _ _ _).frozen 0) (hP'.out.new _))
   have HG:=Lib.hid hg
   clear hg hyF hlen
   go_wp2_with fail
   refine HC.out.mono ?_
   rintro e w3 ⟨⟨r,rfl⟩,v3,hP3,hF3⟩
   have hF4:=(fr_over wr (.cells #[.int .i64 x] 3)).trans hF3
   have H3:=Lib.hid (And.intro hP3 (And.intro (hFr.out.trans hF4) (hY'.out.fr hF4)))
   clear hP3 hF3 hF4 HC hyc
   go_wp2_with fail
   go_roundw
   case measure=>simp [intOf];omega
   refine ⟨k+1,v3,by omega,by go_num,?_,H3.out.2.1,H3.out.2.2⟩
   rw [take_snoc HG.out,numsB_snoc,← List.append_assoc]
   exact H3.out.1
  ·obtain rfl:k=l.length:=by omega
   go_wp2_with fail
   go_end0
   refine ⟨⟨_,rfl⟩,v',?_,hFr.out⟩
   have:=hP'.out
   rwa [List.take_length,List.append_assoc] at this
end Go.Proofs.Ytfdldbfjeamlcaa.RecPort
