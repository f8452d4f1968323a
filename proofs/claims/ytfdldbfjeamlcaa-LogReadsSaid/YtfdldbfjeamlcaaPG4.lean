/- Several texts joined: Logs in plain Lean: areas, acts, what a loss of power leaves; texts and logs in memory. No conditions. -/
import Derived.Laws.BytesString
import Derived.Laws.Cells
import Derived.OneCell
import Derived.Lib.BufferRead
import Derived.Test.YtfdldbfjeamlcaaRows
import Derived.Test.YtfdldbfjeamlcaaPG1
import Derived.DeepKeys
import Derived.Laws.StructEq
import Derived.Tactics
import Derived.BigQuiet
import Derived.Deep.QuietTactic
import Derived.Lib.QuietBelow
import Derived.Lib.SliceRun
import Derived.DeepKeys4
import Derived.Test.YtfdldbfjeamlcaaPG3
import Derived.Deep.RegionHeld3
import Derived.Deep.MidRow
import Derived.Laws.Rows
set_option linter.unusedVariables false
set_option linter.unusedSimpArgs false
namespace Go.Proofs.Ytfdldbfjeamlcaa.LogMath
open Go.RowKit Mem
structure AV where
 t:List Int
 k:Int
structure LV where
 a:AV
 b:AV
def AV.z:AV:=⟨[],0⟩
def LV.z:LV:=⟨AV.z,AV.z⟩
def LV.of (l:LV) (i:Bool):AV:=if i then l.b else l.a
def LV.put (l:LV) (i:Bool) (x:AV):LV:=if i then ⟨l.a,x⟩ else ⟨x,l.b⟩
def strOf (l:List Int):ByteArray:=l.foldl (fun r n=>r.push (UInt8.ofNat n.toNat)) ByteArray.empty
theorem run_strOf {w:World} {B n c:Nat} {A:Option Addr} {l:List Int} (h:Reads w B 1 A n (l.map (Value.int .u8))):(convert 37 9 (.slice A n c)).run Try.prog w = .ok (.string (strOf l)) w:=by
 have hl:l.length=n:=by have:=h.1;simpa using this
 by_cases hn:0 < n
 ·obtain ⟨ad,rfl,_,hc⟩:=h.2 hn
  rw [run_convert_bytes_string w _ _ _ _ _ _ Try.underlying37 Try.underlying5 Try.underlying9]
  have hh:=run_loadCells_list (P:=Try.prog) (w:=w) ad (l.map (Value.int .u8)) hc
  rw [List.length_map,hl] at hh
  exact run_bytesToString w ad n c l hh
 ·obtain rfl:n=0:=by omega
  obtain rfl:l=[]:=List.eq_nil_of_length_eq_zero hl
  rw [run_convert_bytes_string w _ _ _ _ _ _ Try.underlying37 Try.underlying5 Try.underlying9]
  cases A with
  | none=>simp [Conv.bytesToString];rfl
  | some ad =>
   have hh:=run_loadCells_list (P:=Try.prog) (w:=w) ad ([]:List Value) (by simp)
   exact run_bytesToString w ad 0 c [] hh
def W4 (w:World) (g:Nat) (a b c d:Value):World:=(((w.setCell ⟨g,0,none⟩ a).setCell ⟨g,1,none⟩ b).setCell ⟨g,2,none⟩ c).setCell ⟨g,3,none⟩ d
theorem W4.blk {w:World} {g:Nat} {t:TypeId} {p q r s:Value} (h:Blk w g t #[p,q,r,s]) (a b c d:Value):Blk (W4 w g a b c d) g t #[a,b,c,d]:=by
 have:=(((h.set_ 0 a).set_ 1 b).set_ 2 c).set_ 3 d
 unfold W4
 simpa using this
theorem W4.far {w:World} {g g':Nat} {t:TypeId} {cs:Array Value} (h:Blk w g' t cs) (hg:g'≠g) (a b c d:Value):Blk (W4 w g a b c d) g' t cs:=
 (((h.far (p:=⟨g,0,none⟩) hg a).far (p:=⟨g,1,none⟩) hg b).far (p:=⟨g,2,none⟩) hg c).far (p:=⟨g,3,none⟩) hg d
theorem W4.below {u w:World} {B g:Nat} (h:Below B u w) (hg:B≤g) (a b c d:Value):Below B u (W4 w g a b c d):=
 (((h.setCell (p:=⟨g,0,none⟩) hg a).setCell (p:=⟨g,1,none⟩) hg b).setCell (p:=⟨g,2,none⟩) hg c).setCell (p:=⟨g,3,none⟩) hg d
theorem W4.size (w:World) (g:Nat) (a b c d:Value):(W4 w g a b c d).heap.size=w.heap.size:=by unfold W4;simp
theorem W4.own {w:World} {g B n size:Nat} {e:TypeId} {v:Value} {xs:List Value} (h:w.ownsRow B e size v n xs) (hg:v.ownBlock≠some g) (a b c d:Value):(W4 w g a b c d).ownsRow B e size v n xs:=
 Go.ownsRow_setCell_other (Go.ownsRow_setCell_other (Go.ownsRow_setCell_other (Go.ownsRow_setCell_other h (a:=⟨g,0,none⟩) hg a) (a:=⟨g,1,none⟩) hg b) (a:=⟨g,2,none⟩) hg c) (a:=⟨g,3,none⟩) hg d
theorem cell_set_far {w:World} {a p:Addr} {u v:Value} (h:w.cell? a=some u) (hne:a≠p):(w.setCell p v).cell? a=some u:=by
 rw [World.cell?_setCell_other _ _ _ _ hne.symm];exact h
theorem ownsRow_up {w w':World} {B n size:Nat} {e:TypeId} {v:Value} {xs:List Value} (h:w.ownsRow B e size v n xs) (hb:Below w.heap.size w w'):w'.ownsRow B e size v n xs:=by
 refine ⟨h.1,?_⟩
 rcases h.2 with h2 | ⟨g,cap,cur,e1,e2,e3,e4⟩
 ·exact .inl h2
 ·exact .inr ⟨g,cap,cur,e1,e2,(hb.block g (Array.getElem?_eq_some_iff.1 e3).1).trans e3,e4⟩
def TAt (w:World) (X:Option Addr) (t:List Int):Prop:=∀ (i:Nat) (v:Int),t[i]? = some v→∃ b o,X=some ⟨b,o,none⟩∧b < w.heap.size∧w.cell? ⟨b,o+i,none⟩=some (.int .u8 v)
theorem TAt.nil {w:World} {X:Option Addr} : TAt w X []:=fun i v h=>by simp at h
theorem TAt.up {w w':World} {X:Option Addr} {t:List Int} (h:TAt w X t) (hB:Below w.heap.size w w'):TAt w' X t:=fun i v hi=>by
 obtain ⟨b,o,e,hb,x⟩:=h i v hi
 exact ⟨b,o,e,Nat.lt_of_lt_of_le hb hB.size,keep_cell x hB⟩
theorem TAt.reads {w:World} {X:Option Addr} {t:List Int} (h:TAt w X t):Reads w w.heap.size 1 X t.length (t.map (Value.int .u8)):=by
 refine ⟨by simp,fun hn=>?_⟩
 obtain ⟨b,o,e,hb,_⟩:=h 0 t[0] (List.getElem?_eq_getElem hn)
 refine ⟨_,e,hb,fun j u hu=>?_⟩
 rw [List.getElem?_map] at hu
 cases hj:t[j]? with
 | none=>rw [hj] at hu;cases hu
 | some v =>
  rw [hj] at hu
  cases hu
  obtain ⟨b',o',e',_,x⟩:=h j v hj
  rw [e] at e'
  cases e'
  rw [add_flat]
  exact x
theorem TAt.of_reads {w:World} {B n:Nat} {X:Option Addr} {t:List Int} (hB:B≤w.heap.size) (h:Reads w B 1 X n (t.map (Value.int .u8))):TAt w X t:=fun i v hi=>by
 have hl:i < t.length:=(List.getElem?_eq_some_iff.1 hi).1
 have hn:0 < n:=by have:=h.1;simp at this;omega
 obtain ⟨b,o,e,hb,hc⟩:=h.flat hn
 exact ⟨b,o,e,by omega,hc i _ (by rw [List.getElem?_map,hi];rfl)⟩
theorem TAt.take {w:World} {X:Option Addr} {t:List Int} (h:TAt w X t) (n:Nat):TAt w X (t.take n):=fun i v hi=>by
 have hi':=hi
 rw [List.getElem?_take] at hi'
 split at hi'
 ·exact h i v hi'
 ·cases hi'
abbrev TOwn (w:World) (B:Nat) (v:Value) (t:List Int):Prop:=w.ownsRow B 5 1 v t.length (t.map (Value.int .u8))
def TFree (w:World) (B:Nat) (X:Option Addr) (n:Nat):Prop:=∀ i,i < n→∃ g o v,X=some ⟨g,o,none⟩∧B≤g∧g < w.heap.size∧w.cell? ⟨g,o+i,none⟩=some (.int .u8 v)∧w.frozen? ⟨g,o+i,none⟩=false
theorem TFree.nil {w:World} {B:Nat} {X:Option Addr} : TFree w B X 0:=fun i h=>absurd h (by omega)
theorem TFree.take {w:World} {B n m:Nat} {X:Option Addr} (h:TFree w B X n) (hm:m≤n):TFree w B X m:=fun i hi=>h i (by omega)
theorem TFree.up {w w':World} {B n:Nat} {X:Option Addr} (h:TFree w B X n) (hB:Below w.heap.size w w'):TFree w' B X n:=fun i hi=>by
 obtain ⟨g,o,v,e,h1,h2,h3,h4⟩:=h i hi
 exact ⟨g,o,v,e,h1,Nat.lt_of_lt_of_le h2 hB.size,keep_cell h3 hB,by rw [hB.frozen (p:=⟨g,o+i,none⟩) h2];exact h4⟩
theorem TFree.set_ {w:World} {B n:Nat} {X:Option Addr} (h:TFree w B X n) (p:Addr) (u:Int):TFree (w.setCell p (.int .u8 u)) B X n:=fun i hi=>by
 obtain ⟨g,o,v,e,h1,h2,h3,h4⟩:=h i hi
 refine (Decidable.em (p=⟨g,o+i,none⟩)).elim (fun hp=>?_) (fun hp=>?_)
 ·subst hp
  exact ⟨g,o,u,e,h1,by rw [World.size_setCell];exact h2,World.cell?_setCell_same _ _ _ h3,by rw [World.frozen?_setCell];exact h4⟩
 ·exact ⟨g,o,v,e,h1,by rw [World.size_setCell];exact h2,by rw [World.cell?_setCell_other _ _ _ _ hp];exact h3,by rw [World.frozen?_setCell];exact h4⟩
theorem TOwn.free {w:World} {B n c:Nat} {X:Option Addr} {t:List Int} (h:w.ownsRow B 5 1 (.slice X n c) n (t.map (Value.int .u8))):TFree w B X n:=fun i hi=>by
 obtain ⟨g,cap,e,hB,hg⟩:=h.form (by omega)
 have e':X=some ⟨g,0,none⟩:=by injection e
 subst e'
 have hl:i < t.length:=by have:=h.1;simp at this;omega
 have hc:=h.cells (g:=g) rfl i (.int .u8 t[i]) (by simp [List.getElem?_map,List.getElem?_eq_getElem hl])
 rw [add_flat] at hc
 refine ⟨g,0,t[i],rfl,hB,hg,hc,?_⟩
 have:=(e ▸ h).frozenAt i
 simpa using this
theorem TOwn.at_ {w:World} {B n c:Nat} {X:Option Addr} {t:List Int} (h:w.ownsRow B 5 1 (.slice X n c) n (t.map (Value.int .u8))):TAt w X t:=TAt.of_reads (Nat.le_refl _) (Reads.of_own h)
def RetL (w:World) (B:Nat) (m:LV) (v:Value):Prop:=∃ X ca Y cb,v = .agg #[.slice X m.a.t.length ca,.int .i64 m.a.k,.slice Y m.b.t.length cb,.int .i64 m.b.k]∧TAt w X m.a.t∧TAt w Y m.b.t∧TFree w B X m.a.t.length∧TFree w B Y m.b.t.length
theorem RetL.of_own {w:World} {B:Nat} {m:LV} {X:Option Addr} {ca:Nat} {Y:Option Addr} {cb:Nat} (h:TOwn w B (.slice X m.a.t.length ca) m.a.t) (h2:TOwn w B (.slice Y m.b.t.length cb) m.b.t) :
    RetL w B m (.agg #[.slice X m.a.t.length ca,.int .i64 m.a.k,.slice Y m.b.t.length cb,.int .i64 m.b.k]):=
 ⟨X,ca,Y,cb,rfl,TOwn.at_ h,TOwn.at_ h2,TOwn.free h,TOwn.free h2⟩
theorem RetL.zero {w:World} {B:Nat} : RetL w B LV.z (.agg #[.slice none 0 0,.int .i64 0,.slice none 0 0,.int .i64 0]):=
 ⟨none,0,none,0,rfl,TAt.nil,TAt.nil,TFree.nil,TFree.nil⟩
theorem RetL.up {w w':World} {B:Nat} {m:LV} {v:Value} (h:RetL w B m v) (hB:Below w.heap.size w w'):RetL w' B m v:=by
 obtain ⟨X,ca,Y,cb,e,h1,h2,h3,h4⟩:=h
 exact ⟨X,ca,Y,cb,e,h1.up hB,h2.up hB,h3.up hB,h4.up hB⟩
theorem TFree.far {w:World} {B n:Nat} {X:Option Addr} (h:TFree w B X n) {p:Addr} (hp:p.block < B) (u:Value):TFree (w.setCell p u) B X n:=fun i hi=>by
 obtain ⟨g,o,v,e,h1,h2,h3,h4⟩:=h i hi
 exact ⟨g,o,v,e,h1,by rw [World.size_setCell];exact h2,cell_set_far h3 (fun e=>by subst e;simp at hp;omega),by rw [World.frozen?_setCell];exact h4⟩
theorem TAt.far {w:World} {B:Nat} {X:Option Addr} {t:List Int} (h:TAt w X t) (hF:TFree w B X t.length) {p:Addr} (hp:p.block < B) (u:Value):TAt (w.setCell p u) X t:=fun i v hi=>by
 obtain ⟨b,o,e,hb,hc⟩:=h i v hi
 obtain ⟨g,o',_,e',h1,_⟩:=hF i (List.getElem?_eq_some_iff.1 hi).1
 subst e
 cases e'
 exact ⟨b,o,rfl,by rw [World.size_setCell];exact hb,cell_set_far hc (fun e=>by subst e;simp at hp;omega)⟩
theorem RetL.far {w:World} {B:Nat} {m:LV} {v:Value} (h:RetL w B m v) {p:Addr} (hp:p.block < B) (u:Value):RetL (w.setCell p u) B m v:=by
 obtain ⟨X,ca,Y,cb,e,h1,h2,h3,h4⟩:=h
 exact ⟨X,ca,Y,cb,e,h1.far h3 hp u,h2.far h4 hp u,h3.far hp u,h4.far hp u⟩
theorem RetL.w4 {w:World} {B g:Nat} {m:LV} {v:Value} (h:RetL w B m v) (hg:g < B) (a b c d:Value):RetL (W4 w g a b c d) B m v:=
 (((h.far (p:=⟨g,0,none⟩) hg a).far (p:=⟨g,1,none⟩) hg b).far (p:=⟨g,2,none⟩) hg c).far (p:=⟨g,3,none⟩) hg d
theorem RetL.four {w:World} {B:Nat} {m:LV} {v:Value} (h:RetL w B m v):∃ X n c k Y n' c' k',v = .agg #[.slice X n c,.int .i64 k,.slice Y n' c',.int .i64 k']:=by
 obtain ⟨X,ca,Y,cb,e,_⟩:=h
 exact ⟨_,_,_,_,_,_,_,_,e⟩
end Go.Proofs.Ytfdldbfjeamlcaa.LogMath
namespace Go.Proofs.Ytfdldbfjeamlcaa.EqDeep
theorem eq_of {P:Program} {t:TypeId} {m D D':Nat} {xs ys:Array Value} {la lb:List Lit} (hk:P.keyTypeAt m t=true) (hm:m≤10000)
    (hx:(Value.agg xs).formed P t=true) (hy:(Value.agg ys).formed P t=true) (kx:P.keyLits D t xs.toList=some la) (ky:P.keyLits D' t ys.toList=some lb) (b:Bool) (hb:b=true↔la=lb) (w:World) :
    (Op.equalIn 10000 t (.agg xs) (.agg ys)).run P w = .ok b w:=by
 have h:=run_equalIn_deep (10000 - m) m t hk
 rw [show 10000 - m+m=10000 by omega] at h
 obtain ⟨r,hr,hi⟩:=h w D D' (.agg xs) (.agg ys) la lb hx hy kx ky
 rw [hr]
 have:r=b:=by
  cases r <;> cases b
  ·rfl
  ·exact absurd (hi.2 (hb.1 rfl)) (by simp)
  ·exact absurd (hb.2 (hi.1 rfl)) (by simp)
  ·rfl
 rw [this]
end Go.Proofs.Ytfdldbfjeamlcaa.EqDeep
namespace Go.Proofs.Ytfdldbfjeamlcaa.RecEq
open Go.RowKit Mem RecMem RecByte RecNum RecEach RecMath RecCommand
theorem k_int {D:Nat} {n:Int} (h:(Lit.int .i64 n).wf=true):Try.prog.keyLits (D+1) 3 [.int .i64 n]=some [.int .i64 n]:=by
 unfold Program.keyLits
 rw [Try.underlying3]
 simp [h]
theorem k_bool {D:Nat} {b:Bool} : Try.prog.keyLits (D+1) 4 [.bool b]=some [.bool b]:=by
 unfold Program.keyLits
 rw [Try.underlying4]
theorem k_ints {D:Nat} {a b c:Int} (ha:(Lit.int .i64 a).wf=true) (hb:(Lit.int .i64 b).wf=true) (hc:(Lit.int .i64 c).wf=true):Try.prog.keyLits (D+2) 22 [.int .i64 a,.int .i64 b,.int .i64 c]=some [.int .i64 a,.int .i64 b,.int .i64 c]:=by
 unfold Program.keyLits
 rw [Try.underlying22]
 have e:Try.prog.cellsOf 22=3:=by kernel_rfl
 have e1:Try.prog.cellsOf 3=1:=by kernel_rfl
 simp [e,e1,List.range,List.range.loop,k_int ha,k_int hb,k_int hc]
theorem k_bools {D:Nat} {a b c:Bool} : Try.prog.keyLits (D+2) 23 [.bool a,.bool b,.bool c]=some [.bool a,.bool b,.bool c]:=by
 unfold Program.keyLits
 rw [Try.underlying23]
 have e:Try.prog.cellsOf 23=3:=by kernel_rfl
 have e1:Try.prog.cellsOf 4=1:=by kernel_rfl
 simp [e,e1,List.range,List.range.loop,k_bool]
theorem k_wants {D:Nat} {a b c:Int} {p q r tn:Bool} (ha:(Lit.int .i64 a).wf=true) (hb:(Lit.int .i64 b).wf=true) (hc:(Lit.int .i64 c).wf=true) :
    Try.prog.keyLits (D+3) 25 [.int .i64 a,.int .i64 b,.int .i64 c,.bool p,.bool q,.bool r,.bool tn]=some [.int .i64 a,.int .i64 b,.int .i64 c,.bool p,.bool q,.bool r,.bool tn]:=by
 unfold Program.keyLits
 rw [Try.underlying25]
 have e:Try.prog.cellsOf 25=7:=by kernel_rfl
 have e1:Try.prog.cellsOf 22=3:=by kernel_rfl
 have e2:Try.prog.cellsOf 23=3:=by kernel_rfl
 have e3:Try.prog.cellsOf 4=1:=by kernel_rfl
 simp [e,e1,e2,e3,k_ints ha hb hc,k_bools,k_bool]
theorem k_box {D:Nat} {a b c d e_ f:Int} (h1:(Lit.int .i64 a).wf=true) (h2:(Lit.int .i64 b).wf=true) (h3:(Lit.int .i64 c).wf=true) (h4:(Lit.int .i64 d).wf=true) (h5:(Lit.int .i64 e_).wf=true) (h6:(Lit.int .i64 f).wf=true) :
    Try.prog.keyLits (D+3) 30 [.int .i64 a,.int .i64 b,.int .i64 c,.int .i64 d,.int .i64 e_,.int .i64 f]=some [.int .i64 a,.int .i64 b,.int .i64 c,.int .i64 d,.int .i64 e_,.int .i64 f]:=by
 unfold Program.keyLits
 rw [Try.underlying30]
 have e:Try.prog.cellsOf 30=6:=by kernel_rfl
 have e1:Try.prog.cellsOf 22=3:=by kernel_rfl
 simp [e,e1,k_ints h1 h2 h3,k_ints h4 h5 h6]
theorem k_span {D:Nat} {a b:Int} (h1:(Lit.int .i64 a).wf=true) (h2:(Lit.int .i64 b).wf=true) :
    Try.prog.keyLits (D+2) 32 [.int .i64 a,.int .i64 b]=some [.int .i64 a,.int .i64 b]:=by
 unfold Program.keyLits
 rw [Try.underlying32]
 have e:Try.prog.cellsOf 32=2:=by kernel_rfl
 have e1:Try.prog.cellsOf 3=1:=by kernel_rfl
 simp [e,e1,k_int h1,k_int h2]
def wantsB (c d:CV):Bool:=decide (c.a=d.a∧c.b=d.b∧c.c=d.c∧c.p=d.p∧c.q=d.q∧c.r=d.r∧c.tn=d.tn)
def boxB (c d:CV):Bool:=decide (c.b0=d.b0∧c.b1=d.b1∧c.b2=d.b2∧c.b3=d.b3∧c.b4=d.b4∧c.b5=d.b5)
def spanB (c d:CV):Bool:=decide (c.fr=d.fr∧c.to=d.to)
theorem eq_wants {c d:CV} (hc:CWf c) (hd:CWf d) (w:World):(Op.equalIn 10000 25 (.agg #[.int .i64 c.a,.int .i64 c.b,.int .i64 c.c,.bool c.p,.bool c.q,.bool c.r,.bool c.tn]) (.agg #[.int .i64 d.a,.int .i64 d.b,.int .i64 d.c,.bool d.p,.bool d.q,.bool d.r,.bool d.tn])).run Try.prog w = .ok (wantsB c d) w:=
 EqDeep.eq_of (m:=5) (D:=3) (D':=3) (by kernel_rfl) (by omega) (by kernel_rfl) (by kernel_rfl) (k_wants (hc.1 _ (by simp)) (hc.1 _ (by simp)) (hc.1 _ (by simp))) (k_wants (hd.1 _ (by simp)) (hd.1 _ (by simp)) (hd.1 _ (by simp))) _ (by simp [wantsB]) w
theorem eq_box {c d:CV} (hc:CWf c) (hd:CWf d) (w:World):(Op.equalIn 10000 30 (.agg #[.int .i64 c.b0,.int .i64 c.b1,.int .i64 c.b2,.int .i64 c.b3,.int .i64 c.b4,.int .i64 c.b5]) (.agg #[.int .i64 d.b0,.int .i64 d.b1,.int .i64 d.b2,.int .i64 d.b3,.int .i64 d.b4,.int .i64 d.b5])).run Try.prog w = .ok (boxB c d) w:=
 EqDeep.eq_of (m:=5) (D:=3) (D':=3) (by kernel_rfl) (by omega) (by kernel_rfl) (by kernel_rfl) (k_box (hc.1 _ (by simp)) (hc.1 _ (by simp)) (hc.1 _ (by simp)) (hc.1 _ (by simp)) (hc.1 _ (by simp)) (hc.1 _ (by simp))) (k_box (hd.1 _ (by simp)) (hd.1 _ (by simp)) (hd.1 _ (by simp)) (hd.1 _ (by simp)) (hd.1 _ (by simp)) (hd.1 _ (by simp))) _ (by simp [boxB]) w
theorem eq_span {c d:CV} (hc:CWf c) (hd:CWf d) (w:World):(Op.equalIn 10000 32 (.agg #[.int .i64 c.fr,.int .i64 c.to]) (.agg #[.int .i64 d.fr,.int .i64 d.to])).run Try.prog w = .ok (spanB c d) w:=
 EqDeep.eq_of (m:=5) (D:=2) (D':=2) (by kernel_rfl) (by omega) (by kernel_rfl) (by kernel_rfl) (k_span (hc.1 _ (by simp)) (hc.1 _ (by simp))) (k_span (hd.1 _ (by simp)) (hd.1 _ (by simp))) _ (by simp [spanB]) w
theorem below_drewN {B:Nat} {a w:World} (h:Below B a w) (n:Nat):Below B a (w.drewN n):=⟨h.os,h.tape,h.output,h.size,h.block⟩
theorem list_ne {α:Type} {l m:List α} {k:Nat} {x y:α} (hx:l[k]? = some x) (hy:m[k]? = some y) (h:x≠y):l≠m:=fun e=>by
 rw [e,hy] at hx
 exact h (Option.some.inj hx).symm
theorem list_eq {α:Type} {l m:List α} (hl:l.length=m.length) (h:∀ (i:Nat) (x y:α),i < l.length→l[i]? = some x→m[i]? = some y→x=y):l=m:=by
 refine List.ext_getElem? fun i=>?_
 rcases Nat.lt_or_ge i l.length with hi | hi
 ·have h1:l[i]? = some l[i]:=List.getElem?_eq_getElem hi
  have h2:m[i]? = some (m[i]'(by omega)):=List.getElem?_eq_getElem (by omega)
  rw [h1,h2,h i _ _ hi h1 h2]
 ·rw [List.getElem?_eq_none hi,List.getElem?_eq_none (by omega)]
end Go.Proofs.Ytfdldbfjeamlcaa.RecEq
namespace Go.Proofs.Ytfdldbfjeamlcaa.RecJobs
open Go.RowKit Mem RecMem RecByte RecNum RecEach RecMath RecCommand RecEq
theorem k_dims {D:Nat} {a b c:Int} (ha:(Lit.int .i64 a).wf=true) (hb:(Lit.int .i64 b).wf=true) (hc:(Lit.int .i64 c).wf=true):Try.prog.keyLits (D+2) 41 [.int .i64 a,.int .i64 b,.int .i64 c]=some [.int .i64 a,.int .i64 b,.int .i64 c]:=by
 unfold Program.keyLits
 rw [Try.underlying41]
 have e:Try.prog.cellsOf 41=3:=by kernel_rfl
 have e1:Try.prog.cellsOf 3=1:=by kernel_rfl
 simp [e,e1,List.range,List.range.loop,k_int ha,k_int hb,k_int hc]
def jobB (c d:CV):Bool:=(decide (c.af=d.af) && ((c.id == d.id) && ((c.us == d.us) && ((c.cl == d.cl) && (wantsB c d && ((c.wa == d.wa) && ((c.pr == d.pr) && ((c.he == d.he) && ((c.st == d.st) && (c.ca == d.ca))))))))))
end Go.Proofs.Ytfdldbfjeamlcaa.RecJobs
namespace Go.Proofs.Ytfdldbfjeamlcaa.RecCmdJ
set_option maxRecDepth 100000
set_option maxHeartbeats 4000000
open Go.RowKit Mem RecMem RecByte RecNum RecEach RecMath RecCommand
open Go.Sort (grow)
theorem int_info:(Try.prog.info? 3).map (fun i=>(i.zero,i.size,i.bytes))=some (some (.int .i64 0),1,8):=by kernel_rfl
theorem IntsAt.reads {w:World} {X:Option Addr} {t:List Int} (h:IntsAt w X t):Reads w w.heap.size 1 X t.length (t.map (Value.int .i64)):=by
 refine ⟨by simp,fun hn=>?_⟩
 obtain ⟨b,o,e,hb,_⟩:=h 0 t[0] (List.getElem?_eq_getElem hn)
 refine ⟨_,e,hb,fun j u hu=>?_⟩
 rw [List.getElem?_map] at hu
 cases hj:t[j]? with
 | none=>rw [hj] at hu;cases hu
 | some v =>
  rw [hj] at hu
  cases hu
  obtain ⟨b',o',e',_,x⟩:=h j v hj
  rw [e] at e'
  cases e'
  rw [add_flat]
  exact x
theorem IntsAt.of_reads {w:World} {B n:Nat} {X:Option Addr} {t:List Int} (hB:B≤w.heap.size) (h:Reads w B 1 X n (t.map (Value.int .i64))):IntsAt w X t:=fun i v hi=>by
 have hl:i < t.length:=(List.getElem?_eq_some_iff.1 hi).1
 have hn:0 < n:=by have:=h.1;simp at this;omega
 obtain ⟨b,o,e,hb,hc⟩:=h.flat hn
 exact ⟨b,o,e,by omega,hc i _ (by rw [List.getElem?_map,hi];rfl)⟩
theorem own_ge0 {w:World} {F n k:Nat} {e:TypeId} {v:Value} {xs:List Value} (h:w.ownsRow F e n v k xs) {g:Nat} (hg:v.ownBlock=some g):F≤g∧∃ cur,Blk w g e cur:=by
 rcases h.2 with ⟨rfl,_⟩ | ⟨g',cap,cur,rfl,e2,e3,_⟩
 ·simp [Value.ownBlock] at hg
 ·have:g' = g:=by simpa [Value.ownBlock] using hg
  subst this
  exact ⟨e2,cur,e3⟩
abbrev RetK (w w':World) (c:CV) (e:Ending):Prop:=∃ Y' cy',e = .returned (.agg (cmdA (own c) Y' cy'))∧(own c).af.length≤cy'∧IntsAt w' Y' (own c).af∧Below w.heap.size w w'∧(∀ b o,Y' = some ⟨b,o,none⟩→w.heap.size≤b)∧((own c).af≠[]→∀ b o,Y' = some ⟨b,o,none⟩→∃ cur,Blk w' b 3 cur)
theorem retK_of {w w':World} {c:CV} {e:Ending} (h0:(own c).af=[]) (h:RetC w w' c e):RetK w w' c e:=by
 obtain ⟨Y,cy,h1,h2,h3,h4,h5⟩:=h
 exact ⟨Y,cy,h1,h2,h3,h4,h5,fun h=>absurd h0 h⟩
theorem iclone (X:Option Addr) (cap:Nat) (t:List Int) (hl:t.length≤17592186044416) (w:World) (hX:IntsAt w X t) :
    Calls Try.prog 43 #[.slice X t.length cap] w fun e w' => ∃ X' c',e = .returned (.slice X' t.length c')∧t.length≤c'∧IntsAt w' X' t∧Below w.heap.size w w'∧∀ b o,X' = some ⟨b,o,none⟩→w.heap.size≤b∧∃ cur,Blk w' b 3 cur:=by
 have u:∀ w,Sem.run Try.prog (underlying 26) w = .ok (TypeDesc.slice 3) w:=run_underlying Try.underlying26
 have q:∀ (w:World) (a:Option Addr) (n c n' c':Nat),(binOp .eql 26 (.slice a n c) (.slice none n' c')).run Try.prog w = .ok (.bool a.isNone) w:=fun w a n c n' c' => Lib.run_eql_slice_nil w _ _ a n c n' c' Try.underlying26
 cases X with
 | none =>
  obtain rfl:t=[]:=by
   cases t with
   | nil=>rfl
   | cons x t =>
    obtain ⟨_,_,h,_⟩:=hX 0 x rfl
    cases h
  clear hX
  go_enter Try.func43,Try.ntmps43
  go_wp2_with fail
  go_ret
  exact ⟨none,0,rfl,Nat.le_refl _,IntsAt.nil,Below.refl _ _,(fun b o e=>by cases e)⟩
 | some a =>
  have hr:=IntsAt.reads hX
  have h1:∀ u ∈ t.map (Value.int .i64),u.oneCell' = true:=fun u hu=>by
   obtain ⟨n,_,rfl⟩:=List.mem_map.1 hu
   rfl
  obtain ⟨i0,hi0,hz0,hz1,hz2⟩:=info_parts int_info
  have HR:=Lib.hid (And.intro (hr.alloc (Nat.le_refl _) (.cells #[] 3)) (And.intro h1 (And.intro hi0 (And.intro hz0 (And.intro hz1 hz2)))))
  clear hr hi0 hz0 hz1 hz2 hX h1
  go_enter Try.func43,Try.ntmps43
  go_wp2_with (at_builtin;refine wpList_append_any _ rfl (.tmp 5) (.tmp 6) _ rfl w.heap.size 3 i0 (.int .i64 0) 1 8 Try.underlying26 HR.out.2.2.1 HR.out.2.2.2.1 HR.out.2.2.2.2.1 HR.out.2.2.2.2.2 rfl (by decide) _ _ _ rfl (World.ownsRow_made w #[] 0 (Nat.le_refl _) (Nat.zero_le _) (by simp)) w.heap.size (some a) t.length cap (t.map (Value.int .i64)) rfl HR.out.1 HR.out.2.1 (by simp only [maxLen];omega) (by omega) (by simp) ?_;intro v1 w1 hown hg hat;have HO:=Lib.hid (And.intro hown hg);clear hown hg hat)
  go_ret
  have hB1:Below w.heap.size w w1:=(below_alloc (Below.refl _ w)).grown HO.out.2 (by simp) (by intro k hk;cases hk;exact Nat.le_refl _)
  have ho:w1.ownsRow w.heap.size 3 1 v1 t.length (t.map (Value.int .i64)):=by have:=HO.out.1;simpa using this
  have hx:∃ Y c,v1 = .slice Y t.length c∧t.length≤c:=by
   rcases ho.2 with ⟨rfl,e0⟩ | ⟨g,cap',cur,rfl,_,_,hc,_⟩
   ·exact ⟨none,0,by rw [e0],by omega⟩
   ·exact ⟨_,cap',rfl,hc⟩
  obtain ⟨Y,c,rfl,hc⟩:=hx
  exact ⟨Y,c,rfl,hc,IntsAt.of_reads (Nat.le_refl _) (Reads.of_own ho),hB1,(fun b o e=>⟨(ho.lt b (by rw [e];rfl)).1,(own_ge0 ho (by rw [e];rfl)).2⟩)⟩
theorem blk_sets_far {g g':Nat} {t:TypeId} {cs:Array Value} (hg:g'≠g):∀ {vs:List Value} {W:World} {i:Nat},Blk W g' t cs→Blk (World.setCells W g i vs) g' t cs
 | [],_,_,h=>h
 | v :: _,_,i,h=>by rw [World.setCells];exact blk_sets_far hg (h.far (p:=⟨g,i,none⟩) hg v)
def setA (cs:Array Value) (i:Nat):List Value→Array Value
 | []=>cs
 | v :: vs=>setA (cs.setIfInBounds i v) (i+1) vs
theorem blk_setA {g:Nat} {t:TypeId} : ∀ {vs:List Value} {W:World} {i:Nat} {cs:Array Value},Blk W g t cs→Blk (World.setCells W g i vs) g t (setA cs i vs)
 | [],_,_,_,h=>h
 | v :: _,_,i,_,h=>by rw [World.setCells];exact blk_setA (h.set_ i v)
theorem below_sets {w:World} {B g:Nat} (hg:B≤g):∀ {vs:List Value} {W:World} {i:Nat},Below B w W→Below B w (World.setCells W g i vs)
 | [],_,_,h=>h
 | v :: _,_,i,h=>by rw [World.setCells];exact below_sets hg (h.setCell (p:=⟨g,i,none⟩) hg v)
theorem cell_sets {g:Nat} : ∀ {vs:List Value} {W:World} {i:Nat} {a:Addr} {u:Value},a.block≠g→W.cell? a=some u→(World.setCells W g i vs).cell? a=some u
 | [],_,_,_,_,_,h=>h
 | v :: _,W,i,a,u,hne,h=>by
  rw [World.setCells]
  exact cell_sets hne (by rw [World.cell?_setCell_other _ _ _ _ (fun e=>hne (by rw [← e]))];exact h)
theorem size_sets {g:Nat} : ∀ {vs:List Value} {W:World} {i:Nat},(World.setCells W g i vs).heap.size=W.heap.size
 | [],_,_=>rfl
 | _ :: _,_,_=>by rw [World.setCells];rw [size_sets,World.size_setCell]
theorem ints_sets {W:World} {g i:Nat} {vs:List Value} {Y:Option Addr} {l:List Int} {cs:Array Value} (h:IntsAt W Y l) (hK:Blk W g 34 cs) (hY:∀ b o,Y=some ⟨b,o,none⟩→b≠g):IntsAt (World.setCells W g i vs) Y l:=fun j v hj=>by
 obtain ⟨b,o,e,hb,hc⟩:=h j v hj
 exact ⟨b,o,e,by rw [size_sets];exact hb,cell_sets (hY b o e) hc⟩
theorem there_of {W:World} {g o:Nat} {t:TypeId} {cs:Array Value} {n:Nat} (h:Blk W g t cs) (hn:o+n≤cs.size):W.there g o n:=fun j hj=>by
 rw [h.cell,h.frozen]
 exact ⟨by rw [Array.getElem?_eq_getElem (by omega)];rfl,rfl⟩
theorem set_job (us cl a b c:Int) (p q r tn:Bool) (wa pr:Int) (he:Bool) (af:List Int) (X5:Option Addr) (c5:Nat):setA #[.int .u8 1,.int .i64 0,.int .i64 0,.int .i64 0,.int .i64 0,.int .i64 0,.int .i64 0,.bool false,.bool false,.bool false,.bool false,.int .i64 0,.int .i64 0,.bool false,.slice none 0 0,.int .u8 0,.int .i64 0,.int .i64 0,.int .i64 0,.int .i64 0,.int .i64 0,.int .i64 0,.int .i64 0,.int .i64 0,.int .i64 0,.int .i64 0,.int .i64 0,.bool false] 1 [.int .i64 0,.int .i64 us,.int .i64 cl,.int .i64 a,.int .i64 b,.int .i64 c,.bool p,.bool q,.bool r,.bool tn,.int .i64 wa,.int .i64 pr,.bool he,.slice X5 af.length c5,.int .u8 0,.int .i64 0]=#[.int .u8 1,.int .i64 0,.int .i64 us,.int .i64 cl,.int .i64 a,.int .i64 b,.int .i64 c,.bool p,.bool q,.bool r,.bool tn,.int .i64 wa,.int .i64 pr,.bool he,.slice X5 af.length c5,.int .u8 0,.int .i64 0,.int .i64 0,.int .i64 0,.int .i64 0,.int .i64 0,.int .i64 0,.int .i64 0,.int .i64 0,.int .i64 0,.int .i64 0,.int .i64 0,.bool false]:=by
 simp only [setA,List.setIfInBounds_toArray,List.set_cons_zero,List.set_cons_succ]
theorem ccmd1K (id us cl a b c:Int) (p q r tn:Bool) (wa pr:Int) (he:Bool) (af:List Int) (st ca ci b0 b1 b2 b3 b4 b5 fr tt n:Int) (we:Bool) (Y:Option Addr) (cy:Nat) (hn:af.length≤17592186044416) (w:World) (hI:IntsAt w Y af) :
    Calls Try.prog 16 #[.agg #[.int .u8 1,.int .i64 id,.int .i64 us,.int .i64 cl,.int .i64 a,.int .i64 b,.int .i64 c,.bool p,.bool q,.bool r,.bool tn,.int .i64 wa,.int .i64 pr,.bool he,.slice Y af.length cy,.int .u8 st,.int .i64 ca,.int .i64 ci,.int .i64 b0,.int .i64 b1,.int .i64 b2,.int .i64 b3,.int .i64 b4,.int .i64 b5,.int .i64 fr,.int .i64 tt,.int .i64 n,.bool we]] w fun e w' => RetK w w' ⟨1,id,us,cl,a,b,c,p,q,r,tn,wa,pr,he,af,st,ca,ci,b0,b1,b2,b3,b4,b5,fr,tt,n,we⟩ e:=by
 have HCI:=Lib.hid (fun (W:World) (h:IntsAt W Y af)=>iclone Y cy af (by omega) W h)
 have HI0:=Lib.hid hI
 clear hI
 go_enter Try.func16,Try.ntmps16
 go_wp2_with fail
 have K2:=Lib.hid ((blk1 w 34 #[.int .u8 1,.int .i64 0,.int .i64 0,.int .i64 0,.int .i64 0,.int .i64 0,.int .i64 0,.bool false,.bool false,.bool false,.bool false,.int .i64 0,.int .i64 0,.bool false,.slice none 0 0,.int .u8 0,.int .i64 0,.int .i64 0,.int .i64 0,.int .i64 0,.int .i64 0,.int .i64 0,.int .i64 0,.int .i64 0,.int .i64 0,.int .i64 0,.int .i64 0,.bool false] (o:=.cells #[.int .u8 1,.int .i64 id,.int .i64 us,.int .i64 cl,.int .i64 a,.int .i64 b,.int .i64 c,.bool p,.bool q,.bool r,.bool tn,.int .i64 wa,.int .i64 pr,.bool he,.slice Y af.length cy,.int .u8 st,.int .i64 ca,.int .i64 ci,.int .i64 b0,.int .i64 b1,.int .i64 b2,.int .i64 b3,.int .i64 b4,.int .i64 b5,.int .i64 fr,.int .i64 tt,.int .i64 n,.bool we] 34)).alloc (.cells #[.int .i64 id,.int .i64 us,.int .i64 cl,.int .i64 a,.int .i64 b,.int .i64 c,.bool p,.bool q,.bool r,.bool tn,.int .i64 wa,.int .i64 pr,.bool he,.slice Y af.length cy,.int .u8 st,.int .i64 ca] 28))
 have K3:=Lib.hid (blk2 w 28 #[.int .i64 id,.int .i64 us,.int .i64 cl,.int .i64 a,.int .i64 b,.int .i64 c,.bool p,.bool q,.bool r,.bool tn,.int .i64 wa,.int .i64 pr,.bool he,.slice Y af.length cy,.int .u8 st,.int .i64 ca] (o:=.cells #[.int .u8 1,.int .i64 id,.int .i64 us,.int .i64 cl,.int .i64 a,.int .i64 b,.int .i64 c,.bool p,.bool q,.bool r,.bool tn,.int .i64 wa,.int .i64 pr,.bool he,.slice Y af.length cy,.int .u8 st,.int .i64 ca,.int .i64 ci,.int .i64 b0,.int .i64 b1,.int .i64 b2,.int .i64 b3,.int .i64 b4,.int .i64 b5,.int .i64 fr,.int .i64 tt,.int .i64 n,.bool we] 34) (o':=.cells #[.int .u8 1,.int .i64 0,.int .i64 0,.int .i64 0,.int .i64 0,.int .i64 0,.int .i64 0,.bool false,.bool false,.bool false,.bool false,.int .i64 0,.int .i64 0,.bool false,.slice none 0 0,.int .u8 0,.int .i64 0,.int .i64 0,.int .i64 0,.int .i64 0,.int .i64 0,.int .i64 0,.int .i64 0,.int .i64 0,.int .i64 0,.int .i64 0,.int .i64 0,.bool false] 34))
 have HB:=Lib.hid (below_alloc (o:=.cells #[.int .i64 id,.int .i64 us,.int .i64 cl,.int .i64 a,.int .i64 b,.int .i64 c,.bool p,.bool q,.bool r,.bool tn,.int .i64 wa,.int .i64 pr,.bool he,.slice Y af.length cy,.int .u8 st,.int .i64 ca] 28) (below_alloc (o:=.cells #[.int .u8 1,.int .i64 0,.int .i64 0,.int .i64 0,.int .i64 0,.int .i64 0,.int .i64 0,.bool false,.bool false,.bool false,.bool false,.int .i64 0,.int .i64 0,.bool false,.slice none 0 0,.int .u8 0,.int .i64 0,.int .i64 0,.int .i64 0,.int .i64 0,.int .i64 0,.int .i64 0,.int .i64 0,.int .i64 0,.int .i64 0,.int .i64 0,.int .i64 0,.bool false] 34) (below_alloc (o:=.cells #[.int .u8 1,.int .i64 id,.int .i64 us,.int .i64 cl,.int .i64 a,.int .i64 b,.int .i64 c,.bool p,.bool q,.bool r,.bool tn,.int .i64 wa,.int .i64 pr,.bool he,.slice Y af.length cy,.int .u8 st,.int .i64 ca,.int .i64 ci,.int .i64 b0,.int .i64 b1,.int .i64 b2,.int .i64 b3,.int .i64 b4,.int .i64 b5,.int .i64 fr,.int .i64 tt,.int .i64 n,.bool we] 34) (Below.refl w.heap.size w))))
 have HI:=Lib.hid (HI0.out.up HB.out)
 generalize ((w.alloc (.cells #[.int .u8 1,.int .i64 id,.int .i64 us,.int .i64 cl,.int .i64 a,.int .i64 b,.int .i64 c,.bool p,.bool q,.bool r,.bool tn,.int .i64 wa,.int .i64 pr,.bool he,.slice Y af.length cy,.int .u8 st,.int .i64 ca,.int .i64 ci,.int .i64 b0,.int .i64 b1,.int .i64 b2,.int .i64 b3,.int .i64 b4,.int .i64 b5,.int .i64 fr,.int .i64 tt,.int .i64 n,.bool we] 34)).alloc (.cells #[.int .u8 1,.int .i64 0,.int .i64 0,.int .i64 0,.int .i64 0,.int .i64 0,.int .i64 0,.bool false,.bool false,.bool false,.bool false,.int .i64 0,.int .i64 0,.bool false,.slice none 0 0,.int .u8 0,.int .i64 0,.int .i64 0,.int .i64 0,.int .i64 0,.int .i64 0,.int .i64 0,.int .i64 0,.int .i64 0,.int .i64 0,.int .i64 0,.int .i64 0,.bool false] 34)).alloc (.cells #[.int .i64 id,.int .i64 us,.int .i64 cl,.int .i64 a,.int .i64 b,.int .i64 c,.bool p,.bool q,.bool r,.bool tn,.int .i64 wa,.int .i64 pr,.bool he,.slice Y af.length cy,.int .u8 st,.int .i64 ca] 28)=wb at *
 refine wp_region_held_drew (S:=(fun W=>Blk W (w.heap.size+1+1) 28 #[.int .i64 id,.int .i64 us,.int .i64 cl,.int .i64 a,.int .i64 b,.int .i64 c,.bool p,.bool q,.bool r,.bool tn,.int .i64 wa,.int .i64 pr,.bool he,.slice Y af.length cy,.int .u8 st,.int .i64 ca])) (by kernel_rfl) ?_ (fun hHeld=>?_)
 ·exact K3.out.drew
 refine' wpAnyH_take (i:=0) (v:=?v1) rfl (by kernel_rfl) (by kernel_rfl) (by kernel_rfl) (fun _ _ _ h=>h) (Or.inl ⟨by rfl,?y1⟩) (by assumption) ?r1
 case y1=>(intro W hSw;(try dsimp only at hSw);go_simp;try with_reducible rfl)
 (try simp only [Act.put,List.setIfInBounds_toArray,List.set_cons_zero,List.set_cons_succ])
 refine' wpAnyH_take (i:=1) (v:=?v2) rfl (by kernel_rfl) (by kernel_rfl) (by kernel_rfl) (fun _ _ _ h=>h) (Or.inl ⟨by rfl,?y2⟩) (by assumption) ?r2
 case y2=>(intro W hSw;(try dsimp only at hSw);have q0:=hSw.cell 1;go_simp;try with_reducible rfl)
 (try simp only [Act.put,List.setIfInBounds_toArray,List.set_cons_zero,List.set_cons_succ])
 refine' wpAnyH_take (i:=2) (v:=?v3) rfl (by kernel_rfl) (by kernel_rfl) (by kernel_rfl) (fun _ _ _ h=>h) (Or.inl ⟨by rfl,?y3⟩) (by assumption) ?r3
 case y3=>(intro W hSw;(try dsimp only at hSw);go_simp;try with_reducible rfl)
 (try simp only [Act.put,List.setIfInBounds_toArray,List.set_cons_zero,List.set_cons_succ])
 refine' wpAnyH_take (i:=3) (v:=?v4) rfl (by kernel_rfl) (by kernel_rfl) (by kernel_rfl) (fun _ _ _ h=>h) (Or.inl ⟨by rfl,?y4⟩) (by assumption) ?r4
 case y4=>(intro W hSw;(try dsimp only at hSw);have q0:=hSw.cell 2;go_simp;try with_reducible rfl)
 (try simp only [Act.put,List.setIfInBounds_toArray,List.set_cons_zero,List.set_cons_succ])
 refine' wpAnyH_take (i:=4) (v:=?v5) rfl (by kernel_rfl) (by kernel_rfl) (by kernel_rfl) (fun _ _ _ h=>h) (Or.inl ⟨by rfl,?y5⟩) (by assumption) ?r5
 case y5=>(intro W hSw;(try dsimp only at hSw);go_simp;try with_reducible rfl)
 (try simp only [Act.put,List.setIfInBounds_toArray,List.set_cons_zero,List.set_cons_succ])
 refine' wpAnyH_take (i:=5) (v:=?v6) rfl (by kernel_rfl) (by kernel_rfl) (by kernel_rfl) (fun _ _ _ h=>h) (Or.inl ⟨by rfl,?y6⟩) (by assumption) ?r6
 case y6=>(intro W hSw;(try dsimp only at hSw);have q0:=hSw.cell 3;have q1:=hSw.cell 4;have q2:=hSw.cell 5;have q3:=hSw.cell 6;have q4:=hSw.cell 7;have q5:=hSw.cell 8;have q6:=hSw.cell 9;go_simp;try with_reducible rfl)
 (try simp only [Act.put,List.setIfInBounds_toArray,List.set_cons_zero,List.set_cons_succ])
 refine' wpAnyH_take (i:=6) (v:=?v7) rfl (by kernel_rfl) (by kernel_rfl) (by kernel_rfl) (fun _ _ _ h=>h) (Or.inl ⟨by rfl,?y7⟩) (by assumption) ?r7
 case y7=>(intro W hSw;(try dsimp only at hSw);go_simp;try with_reducible rfl)
 (try simp only [Act.put,List.setIfInBounds_toArray,List.set_cons_zero,List.set_cons_succ])
 refine' wpAnyH_take (i:=7) (v:=?v8) rfl (by kernel_rfl) (by kernel_rfl) (by kernel_rfl) (fun _ _ _ h=>h) (Or.inl ⟨by rfl,?y8⟩) (by assumption) ?r8
 case y8=>(intro W hSw;(try dsimp only at hSw);have q0:=hSw.cell 10;go_simp;try with_reducible rfl)
 (try simp only [Act.put,List.setIfInBounds_toArray,List.set_cons_zero,List.set_cons_succ])
 refine' wpAnyH_take (i:=8) (v:=?v9) rfl (by kernel_rfl) (by kernel_rfl) (by kernel_rfl) (fun _ _ _ h=>h) (Or.inl ⟨by rfl,?y9⟩) (by assumption) ?r9
 case y9=>(intro W hSw;(try dsimp only at hSw);go_simp;try with_reducible rfl)
 (try simp only [Act.put,List.setIfInBounds_toArray,List.set_cons_zero,List.set_cons_succ])
 refine' wpAnyH_take (i:=9) (v:=?v10) rfl (by kernel_rfl) (by kernel_rfl) (by kernel_rfl) (fun _ _ _ h=>h) (Or.inl ⟨by rfl,?y10⟩) (by assumption) ?r10
 case y10=>(intro W hSw;(try dsimp only at hSw);have q0:=hSw.cell 11;go_simp;try with_reducible rfl)
 (try simp only [Act.put,List.setIfInBounds_toArray,List.set_cons_zero,List.set_cons_succ])
 refine' wpAnyH_take (i:=10) (v:=?v11) rfl (by kernel_rfl) (by kernel_rfl) (by kernel_rfl) (fun _ _ _ h=>h) (Or.inl ⟨by rfl,?y11⟩) (by assumption) ?r11
 case y11=>(intro W hSw;(try dsimp only at hSw);go_simp;try with_reducible rfl)
 (try simp only [Act.put,List.setIfInBounds_toArray,List.set_cons_zero,List.set_cons_succ])
 refine' wpAnyH_take (i:=11) (v:=?v12) rfl (by kernel_rfl) (by kernel_rfl) (by kernel_rfl) (fun _ _ _ h=>h) (Or.inl ⟨by rfl,?y12⟩) (by assumption) ?r12
 case y12=>(intro W hSw;(try dsimp only at hSw);have q0:=hSw.cell 12;go_simp;try with_reducible rfl)
 (try simp only [Act.put,List.setIfInBounds_toArray,List.set_cons_zero,List.set_cons_succ])
 refine' wpAnyH_take (i:=12) (v:=?v13) rfl (by kernel_rfl) (by kernel_rfl) (by kernel_rfl) (fun _ _ _ h=>h) (Or.inl ⟨by rfl,?y13⟩) (by assumption) ?r13
 case y13=>(intro W hSw;(try dsimp only at hSw);go_simp;try with_reducible rfl)
 (try simp only [Act.put,List.setIfInBounds_toArray,List.set_cons_zero,List.set_cons_succ])
 refine' wpAnyH_take (i:=13) (v:=?v14) rfl (by kernel_rfl) (by kernel_rfl) (by kernel_rfl) (fun _ _ _ h=>h) (Or.inl ⟨by rfl,?y14⟩) (by assumption) ?r14
 case y14=>(intro W hSw;(try dsimp only at hSw);have q0:=hSw.cell 13;go_simp;try with_reducible rfl)
 (try simp only [Act.put,List.setIfInBounds_toArray,List.set_cons_zero,List.set_cons_succ])
 refine wpAnyH_ready (rs:=[14]) (by kernel_rfl) (by simp) ?_
 refine AllReadyH.cons (i:=14) rfl (fun K hK=>?_) ?_
 ·go_simp
  refine (HCI.out wb.drew (HI.out)).mono ?_
  rintro e w5 ⟨X5,c5,rfl,hc5,hI5,hB5,hX5⟩
  have K2b:Blk w5 (w.heap.size+1) 34 #[.int .u8 1,.int .i64 0,.int .i64 0,.int .i64 0,.int .i64 0,.int .i64 0,.int .i64 0,.bool false,.bool false,.bool false,.bool false,.int .i64 0,.int .i64 0,.bool false,.slice none 0 0,.int .u8 0,.int .i64 0,.int .i64 0,.int .i64 0,.int .i64 0,.int .i64 0,.int .i64 0,.int .i64 0,.int .i64 0,.int .i64 0,.int .i64 0,.int .i64 0,.bool false]:=Blk.below K2.out.drew hB5 K2.out.lt
  have K3b:Blk w5 (w.heap.size+1+1) 28 #[.int .i64 id,.int .i64 us,.int .i64 cl,.int .i64 a,.int .i64 b,.int .i64 c,.bool p,.bool q,.bool r,.bool tn,.int .i64 wa,.int .i64 pr,.bool he,.slice Y af.length cy,.int .u8 st,.int .i64 ca]:=Blk.below K3.out.drew hB5 K3.out.lt
  have H5:=Lib.hid (And.intro K2b (And.intro K3b (And.intro hI5 (And.intro (below_up HB.out.drew hB5) (And.intro (show ∀ b o,X5=some ⟨b,o,none⟩→b≠w.heap.size+1 from fun b o e=>by have h1:=(hX5 b o e).1;have h2:w.heap.size+1 < wb.heap.size:=K2.out.lt;have h3:wb.heap.size≤b:=h1;omega) (show ∀ b o,X5=some ⟨b,o,none⟩→w.heap.size≤b∧b≠w.heap.size+1∧∃ cur,Blk w5 b 3 cur from fun b o e=>by have h1:=(hX5 b o e).1;have h2:w.heap.size+1 < wb.heap.size:=K2.out.lt;have h3:wb.heap.size≤b:=h1;exact ⟨by omega,by omega,(hX5 b o e).2⟩))))))
  clear K2b K3b hI5 hB5 hX5
  (try dsimp only)
  refine hK.out _ _ ?_ (fun hHeld=>?_)
  ·exact H5.out.2.1
  clear hK K
  (try simp only [Act.put,List.setIfInBounds_toArray,List.set_cons_zero,List.set_cons_succ])
  refine wpAnyH_ready (rs:=[15]) (by kernel_rfl) (by simp) ?_
  refine AllReadyH.cons (i:=15) rfl (fun K hK=>?_) ?_
  ·go_simp
   refine hK.out _ _ ?_ (fun hHeld=>?_)
   ·exact H5.out.2.1
   clear hK K
   (try simp only [Act.put,List.setIfInBounds_toArray,List.set_cons_zero,List.set_cons_succ])
   refine' wpAnyH_take (i:=16) (v:=?v15) rfl (by kernel_rfl) (by kernel_rfl) (by kernel_rfl) (fun _ _ _ h=>h) (Or.inl ⟨by rfl,?y15⟩) (by assumption) ?r15
   case y15=>(intro W hSw;(try dsimp only at hSw);go_simp;try with_reducible rfl)
   (try simp only [Act.put,List.setIfInBounds_toArray,List.set_cons_zero,List.set_cons_succ])
   refine wpAnyH_ready (rs:=[17]) (by kernel_rfl) (by simp) ?_
   refine AllReadyH.cons (i:=17) rfl (fun K hK=>?_) ?_
   ·rw [if_pos (by rfl)]
    refine wp_store_mid _ _ _ rfl (w.heap.size+1) 1 (List.toArray [.int .i64 0,.int .i64 us,.int .i64 cl,.int .i64 a,.int .i64 b,.int .i64 c,.bool p,.bool q,.bool r,.bool tn,.int .i64 wa,.int .i64 pr,.bool he,.slice X5 af.length c5,.int .u8 0,.int .i64 0]) rfl rfl (there_of H5.out.1 (Nat.le_of_ble_eq_true rfl)) (by kernel_rfl) (by kernel_rfl) ?_
    refine hK.out _ _ ?_ (fun hHeld=>?_)
    ·exact blk_sets_far (by omega) H5.out.2.1
    clear hK K
    (try simp only [Act.put,List.setIfInBounds_toArray,List.set_cons_zero,List.set_cons_succ])
    refine wpAnyH_done (by kernel_rfl) ?_ _
    have K6:Blk (World.setCells w5 (w.heap.size+1) 1 [.int .i64 0,.int .i64 us,.int .i64 cl,.int .i64 a,.int .i64 b,.int .i64 c,.bool p,.bool q,.bool r,.bool tn,.int .i64 wa,.int .i64 pr,.bool he,.slice X5 af.length c5,.int .u8 0,.int .i64 0]) (w.heap.size+1) 34 #[.int .u8 1,.int .i64 0,.int .i64 us,.int .i64 cl,.int .i64 a,.int .i64 b,.int .i64 c,.bool p,.bool q,.bool r,.bool tn,.int .i64 wa,.int .i64 pr,.bool he,.slice X5 af.length c5,.int .u8 0,.int .i64 0,.int .i64 0,.int .i64 0,.int .i64 0,.int .i64 0,.int .i64 0,.int .i64 0,.int .i64 0,.int .i64 0,.int .i64 0,.int .i64 0,.bool false]:=by
     have:=blk_setA (i:=1) (vs:=[.int .i64 0,.int .i64 us,.int .i64 cl,.int .i64 a,.int .i64 b,.int .i64 c,.bool p,.bool q,.bool r,.bool tn,.int .i64 wa,.int .i64 pr,.bool he,.slice X5 af.length c5,.int .u8 0,.int .i64 0]) H5.out.1
     rw [set_job] at this
     exact this
    have B6:=below_sets (B:=w.heap.size) (g:=w.heap.size+1) (by omega) (vs:=[.int .i64 0,.int .i64 us,.int .i64 cl,.int .i64 a,.int .i64 b,.int .i64 c,.bool p,.bool q,.bool r,.bool tn,.int .i64 wa,.int .i64 pr,.bool he,.slice X5 af.length c5,.int .u8 0,.int .i64 0]) (i:=1) H5.out.2.2.2.1
    have I6:IntsAt (World.setCells w5 (w.heap.size+1) 1 [.int .i64 0,.int .i64 us,.int .i64 cl,.int .i64 a,.int .i64 b,.int .i64 c,.bool p,.bool q,.bool r,.bool tn,.int .i64 wa,.int .i64 pr,.bool he,.slice X5 af.length c5,.int .u8 0,.int .i64 0]) X5 af:=ints_sets H5.out.2.2.1 H5.out.1 (fun b o e=>H5.out.2.2.2.2.1 b o e)
    have e9:own ⟨1,id,us,cl,a,b,c,p,q,r,tn,wa,pr,he,af,st,ca,ci,b0,b1,b2,b3,b4,b5,fr,tt,n,we⟩=⟨1,0,us,cl,a,b,c,p,q,r,tn,wa,pr,he,af,0,0,0,0,0,0,0,0,0,0,0,0,false⟩:=rfl
    have H6:=Lib.hid (And.intro K6 (And.intro B6 (And.intro I6 H5.out.2.2.2.2.2)))
    clear K6 B6 I6 H5
    go_wp2_with fail
    exact bodyPost_ret (v:=.agg #[.int .u8 1,.int .i64 0,.int .i64 us,.int .i64 cl,.int .i64 a,.int .i64 b,.int .i64 c,.bool p,.bool q,.bool r,.bool tn,.int .i64 wa,.int .i64 pr,.bool he,.slice X5 af.length c5,.int .u8 0,.int .i64 0,.int .i64 0,.int .i64 0,.int .i64 0,.int .i64 0,.int .i64 0,.int .i64 0,.int .i64 0,.int .i64 0,.int .i64 0,.int .i64 0,.bool false]) (results_cell_row rfl _ _ (w.heap.size+1) 34 #[.int .u8 1,.int .i64 0,.int .i64 us,.int .i64 cl,.int .i64 a,.int .i64 b,.int .i64 c,.bool p,.bool q,.bool r,.bool tn,.int .i64 wa,.int .i64 pr,.bool he,.slice X5 af.length c5,.int .u8 0,.int .i64 0,.int .i64 0,.int .i64 0,.int .i64 0,.int .i64 0,.int .i64 0,.int .i64 0,.int .i64 0,.int .i64 0,.int .i64 0,.int .i64 0,.bool false] (0,0) _ rfl H6.out.1 Try.underlying34 rfl (by kernel_rfl)) rfl ⟨X5,c5,(by rw [e9]),(by rw [e9];exact hc5),(by rw [e9];exact H6.out.2.2.1),H6.out.2.1,(fun b o e=>(H6.out.2.2.2 b o e).1),(fun _ b o e=>by obtain ⟨_,h2,cur,h3⟩:=H6.out.2.2.2 b o e;exact ⟨cur,blk_sets_far h2 h3⟩)⟩
   exact AllReadyH.nil
  exact AllReadyH.nil
 exact AllReadyH.nil
end Go.Proofs.Ytfdldbfjeamlcaa.RecCmdJ
