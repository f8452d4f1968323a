/- Several texts joined: Frames of records, in plain Lean. No conditions but those named. -/
import Derived.Test.YtfdldbfjeamlcaaPU23
import Derived.Test.YtfdldbfjeamlcaaPU22
import Derived.BigQuiet
import Derived.Deep.QuietTactic
import Derived.Deep.MidRow
import Derived.Deep.DeepCutAuto
import Derived.Lib.QuietBelow
import Derived.Lib.SliceRun
import Derived.Test.YtfdldbfjeamlcaaPG10
import Derived.Test.YtfdldbfjeamlcaaPG15
import Derived.Test.YtfdldbfjeamlcaaPG16
set_option linter.unusedVariables false
set_option linter.unusedSimpArgs false
namespace Go.Proofs.Ytfdldbfjeamlcaa.LogPlain
open Go Go.RowKit MarkMath Mem RecMem RecByte RecNum RecMath RecCod RecVal RecSame RecWr0 RecRecC RecRead RecAll LogFour LogJoin LogWrap LogFrm
end Go.Proofs.Ytfdldbfjeamlcaa.LogPlain
namespace Go.Proofs.Ytfdldbfjeamlcaa.LogCutP
open Go Go.RowKit MarkMath Mem RecMem RecByte RecNum RecMath RecCod RecVal RecSame RecWr0 RecRecC RecRead RecAll LogFour LogJoin LogWrap LogFrm LogPlain
theorem fr_facts {t:Bs} (ho:Oct t):∀ (f k:Nat),∀ p ∈ fr t f k,RFacts p.2
 | 0,k,p,hp=>by simp [fr] at hp
 | f+1,k,p,hp=>by
  by_cases t8:t.length < k+8
  ·rw [fr_end t8] at hp;simp at hp
  by_cases tb:65536 < num4 (t.drop k)
  ·rw [fr_big t8 tb] at hp;simp at hp;subst hp;exact z_facts
  by_cases tc:(t.length:Int) < (k:Int)+8+num4 (t.drop k)
  ·rw [fr_cut t8 tb tc] at hp;simp at hp
  by_cases tk:frOk t k
  ·rw [fr_ok t8 tb tc tk] at hp
   rcases List.mem_cons.1 hp with rfl | hp
   ·exact readV_facts _ (Oct.take (Oct.drop ho _) _)
   ·exact fr_facts ho f _ p hp
  ·rw [fr_bad t8 tb tc tk] at hp;simp at hp;subst hp;exact z_facts
abbrev frs (t:Bs):List (Int × RV):=fr t (t.length+1) 0
def endV (l:List (Int × RV)):Int:=(l.getLast?.map (·.1)).getD 0
abbrev Whole (t:Bs):Prop:=∀ p ∈ frs t,¬ p.1 < 0
end Go.Proofs.Ytfdldbfjeamlcaa.LogCutP
namespace Go.Proofs.Ytfdldbfjeamlcaa.LogRows
open Go.RowKit Mem RecMem RecByte RecNum RecMath RecVal RecRd RecRL0 RecRRec RecRead RecAt RecAll LogFrm
def rRep (w:World) (r:RV) (cs:List Value):Prop:=∃ x Y cy,cs=rL r x Y cy∧RIs w r x Y cy
theorem rStays:Stays rRep:=fun _ _ _ _ h hB=>by
 obtain ⟨x,Y,cy,e,h⟩:=h
 exact ⟨x,Y,cy,e,h.up hB⟩
abbrev RsAt:=SlcAt 45 rRep
theorem rs_of {w:World} {F:Nat} {l:List RV} {vs:List Value} (h:recsR.At w F l vs):∃ V c,vs=[.slice V l.length c]∧l.length≤c∧c≤maxLen∧RsAt w V l:=slc_of_list rRep (fun r cs h=>by
 obtain ⟨x,Y,cy,rfl,h1,h2,_,h3⟩:=rec_at h
 exact ⟨x,Y,cy,rfl,⟨h1,h3,h2⟩⟩) h
theorem SlcAt.take {α:Type} {n:Nat} {rep:World→α→List Value→Prop} {w:World} {X:Option Addr} {l:List α} (h:SlcAt n rep w X l) (m:Nat):SlcAt n rep w X (l.take m):=fun i x hi=>by
 rw [List.getElem?_take] at hi
 split at hi
 ·exact h i x hi
 ·cases hi
end Go.Proofs.Ytfdldbfjeamlcaa.LogRows
namespace Go.Proofs.Ytfdldbfjeamlcaa.LogSameA
set_option maxRecDepth 100000
set_option maxHeartbeats 4000000
open Go.Sort Go.RowKit QuietRow RecGuard Mem RecMem RecByte RecNum RecMath RecCommand RecEq RecEqA RecVal RecSame RecSameA RecF1 RecF4 RecRd RecRL0 RecRRec RecRead RecAt RecAll LogFrm LogRows
theorem rsameR {w:World} {r o:RV} {cs ds:List Value} (h:rRep w r cs) (k:rRep w o ds) (hF:RFacts r) (kF:RFacts o) :
    Calls Try.prog 23 #[.agg cs.toArray,.agg ds.toArray] w fun e w' => e = .returned (.bool (decide (r=o)))∧Below w.heap.size w w':=by
 obtain ⟨x,Y,cy,rfl,h⟩:=h
 obtain ⟨y,Z,cz,rfl,k⟩:=k
 exact rsame28 r o x y Y Z cy cz hF.hs kF.hs hF.hc kF.hc hF.ht kF.ht w h.st k.st h.af k.af
theorem rsameAll (X Y:Option Addr) (c d:Nat) (l m:List RV) (hl:l.length≤9223372036854775807) (hm:m.length≤9223372036854775807) (hfl:∀ r ∈ l,RFacts r) (hfm:∀ r ∈ m,RFacts r) (w:World) (hX:RsAt w X l) (hY:RsAt w Y m) :
    Calls Try.prog 41 #[.slice X l.length c,.slice Y m.length d] w fun e w' => e = .returned (.bool (decide (l=m)))∧Below w.heap.size w w':=by
 obtain ⟨V,hV⟩:∃ V,V=decide (l=m):=⟨_,rfl⟩
 rw [← hV]
 have HV:=Lib.hid hV
 have HX:=Lib.hid hX
 have HY:=Lib.hid hY
 have HF:=Lib.hid (And.intro hfl hfm)
 clear hV hX hY hfl hfm
 by_cases hn:l.length=m.length
 ·have hn':((l.length:Int) != (m.length:Int))=false:=by simp [hn]
  have HN:=Lib.hid hn
  have hle:(l.length:Int)≤(m.length:Int):=by omega
  clear hn
  go_enter Try.func41,Try.ntmps41
  go_wp2_with fail
  go_loopw [5] (fun i wr=>∃ k:Nat,k≤l.length∧i = .int .i64 k∧Hid (∀ (j:Nat) (x y:RV),j < k→l[j]? = some x→m[j]? = some y→x=y)∧Hid (Below w.heap.size w wr))
   (fun i _=>l.length - (intOf i).toNat)
  case atStart=>exact ⟨0,Nat.zero_le _,rfl,(fun j x y h=>by omega),Below.refl _ _⟩
  case round =>
   obtain ⟨k,hk,rfl,hP,hB⟩:=hrel
   by_cases hlt:k < l.length
   ·have hg:l[k]? = some l[k]:=List.getElem?_eq_getElem hlt
    generalize l[k]=u at hg
    have hkm:k < m.length:=by have:=HN.out;omega
    have hg2:m[k]? = some m[k]:=List.getElem?_eq_getElem hkm
    generalize m[k]=v at hg2
    have hki:(k:Int) < (l.length:Int):=by omega
    have hki2:(k:Int) < (m.length:Int):=by omega
    have hki0:(0:Int)≤(k:Int):=by omega
    obtain ⟨b,o,cs1,rfl,hb,hc1,r1,e1⟩:=SlcAt.up rStays HX.out hB.out k u hg
    obtain ⟨b',o',cs2,rfl,hb',hc2,r2,e2⟩:=SlcAt.up rStays HY.out hB.out k v hg2
    have HJ0:=Lib.hid (fun (W:World) (hW:Below wr.heap.size wr W)=>rsameR (rStays _ _ _ _ e1 hW) (rStays _ _ _ _ e2 hW) (HF.out.1 u (List.mem_of_getElem? hg)) (HF.out.2 v (List.mem_of_getElem? hg2)))
    have HR:=Lib.hid (And.intro r1 r2)
    have HG:=Lib.hid (And.intro hg hg2)
    have hz1:(Try.prog.info? 51).map (·.size)=some cs1.length:=by rw [hc1];kernel_rfl
    have hz2:(Try.prog.info? 51).map (·.size)=some cs2.length:=by rw [hc2];kernel_rfl
    clear hg hg2 r1 r2 hb hb' hc1 hc2 e1 e2
    cases he:decide (u=v)
    ·have HJ:=Lib.hid (fun W hW=>by have:=HJ0.out W hW;rw [he] at this;exact this)
     have hne:l≠m:=list_ne HG.out.1 HG.out.2 (of_decide_eq_false he)
     have EV:=Lib.hid (show V=false by rw [HV.out];exact decide_eq_false hne)
     clear he hne HJ0
     go_wp2_with fail
     refine wp_region_quiet_below (by kernel_rfl) (by kernel_rfl) ?_
     repeat (first | (refine quiet_load_mid (by rfl) 51 _ rfl _ _ rfl _ HR.out.1 _ Try.underlying51 rfl hz1 ?_;simp only [Act.put,List.setIfInBounds_toArray,List.set_cons_zero,List.set_cons_succ]) | (refine quiet_load_mid (by rfl) 51 _ rfl _ _ rfl _ HR.out.2 _ Try.underlying51 rfl hz2 ?_;simp only [Act.put,List.setIfInBounds_toArray,List.set_cons_zero,List.set_cons_succ]) | go_big_quiet_step (first | fail | exact Calls.regrown_of (HJ.out _ (below_regrown _ _ _))))
     refine wpQuiet_nil ?_
     intro _ hw'
     obtain ⟨⟨dq,osq⟩,hw''⟩:=hw'
     subst hw''
     have hBq:=below_regrown wr dq osq
     generalize grow (redrawn wr dq) osq=wq at *
     go_wp2_with fail
     go_ret
     rw [EV.out]
     exact ⟨rfl,below_up hB.out hBq⟩
    ·have HJ:=Lib.hid (fun W hW=>by have:=HJ0.out W hW;rw [he] at this;exact this)
     have HE:=Lib.hid (of_decide_eq_true he)
     clear he HJ0
     go_wp2_with fail
     refine wp_region_quiet_below (by kernel_rfl) (by kernel_rfl) ?_
     repeat (first | (refine quiet_load_mid (by rfl) 51 _ rfl _ _ rfl _ HR.out.1 _ Try.underlying51 rfl hz1 ?_;simp only [Act.put,List.setIfInBounds_toArray,List.set_cons_zero,List.set_cons_succ]) | (refine quiet_load_mid (by rfl) 51 _ rfl _ _ rfl _ HR.out.2 _ Try.underlying51 rfl hz2 ?_;simp only [Act.put,List.setIfInBounds_toArray,List.set_cons_zero,List.set_cons_succ]) | go_big_quiet_step (first | fail | exact Calls.regrown_of (HJ.out _ (below_regrown _ _ _))))
     refine wpQuiet_nil ?_
     intro _ hw'
     obtain ⟨⟨dq,osq⟩,hw''⟩:=hw'
     subst hw''
     have hBq:=below_regrown wr dq osq
     generalize grow (redrawn wr dq) osq=wq at *
     go_wp2_with fail
     go_roundw
     case rel=>exact ⟨k+1,by omega,by go_num,(fun j a b hj hu hv=>by
         rcases Nat.lt_or_ge j k with h | h
         ·exact hP.out j a b h hu hv
         ·obtain rfl:j=k:=by omega
          rw [HG.out.1] at hu;rw [HG.out.2] at hv;cases hu;cases hv;exact HE.out),below_up hB.out hBq⟩
     case measure=>simp [intOf];omega
   ·obtain rfl:k=l.length:=by omega
    have ev:V=true:=by rw [HV.out];exact decide_eq_true (list_eq HN.out hP.out)
    have EV:=Lib.hid ev
    clear ev
    go_wp2_with fail
    go_ret
    rw [EV.out]
    exact ⟨rfl,hB.out⟩
 ·have hn':((l.length:Int) != (m.length:Int))=true:=by simp;omega
  have ev:V=false:=by rw [HV.out];exact decide_eq_false fun e=>hn (by rw [e])
  have EV:=Lib.hid ev
  clear hn ev
  go_enter Try.func41,Try.ntmps41
  go_wp2_with fail
  go_ret
  rw [EV.out]
  exact ⟨rfl,Below.refl _ _⟩
end Go.Proofs.Ytfdldbfjeamlcaa.LogSameA
namespace Go.Proofs.Ytfdldbfjeamlcaa.LogAllW
open Go Go.RowKit MarkMath Mem RecMem RecByte RecNum RecMath RecCod RecVal RecSame RecWr0 RecRecC RecRead RecAt RecAll LogFour LogJoin LogWrap LogFrm LogAllV LogPlain LogCutP LogRows LogSameA
def rows (t:Bs):List RV:=(frs t).map (·.2)
theorem rows_len (t:Bs):(rows t).length=(frs t).length:=by simp [rows]
theorem rows_facts {t:Bs} (ho:Oct t):∀ r ∈ rows t,RFacts r:=fun r hr=>by
 obtain ⟨p,hp,rfl⟩:=List.mem_map.1 hr
 exact fr_facts ho _ _ p hp
theorem rows_small {t:Bs} : (rows t).length≤t.length+1:=by rw [rows_len];exact fr_len t _ _
theorem rsame_w (X Y:Option Addr) (n k c d:Nat) (l m:List RV) (hn:n=l.length) (hk:k=m.length) (e:l=m) (hl:n≤9223372036854775807) (hf:∀ r ∈ l,RFacts r) (w:World) (hX:RsAt w X l) (hY:RsAt w Y m) :
    Calls Try.prog 41 #[.slice X n c,.slice Y k d] w fun e w' => e = .returned (.bool true)∧Below w.heap.size w w':=by
 subst e hn hk
 have:=rsameAll X Y c d l l hl hl hf hf w hX hY
 simpa using this
end Go.Proofs.Ytfdldbfjeamlcaa.LogAllW
namespace Go.Proofs.Ytfdldbfjeamlcaa.LogCatP
open Go Go.RowKit MarkMath Mem RecMem RecByte RecNum RecMath RecCod RecVal RecSame RecWr0 RecRecC RecRead RecAll LogFour LogJoin LogWrap LogFrm LogPlain
end Go.Proofs.Ytfdldbfjeamlcaa.LogCatP
namespace Go.Proofs.Ytfdldbfjeamlcaa.LogList
open Go Go.RowKit MarkMath Mem RecMem RecByte RecNum RecMath RecCod RecVal RecSame RecRd RecRecC RecRead RecAt RecAll RecGreat LogFour LogJoin LogWrap LogFrm LogRows LogCatP
theorem rgreatR {w:World} {r:RV} {cs:List Value} (h:rRep w r cs) (F:RFacts r):Calls Try.prog 20 #[.agg cs.toArray] w fun e w' => (∃ B,e = .returned (.bool B))∧Below w.heap.size w w':=by
 obtain ⟨x,Y,cy,rfl,h⟩:=h
 exact (rgreat28 r x Y cy F.ht w h.st).mono fun e w' k=>k
theorem own_len {w:World} {B:Nat} {Y:Option Addr} {n c:Nat} {t:Bs} (h:w.ownsRow B 5 1 (.slice Y n c) n (t.map (Value.int .u8))):n=t.length:=by
 have:=h.1
 simp at this
 omega
end Go.Proofs.Ytfdldbfjeamlcaa.LogList
