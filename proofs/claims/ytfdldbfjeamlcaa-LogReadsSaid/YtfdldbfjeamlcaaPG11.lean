/- Several texts joined: slices.Equal of partitions and keeps. -/
import Derived.BigQuiet
import Derived.Deep.QuietTactic
import Derived.Lib.QuietBelow
import Derived.Test.YtfdldbfjeamlcaaPG10
import Derived.Deep.DeepCutAuto
import Derived.Test.YtfdldbfjeamlcaaPG4
set_option linter.unusedVariables false
set_option linter.unusedSimpArgs false
namespace Go.Proofs.Ytfdldbfjeamlcaa.RecEqual2
set_option maxRecDepth 100000
set_option maxHeartbeats 1000000
open Go.Sort Go.RowKit Mem RecMath RecCommand RecVal RecEq RecKeys QuietRow
theorem equalP (X Y:Option Addr) (c d:Nat) (l m:List PV) (hl:l.length≤9223372036854775807) (hm:m.length≤9223372036854775807) (hwl:∀ x ∈ l,PWf x) (hwm:∀ x ∈ m,PWf x) (w:World) (hX:SlcAt 13 pRep w X l) (hY:SlcAt 13 pRep w Y m) :
    Calls Try.prog 48 #[.slice X l.length c,.slice Y m.length d] w fun e w' => e = .returned (.bool (decide (l=m)))∧Below w.heap.size w w':=by
 obtain ⟨V,hV⟩:∃ V,V=decide (l=m):=⟨_,rfl⟩
 rw [← hV]
 have HV:=Lib.hid hV
 have HX:=Lib.hid (And.intro hX hwl)
 have HY:=Lib.hid (And.intro hY hwm)
 clear hV hX hY hwl hwm
 by_cases hn:l.length=m.length
 ·have hn':((l.length:Int) != (m.length:Int))=false:=by simp [hn]
  have HN:=Lib.hid hn
  have hle:(l.length:Int)≤(m.length:Int):=by omega
  clear hn
  go_enter Try.func48,Try.ntmps48
  go_wp2_with fail
  go_loopw [13] (fun i wr=>∃ k:Nat,k≤l.length∧i = .int .i64 k∧Hid (∀ (j:Nat) (x y:PV),j < k→l[j]? = some x→m[j]? = some y→x=y)∧Hid (Below w.heap.size w wr))
   (fun i _=>l.length - (intOf i).toNat)
  case atStart=>exact ⟨0,Nat.zero_le _,rfl,(fun j x y h=>by omega),Below.refl _ _⟩
  case round =>
   obtain ⟨k,hk,rfl,hP,hB⟩:=hrel
   by_cases hlt:k < l.length
   ·have hg:l[k]? = some l[k]:=List.getElem?_eq_getElem hlt
    generalize l[k]=x at hg
    have hkm:k < m.length:=by have:=HN.out;omega
    have hg2:m[k]? = some m[k]:=List.getElem?_eq_getElem hkm
    generalize m[k]=y at hg2
    have hki:(k:Int) < (l.length:Int):=by omega
    have hki2:(k:Int) < (m.length:Int):=by omega
    have hki0:(0:Int)≤(k:Int):=by omega
    obtain ⟨b,o,cs1,rfl,hb,_,r1,e1⟩:=SlcAt.up pStays HX.out.1 hB.out k x hg
    obtain ⟨b',o',cs2,rfl,hb',_,r2,e2⟩:=SlcAt.up pStays HY.out.1 hB.out k y hg2
    obtain rfl:cs1=pL x:=e1
    obtain rfl:cs2=pL y:=e2
    have hq:=fun W:World=>eq_part (HX.out.2 x (List.mem_of_getElem? hg)) (HY.out.2 y (List.mem_of_getElem? hg2)) W
    have HR:=Lib.hid (And.intro r1 r2)
    have HG:=Lib.hid (And.intro hg hg2)
    clear hg hg2 r1 r2 hb hb'
    cases he:decide (x=y)
    ·simp only [he] at hq
     have ev:V=false:=by rw [HV.out];exact decide_eq_false (list_ne HG.out.1 HG.out.2 (of_decide_eq_false he))
     have EV:=Lib.hid ev
     clear he ev
     go_wp2_with fail
     refine wp_region_quiet_below (by kernel_rfl) (by kernel_rfl) ?_
     repeat (first | (refine quiet_load_mid (by rfl) 109 _ rfl _ _ rfl _ HR.out.1 _ Try.underlying109 rfl (by kernel_rfl) ?_;simp only [Act.put,List.setIfInBounds_toArray,List.set_cons_zero,List.set_cons_succ]) | (refine quiet_load_mid (by rfl) 109 _ rfl _ _ rfl _ HR.out.2 _ Try.underlying109 rfl (by kernel_rfl) ?_;simp only [Act.put,List.setIfInBounds_toArray,List.set_cons_zero,List.set_cons_succ]) | go_big_quiet_step (first | fail))
     refine wpQuiet_nil ?_
     intro _ hw'
     obtain ⟨⟨dq,osq⟩,hw''⟩:=hw'
     subst hw''
     have hBq:=below_regrown wr dq osq
     generalize grow (redrawn wr dq) osq=wq at *
     go_wp2_with fail
     go_ret
     rw [EV.out]
     exact ⟨rfl,below_up hB.out hBq⟩
    ·simp only [he] at hq
     have HE:=Lib.hid (of_decide_eq_true he)
     clear he
     go_wp2_with fail
     refine wp_region_quiet_below (by kernel_rfl) (by kernel_rfl) ?_
     repeat (first | (refine quiet_load_mid (by rfl) 109 _ rfl _ _ rfl _ HR.out.1 _ Try.underlying109 rfl (by kernel_rfl) ?_;simp only [Act.put,List.setIfInBounds_toArray,List.set_cons_zero,List.set_cons_succ]) | (refine quiet_load_mid (by rfl) 109 _ rfl _ _ rfl _ HR.out.2 _ Try.underlying109 rfl (by kernel_rfl) ?_;simp only [Act.put,List.setIfInBounds_toArray,List.set_cons_zero,List.set_cons_succ]) | go_big_quiet_step (first | fail))
     refine wpQuiet_nil ?_
     intro _ hw'
     obtain ⟨⟨dq,osq⟩,hw''⟩:=hw'
     subst hw''
     have hBq:=below_regrown wr dq osq
     generalize grow (redrawn wr dq) osq=wq at *
     go_wp2_with fail
     go_roundw
     case rel=>exact ⟨k+1,by omega,by go_num,(fun j u v hj hu hv=>by
         rcases Nat.lt_or_ge j k with h | h
         ·exact hP.out j u v h hu hv
         ·obtain rfl:j=k:=by omega
          rw [HG.out.1] at hu;rw [HG.out.2] at hv;cases hu;cases hv;exact HE.out),below_up hB.out hBq⟩
     case measure=>simp [intOf];omega
   ·obtain rfl:k=l.length:=by omega
    have ev:V=true:=by rw [HV.out];exact decide_eq_true (list_eq HN.out hP.out)
    have EV:=Lib.hid ev
    clear ev
    go_wp2_with fail
    go_ret
    rw [EV.out]
    exact ⟨rfl,hB.out⟩
 ·have hn':((l.length:Int) != (m.length:Int))=true:=by simp;omega
  have ev:V=false:=by rw [HV.out];exact decide_eq_false fun e=>hn (by rw [e])
  have EV:=Lib.hid ev
  clear hn ev
  go_enter Try.func48,Try.ntmps48
  go_wp2_with fail
  go_ret
  rw [EV.out]
  exact ⟨rfl,Below.refl _ _⟩
theorem equalE (X Y:Option Addr) (c d:Nat) (l m:List EV) (hl:l.length≤9223372036854775807) (hm:m.length≤9223372036854775807) (hwl:∀ x ∈ l,EWf x) (hwm:∀ x ∈ m,EWf x) (w:World) (hX:SlcAt 9 eRep w X l) (hY:SlcAt 9 eRep w Y m) :
    Calls Try.prog 49 #[.slice X l.length c,.slice Y m.length d] w fun e w' => e = .returned (.bool (decide (l=m)))∧Below w.heap.size w w':=by
 obtain ⟨V,hV⟩:∃ V,V=decide (l=m):=⟨_,rfl⟩
 rw [← hV]
 have HV:=Lib.hid hV
 have HX:=Lib.hid (And.intro hX hwl)
 have HY:=Lib.hid (And.intro hY hwm)
 clear hV hX hY hwl hwm
 by_cases hn:l.length=m.length
 ·have hn':((l.length:Int) != (m.length:Int))=false:=by simp [hn]
  have HN:=Lib.hid hn
  have hle:(l.length:Int)≤(m.length:Int):=by omega
  clear hn
  go_enter Try.func49,Try.ntmps49
  go_wp2_with fail
  go_loopw [13] (fun i wr=>∃ k:Nat,k≤l.length∧i = .int .i64 k∧Hid (∀ (j:Nat) (x y:EV),j < k→l[j]? = some x→m[j]? = some y→x=y)∧Hid (Below w.heap.size w wr))
   (fun i _=>l.length - (intOf i).toNat)
  case atStart=>exact ⟨0,Nat.zero_le _,rfl,(fun j x y h=>by omega),Below.refl _ _⟩
  case round =>
   obtain ⟨k,hk,rfl,hP,hB⟩:=hrel
   by_cases hlt:k < l.length
   ·have hg:l[k]? = some l[k]:=List.getElem?_eq_getElem hlt
    generalize l[k]=x at hg
    have hkm:k < m.length:=by have:=HN.out;omega
    have hg2:m[k]? = some m[k]:=List.getElem?_eq_getElem hkm
    generalize m[k]=y at hg2
    have hki:(k:Int) < (l.length:Int):=by omega
    have hki2:(k:Int) < (m.length:Int):=by omega
    have hki0:(0:Int)≤(k:Int):=by omega
    obtain ⟨b,o,cs1,rfl,hb,_,r1,e1⟩:=SlcAt.up eStays HX.out.1 hB.out k x hg
    obtain ⟨b',o',cs2,rfl,hb',_,r2,e2⟩:=SlcAt.up eStays HY.out.1 hB.out k y hg2
    obtain rfl:cs1=eL x:=e1
    obtain rfl:cs2=eL y:=e2
    have hq:=fun W:World=>eq_keep (HX.out.2 x (List.mem_of_getElem? hg)) (HY.out.2 y (List.mem_of_getElem? hg2)) W
    have HR:=Lib.hid (And.intro r1 r2)
    have HG:=Lib.hid (And.intro hg hg2)
    clear hg hg2 r1 r2 hb hb'
    cases he:decide (x=y)
    ·simp only [he] at hq
     have ev:V=false:=by rw [HV.out];exact decide_eq_false (list_ne HG.out.1 HG.out.2 (of_decide_eq_false he))
     have EV:=Lib.hid ev
     clear he ev
     go_wp2_with fail
     refine wp_region_quiet_below (by kernel_rfl) (by kernel_rfl) ?_
     repeat (first | (refine quiet_load_mid (by rfl) 112 _ rfl _ _ rfl _ HR.out.1 _ Try.underlying112 rfl (by kernel_rfl) ?_;simp only [Act.put,List.setIfInBounds_toArray,List.set_cons_zero,List.set_cons_succ]) | (refine quiet_load_mid (by rfl) 112 _ rfl _ _ rfl _ HR.out.2 _ Try.underlying112 rfl (by kernel_rfl) ?_;simp only [Act.put,List.setIfInBounds_toArray,List.set_cons_zero,List.set_cons_succ]) | go_big_quiet_step (first | fail))
     refine wpQuiet_nil ?_
     intro _ hw'
     obtain ⟨⟨dq,osq⟩,hw''⟩:=hw'
     subst hw''
     have hBq:=below_regrown wr dq osq
     generalize grow (redrawn wr dq) osq=wq at *
     go_wp2_with fail
     go_ret
     rw [EV.out]
     exact ⟨rfl,below_up hB.out hBq⟩
    ·simp only [he] at hq
     have HE:=Lib.hid (of_decide_eq_true he)
     clear he
     go_wp2_with fail
     refine wp_region_quiet_below (by kernel_rfl) (by kernel_rfl) ?_
     repeat (first | (refine quiet_load_mid (by rfl) 112 _ rfl _ _ rfl _ HR.out.1 _ Try.underlying112 rfl (by kernel_rfl) ?_;simp only [Act.put,List.setIfInBounds_toArray,List.set_cons_zero,List.set_cons_succ]) | (refine quiet_load_mid (by rfl) 112 _ rfl _ _ rfl _ HR.out.2 _ Try.underlying112 rfl (by kernel_rfl) ?_;simp only [Act.put,List.setIfInBounds_toArray,List.set_cons_zero,List.set_cons_succ]) | go_big_quiet_step (first | fail))
     refine wpQuiet_nil ?_
     intro _ hw'
     obtain ⟨⟨dq,osq⟩,hw''⟩:=hw'
     subst hw''
     have hBq:=below_regrown wr dq osq
     generalize grow (redrawn wr dq) osq=wq at *
     go_wp2_with fail
     go_roundw
     case rel=>exact ⟨k+1,by omega,by go_num,(fun j u v hj hu hv=>by
         rcases Nat.lt_or_ge j k with h | h
         ·exact hP.out j u v h hu hv
         ·obtain rfl:j=k:=by omega
          rw [HG.out.1] at hu;rw [HG.out.2] at hv;cases hu;cases hv;exact HE.out),below_up hB.out hBq⟩
     case measure=>simp [intOf];omega
   ·obtain rfl:k=l.length:=by omega
    have ev:V=true:=by rw [HV.out];exact decide_eq_true (list_eq HN.out hP.out)
    have EV:=Lib.hid ev
    clear ev
    go_wp2_with fail
    go_ret
    rw [EV.out]
    exact ⟨rfl,hB.out⟩
 ·have hn':((l.length:Int) != (m.length:Int))=true:=by simp;omega
  have ev:V=false:=by rw [HV.out];exact decide_eq_false fun e=>hn (by rw [e])
  have EV:=Lib.hid ev
  clear hn ev
  go_enter Try.func49,Try.ntmps49
  go_wp2_with fail
  go_ret
  rw [EV.out]
  exact ⟨rfl,Below.refl _ _⟩
end Go.Proofs.Ytfdldbfjeamlcaa.RecEqual2
namespace Go.Proofs.Ytfdldbfjeamlcaa.RecEqual
set_option maxRecDepth 100000
set_option maxHeartbeats 1000000
open Go.Sort Go.RowKit Mem RecMath RecCommand RecVal RecEq RecKeys QuietRow
theorem equalK (X Y:Option Addr) (c d:Nat) (l m:List KV) (hl:l.length≤9223372036854775807) (hm:m.length≤9223372036854775807) (hwl:∀ x ∈ l,KWf x) (hwm:∀ x ∈ m,KWf x) (w:World) (hX:SlcAt 4 kRep w X l) (hY:SlcAt 4 kRep w Y m) :
    Calls Try.prog 77 #[.slice X l.length c,.slice Y m.length d] w fun e w' => e = .returned (.bool (decide (l=m)))∧Below w.heap.size w w':=by
 obtain ⟨V,hV⟩:∃ V,V=decide (l=m):=⟨_,rfl⟩
 rw [← hV]
 have HV:=Lib.hid hV
 have HX:=Lib.hid (And.intro hX hwl)
 have HY:=Lib.hid (And.intro hY hwm)
 clear hV hX hY hwl hwm
 by_cases hn:l.length=m.length
 ·have hn':((l.length:Int) != (m.length:Int))=false:=by simp [hn]
  have HN:=Lib.hid hn
  have hle:(l.length:Int)≤(m.length:Int):=by omega
  clear hn
  go_enter Try.func77,Try.ntmps77
  go_wp2_with fail
  go_loopw [13] (fun i wr=>∃ k:Nat,k≤l.length∧i = .int .i64 k∧Hid (∀ (j:Nat) (x y:KV),j < k→l[j]? = some x→m[j]? = some y→x=y)∧Hid (Below w.heap.size w wr))
   (fun i _=>l.length - (intOf i).toNat)
  case atStart=>exact ⟨0,Nat.zero_le _,rfl,(fun j x y h=>by omega),Below.refl _ _⟩
  case round =>
   obtain ⟨k,hk,rfl,hP,hB⟩:=hrel
   by_cases hlt:k < l.length
   ·have hg:l[k]? = some l[k]:=List.getElem?_eq_getElem hlt
    generalize l[k]=x at hg
    have hkm:k < m.length:=by have:=HN.out;omega
    have hg2:m[k]? = some m[k]:=List.getElem?_eq_getElem hkm
    generalize m[k]=y at hg2
    have hki:(k:Int) < (l.length:Int):=by omega
    have hki2:(k:Int) < (m.length:Int):=by omega
    have hki0:(0:Int)≤(k:Int):=by omega
    obtain ⟨b,o,cs1,rfl,hb,_,r1,e1⟩:=SlcAt.up kStays HX.out.1 hB.out k x hg
    obtain ⟨b',o',cs2,rfl,hb',_,r2,e2⟩:=SlcAt.up kStays HY.out.1 hB.out k y hg2
    obtain rfl:cs1=kL x:=e1
    obtain rfl:cs2=kL y:=e2
    have hq:=fun W:World=>eq_cls (HX.out.2 x (List.mem_of_getElem? hg)) (HY.out.2 y (List.mem_of_getElem? hg2)) W
    have HR:=Lib.hid (And.intro r1 r2)
    have HG:=Lib.hid (And.intro hg hg2)
    clear hg hg2 r1 r2 hb hb'
    cases he:decide (x=y)
    ·simp only [he] at hq
     have ev:V=false:=by rw [HV.out];exact decide_eq_false (list_ne HG.out.1 HG.out.2 (of_decide_eq_false he))
     have EV:=Lib.hid ev
     clear he ev
     go_wp2_with fail
     refine wp_region_quiet_below (by kernel_rfl) (by kernel_rfl) ?_
     repeat (first | (refine quiet_load_mid (by rfl) 154 _ rfl _ _ rfl _ HR.out.1 _ Try.underlying154 rfl (by kernel_rfl) ?_;simp only [Act.put,List.setIfInBounds_toArray,List.set_cons_zero,List.set_cons_succ]) | (refine quiet_load_mid (by rfl) 154 _ rfl _ _ rfl _ HR.out.2 _ Try.underlying154 rfl (by kernel_rfl) ?_;simp only [Act.put,List.setIfInBounds_toArray,List.set_cons_zero,List.set_cons_succ]) | go_big_quiet_step (first | fail))
     refine wpQuiet_nil ?_
     intro _ hw'
     obtain ⟨⟨dq,osq⟩,hw''⟩:=hw'
     subst hw''
     have hBq:=below_regrown wr dq osq
     generalize grow (redrawn wr dq) osq=wq at *
     go_wp2_with fail
     go_ret
     rw [EV.out]
     exact ⟨rfl,below_up hB.out hBq⟩
    ·simp only [he] at hq
     have HE:=Lib.hid (of_decide_eq_true he)
     clear he
     go_wp2_with fail
     refine wp_region_quiet_below (by kernel_rfl) (by kernel_rfl) ?_
     repeat (first | (refine quiet_load_mid (by rfl) 154 _ rfl _ _ rfl _ HR.out.1 _ Try.underlying154 rfl (by kernel_rfl) ?_;simp only [Act.put,List.setIfInBounds_toArray,List.set_cons_zero,List.set_cons_succ]) | (refine quiet_load_mid (by rfl) 154 _ rfl _ _ rfl _ HR.out.2 _ Try.underlying154 rfl (by kernel_rfl) ?_;simp only [Act.put,List.setIfInBounds_toArray,List.set_cons_zero,List.set_cons_succ]) | go_big_quiet_step (first | fail))
     refine wpQuiet_nil ?_
     intro _ hw'
     obtain ⟨⟨dq,osq⟩,hw''⟩:=hw'
     subst hw''
     have hBq:=below_regrown wr dq osq
     generalize grow (redrawn wr dq) osq=wq at *
     go_wp2_with fail
     go_roundw
     case rel=>exact ⟨k+1,by omega,by go_num,(fun j u v hj hu hv=>by
         rcases Nat.lt_or_ge j k with h | h
         ·exact hP.out j u v h hu hv
         ·obtain rfl:j=k:=by omega
          rw [HG.out.1] at hu;rw [HG.out.2] at hv;cases hu;cases hv;exact HE.out),below_up hB.out hBq⟩
     case measure=>simp [intOf];omega
   ·obtain rfl:k=l.length:=by omega
    have ev:V=true:=by rw [HV.out];exact decide_eq_true (list_eq HN.out hP.out)
    have EV:=Lib.hid ev
    clear ev
    go_wp2_with fail
    go_ret
    rw [EV.out]
    exact ⟨rfl,hB.out⟩
 ·have hn':((l.length:Int) != (m.length:Int))=true:=by simp;omega
  have ev:V=false:=by rw [HV.out];exact decide_eq_false fun e=>hn (by rw [e])
  have EV:=Lib.hid ev
  clear hn ev
  go_enter Try.func77,Try.ntmps77
  go_wp2_with fail
  go_ret
  rw [EV.out]
  exact ⟨rfl,Below.refl _ _⟩
end Go.Proofs.Ytfdldbfjeamlcaa.RecEqual
namespace Go.Proofs.Ytfdldbfjeamlcaa.RecCfgs
set_option maxRecDepth 100000
set_option maxHeartbeats 4000000
open Go.RowKit Mem RecMath RecCommand RecVal RecEq RecKeys RecJobs RecEqual
def dimsB (s t:SV):Bool:=decide (s.d0=t.d0∧s.d1=t.d1∧s.d2=t.d2)
def configB (s t:SV):Bool:=(dimsB s t && ((s.bo == t.bo) && ((s.fr == t.fr) && ((s.tr == t.tr) && ((s.ag == t.ag) && decide (s.cs=t.cs))))))
theorem eq_dims {s t:SV} (hs:SWf s) (ht:SWf t) (w:World):(Op.equalIn 10000 41 (.agg #[.int .i64 s.d0,.int .i64 s.d1,.int .i64 s.d2]) (.agg #[.int .i64 t.d0,.int .i64 t.d1,.int .i64 t.d2])).run Try.prog w = .ok (dimsB s t) w:=
 EqDeep.eq_of (m:=5) (D:=3) (D':=3) (by kernel_rfl) (by omega) (by kernel_rfl) (by kernel_rfl) (k_dims hs.1.1 hs.1.2.1 hs.1.2.2.1) (k_dims ht.1.1 ht.1.2.1 ht.1.2.2.1) _ (by simp [dimsB]) w
theorem rconfigs (s t:SV) (X Y:Option Addr) (c d:Nat) (hs:SWf s) (ht:SWf t) (hl:s.cs.length≤9223372036854775807) (hm:t.cs.length≤9223372036854775807) (w:World) (hX:KsAt w X s.cs) (hY:KsAt w Y t.cs) :
    Calls Try.prog 45 #[.agg #[.int .i64 s.d0,.int .i64 s.d1,.int .i64 s.d2,.int .i64 s.bo,.int .i64 s.fr,.int .i64 s.tr,.int .i64 s.ag,.slice X s.cs.length c],.agg #[.int .i64 t.d0,.int .i64 t.d1,.int .i64 t.d2,.int .i64 t.bo,.int .i64 t.fr,.int .i64 t.tr,.int .i64 t.ag,.slice Y t.cs.length d]] w fun e w' => e = .returned (.bool (configB s t))∧Below w.heap.size w w':=by
 have qd:=eq_dims hs ht
 have HXY:=Lib.hid (And.intro hX hY)
 have HK:=Lib.hid (And.intro hs.2.1 ht.2.1)
 clear hX hY hs ht
 go_enter Try.func45,Try.ntmps45
 go_upto_region 1 with fail
 have KA:=(Blk.new w 44 #[.int .i64 s.d0,.int .i64 s.d1,.int .i64 s.d2,.int .i64 s.bo,.int .i64 s.fr,.int .i64 s.tr,.int .i64 s.ag,.slice X s.cs.length c]).alloc (.cells #[.int .i64 t.d0,.int .i64 t.d1,.int .i64 t.d2,.int .i64 t.bo,.int .i64 t.fr,.int .i64 t.tr,.int .i64 t.ag,.slice Y t.cs.length d] 44)
 have KB:=blk1 w 44 #[.int .i64 t.d0,.int .i64 t.d1,.int .i64 t.d2,.int .i64 t.bo,.int .i64 t.fr,.int .i64 t.tr,.int .i64 t.ag,.slice Y t.cs.length d] (o:=.cells #[.int .i64 s.d0,.int .i64 s.d1,.int .i64 s.d2,.int .i64 s.bo,.int .i64 s.fr,.int .i64 s.tr,.int .i64 s.ag,.slice X s.cs.length c] 44)
 have HB:=Lib.hid (below_alloc (o:=.cells #[.int .i64 t.d0,.int .i64 t.d1,.int .i64 t.d2,.int .i64 t.bo,.int .i64 t.fr,.int .i64 t.tr,.int .i64 t.ag,.slice Y t.cs.length d] 44) (below_alloc (o:=.cells #[.int .i64 s.d0,.int .i64 s.d1,.int .i64 s.d2,.int .i64 s.bo,.int .i64 s.fr,.int .i64 s.tr,.int .i64 s.ag,.slice X s.cs.length c] 44) (Below.refl w.heap.size w)))
 generalize (w.alloc (.cells #[.int .i64 s.d0,.int .i64 s.d1,.int .i64 s.d2,.int .i64 s.bo,.int .i64 s.fr,.int .i64 s.tr,.int .i64 s.ag,.slice X s.cs.length c] 44)).alloc (.cells #[.int .i64 t.d0,.int .i64 t.d1,.int .i64 t.d2,.int .i64 t.bo,.int .i64 t.fr,.int .i64 t.tr,.int .i64 t.ag,.slice Y t.cs.length d] 44)=W0 at *
 have a0:W0.cell? ⟨w.heap.size,0,none⟩=some (.int .i64 s.d0):=KA.cell 0
 have a1:W0.cell? ⟨w.heap.size,1,none⟩=some (.int .i64 s.d1):=KA.cell 1
 have a2:W0.cell? ⟨w.heap.size,2,none⟩=some (.int .i64 s.d2):=KA.cell 2
 have a3:W0.cell? ⟨w.heap.size,3,none⟩=some (.int .i64 s.bo):=KA.cell 3
 have a4:W0.cell? ⟨w.heap.size,4,none⟩=some (.int .i64 s.fr):=KA.cell 4
 have a5:W0.cell? ⟨w.heap.size,5,none⟩=some (.int .i64 s.tr):=KA.cell 5
 have a6:W0.cell? ⟨w.heap.size,6,none⟩=some (.int .i64 s.ag):=KA.cell 6
 have a7:W0.cell? ⟨w.heap.size,7,none⟩=some (.slice X s.cs.length c):=KA.cell 7
 have b0:W0.cell? ⟨w.heap.size+1,0,none⟩=some (.int .i64 t.d0):=KB.cell 0
 have b1:W0.cell? ⟨w.heap.size+1,1,none⟩=some (.int .i64 t.d1):=KB.cell 1
 have b2:W0.cell? ⟨w.heap.size+1,2,none⟩=some (.int .i64 t.d2):=KB.cell 2
 have b3:W0.cell? ⟨w.heap.size+1,3,none⟩=some (.int .i64 t.bo):=KB.cell 3
 have b4:W0.cell? ⟨w.heap.size+1,4,none⟩=some (.int .i64 t.fr):=KB.cell 4
 have b5:W0.cell? ⟨w.heap.size+1,5,none⟩=some (.int .i64 t.tr):=KB.cell 5
 have b6:W0.cell? ⟨w.heap.size+1,6,none⟩=some (.int .i64 t.ag):=KB.cell 6
 have b7:W0.cell? ⟨w.heap.size+1,7,none⟩=some (.slice Y t.cs.length d):=KB.cell 7
 clear KA KB
 cases e0:dimsB s t
 ·simp only [e0] at qd
  go_wp2_with fail
  go_ret
  exact ⟨by rw [show configB s t=false from by simp only [configB,e0,Bool.false_and]];rfl,HB.out⟩
 ·simp only [e0] at qd
  cases e1:(s.bo == t.bo)
  ·go_wp2_with fail
   go_ret
   exact ⟨by rw [show configB s t=false from by simp only [configB,e0,e1,Bool.true_and,Bool.false_and]];rfl,HB.out⟩
  ·cases e2:(s.fr == t.fr)
   ·go_wp2_with fail
    go_ret
    exact ⟨by rw [show configB s t=false from by simp only [configB,e0,e1,e2,Bool.true_and,Bool.false_and]];rfl,HB.out⟩
   ·cases e3:(s.tr == t.tr)
    ·go_wp2_with fail
     go_ret
     exact ⟨by rw [show configB s t=false from by simp only [configB,e0,e1,e2,e3,Bool.true_and,Bool.false_and]];rfl,HB.out⟩
    ·cases e4:(s.ag == t.ag)
     ·go_wp2_with fail
      go_ret
      exact ⟨by rw [show configB s t=false from by simp only [configB,e0,e1,e2,e3,e4,Bool.true_and,Bool.false_and]];rfl,HB.out⟩
     ·go_wp2_with fail
      refine (equalK X Y c d s.cs t.cs hl hm HK.out.1 HK.out.2 _ (HXY.out.1.up kStays HB.out) (HXY.out.2.up kStays HB.out)).mono ?_
      rintro e w1 ⟨rfl,hB1⟩
      have HB1:=Lib.hid (below_up HB.out hB1)
      clear hB1
      go_wp2_with fail
      go_ret
      exact ⟨by rw [show configB s t=decide (s.cs=t.cs) from by simp only [configB,e0,e1,e2,e3,e4,Bool.true_and]];rfl,HB1.out⟩
end Go.Proofs.Ytfdldbfjeamlcaa.RecCfgs
