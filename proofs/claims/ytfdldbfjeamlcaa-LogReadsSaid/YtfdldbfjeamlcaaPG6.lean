/- Several texts joined: rec.Write of records of commands. -/
import Derived.BigQuiet
import Derived.Deep.QuietTactic
import Derived.Deep.MidRow
import Derived.Deep.DeepCutAuto
import Derived.Lib.QuietBelow
import Derived.Lib.SliceRun
import Derived.Test.YtfdldbfjeamlcaaPG1
import Derived.Test.YtfdldbfjeamlcaaPG5
import Derived.Test.YtfdldbfjeamlcaaPG4
import Derived.Test.YtfdldbfjeamlcaaPG3
set_option linter.unusedVariables false
set_option linter.unusedSimpArgs false
namespace Go.Proofs.Ytfdldbfjeamlcaa.RecWrite
open Go.RowKit RecGuard Mem RecMem RecByte RecNum RecEach RecMath RecPort RecCmd RecCommand RecCmdJ RecEq RecJobs RecSame RecWr0
theorem cmdB_own (c:CV):cmdB (own c)=cmdB c:=by
 unfold cmdB
 rw [own_kd]
 unfold own
 by_cases h1:isJob c.kd
 ·simp only [h1,if_true,askB]
 ·by_cases h2:isId c.kd
  ·simp only [h1,h2,if_true,if_false]
  ·by_cases h3:isKeep c.kd
   ·simp only [h1,h2,h3,if_true,if_false]
   ·by_cases h4:isWell c.kd
    ·simp only [h1,h2,h3,h4,if_true,if_false]
    ·by_cases h5:isN c.kd
     ·simp only [h1,h2,h3,h4,h5,if_true,if_false]
     ·simp only [h1,h2,h3,h4,h5,if_false]
theorem ints_sets2 {W:World} {g i:Nat} {vs:List Value} {Y:Option Addr} {l:List Int} (h:IntsAt W Y l) (hY:∀ b o,Y=some ⟨b,o,none⟩→b≠g):IntsAt (World.setCells W g i vs) Y l:=fun j v hj=>by
 obtain ⟨b,o,e,hb,hc⟩:=h j v hj
 exact ⟨b,o,e,by rw [size_sets];exact hb,cell_sets (hY b o e) hc⟩
theorem set_zrec:setA Sq.zzR 0 [.int .i64 0,.int .i64 0,.int .i64 0,.int .i64 0,.int .i64 0,.int .i64 0,.int .i64 0,.int .i64 0,.slice none 0 0,.int .i64 0,.int .i64 0,.slice none 0 0,.slice none 0 0,.slice none 0 0,.slice none 0 0,.slice none 0 0,.slice none 0 0,.int .u8 0,.int .i64 0,.int .i64 0,.int .i64 0,.int .i64 0,.int .i64 0,.int .i64 0,.bool false,.bool false,.bool false,.bool false,.int .i64 0,.int .i64 0,.bool false,.slice none 0 0,.int .u8 0,.int .i64 0,.int .i64 0,.int .i64 0,.int .i64 0,.int .i64 0,.int .i64 0,.int .i64 0,.int .i64 0,.int .i64 0,.int .i64 0,.int .i64 0,.bool false]=List.toArray [.int .i64 0,.int .i64 0,.int .i64 0,.int .i64 0,.int .i64 0,.int .i64 0,.int .i64 0,.int .i64 0,.slice none 0 0,.int .i64 0,.int .i64 0,.slice none 0 0,.slice none 0 0,.slice none 0 0,.slice none 0 0,.slice none 0 0,.slice none 0 0,.int .u8 0,.int .i64 0,.int .i64 0,.int .i64 0,.int .i64 0,.int .i64 0,.int .i64 0,.bool false,.bool false,.bool false,.bool false,.int .i64 0,.int .i64 0,.bool false,.slice none 0 0,.int .u8 0,.int .i64 0,.int .i64 0,.int .i64 0,.int .i64 0,.int .i64 0,.int .i64 0,.int .i64 0,.int .i64 0,.int .i64 0,.int .i64 0,.int .i64 0,.bool false]:=by
 simp only [setA,List.setIfInBounds_toArray,List.set_cons_zero,List.set_cons_succ]
theorem own_form {w:World} {B n:Nat} {v:Value} {xs:List Value} (h:w.ownsRow B 5 1 v n xs):∃ Y c,v = .slice Y n c:=own_slice h
end Go.Proofs.Ytfdldbfjeamlcaa.RecWrite
namespace Go.Proofs.Ytfdldbfjeamlcaa.RecAlive
open Go.RowKit Mem RecMem RecByte RecNum RecEach RecMath RecPort RecCmd RecCommand RecCmdJ RecEq RecJobs RecSame RecWr0 RecWrite LogMath
end Go.Proofs.Ytfdldbfjeamlcaa.RecAlive
namespace Go.Proofs.Ytfdldbfjeamlcaa.RecOwn
open Go.RowKit RecGuard Mem RecMem RecByte RecNum RecEach RecMath RecPort RecCmd RecCommand RecCmdJ RecEq RecJobs RecSame RecWr0 RecWrite RecAlive RecVal
theorem setA_size {vs:List Value} : ∀ {cs:Array Value} {i:Nat},(setA cs i vs).size=cs.size:=by
 induction vs with
 | nil=>intro cs i;rfl
 | cons v vs ih=>intro cs i;show (setA (cs.setIfInBounds i v) (i+1) vs).size=_;rw [ih];simp
theorem setA_get:∀ (vs:List Value) (cs:Array Value) (i:Nat),i+vs.length≤cs.size→∀ j,(setA cs i vs)[j]? = if i≤j∧j < i+vs.length then vs[j - i]? else cs[j]?
 | [],cs,i,h,j=>by
  rw [if_neg (by simp only [List.length_nil];omega)]
  rfl
 | v :: vs,cs,i,h,j=>by
  simp only [List.length_cons] at h
  show (setA (cs.setIfInBounds i v) (i+1) vs)[j]? = _
  rw [setA_get vs _ _ (by simp;omega) j]
  simp only [List.length_cons]
  by_cases h1:i=j
  ·subst h1
   rw [if_neg (by omega),if_pos (by omega),Array.getElem?_setIfInBounds_self_of_lt (by omega),Nat.sub_self]
   rfl
  ·rw [Array.getElem?_setIfInBounds_ne h1]
   by_cases h2:i+1≤j∧j < i+1+vs.length
   ·rw [if_pos h2,if_pos (by omega)]
    obtain ⟨d,rfl⟩:∃ d,j=i+1+d:=⟨j - (i+1),by omega⟩
    rw [show i+1+d - (i+1)=d by omega,show i+1+d - i=d+1 by omega]
    rfl
   ·rw [if_neg h2,if_neg (by omega)]
theorem setA_full {vs:List Value} {cs:Array Value} (h:vs.length=cs.size):setA cs 0 vs=vs.toArray:=by
 apply Array.ext_getElem?
 intro j
 rw [setA_get vs cs 0 (by omega) j]
 by_cases hj:j < vs.length
 ·rw [if_pos (by omega)];simp
 ·rw [if_neg (by omega),Array.getElem?_eq_none (by omega)]
  simp;omega
theorem box_full {W:World} (t:TypeId) (cs:Array Value) {vs:List Value} (h:vs.length=cs.size):Blk (World.setCells (W.alloc (.cells cs t)) W.heap.size 0 vs) W.heap.size t vs.toArray∧Below W.heap.size W (World.setCells (W.alloc (.cells cs t)) W.heap.size 0 vs):=
 ⟨blk_all (Blk.new W t cs) (setA_full h),below_sets (Nat.le_refl _) (below_alloc (Below.refl _ W))⟩
end Go.Proofs.Ytfdldbfjeamlcaa.RecOwn
namespace Go.Proofs.Ytfdldbfjeamlcaa.RecWFlat
set_option maxRecDepth 100000
set_option maxHeartbeats 4000000
open Go.RowKit Mem RecMem RecByte RecNum RecEach RecMath RecPort RecCmd RecCod RecCods RecCommand RecCmdJ RecVal RecSame RecOwn RecWAt
theorem wnumW (gp:Nat) (v:Value) (t:List Int) (od:Bool) (b o:Nat) (n:Int) (hn:W64 n) (hl:t.length+(nB n).length≤800000000) (w:World) (hP:PW w gp v t od) (hA:WAt gp v w b o [.int .i64 n]) :
    Calls Try.prog 74 #[.pointer (some ⟨gp,0,none⟩),.pointer (some ⟨b,o,none⟩)] w fun e w' => WOut (nB n) true gp v t od w e w':=
 (wnum gp v t od b o n hn (by omega) w hP (hA.c0 _ rfl) (hA.f0 _ rfl) hA.far).mono fun e w' h=>wout_of h
theorem wbyteW (gp:Nat) (v:Value) (t:List Int) (od:Bool) (b o:Nat) (x:Int) (hl:t.length+([x]).length≤800000000) (w:World) (hP:PW w gp v t od) (hA:WAt gp v w b o [.int .u8 x]) :
    Calls Try.prog 102 #[.pointer (some ⟨gp,0,none⟩),.pointer (some ⟨b,o,none⟩)] w fun e w' => WOut [x] true gp v t od w e w':=
 (wbyte gp v t od b o x (by omega) w hP (hA.c0 _ rfl)).mono fun e w' h=>wout_of h
theorem wtruthW (gp:Nat) (v:Value) (t:List Int) (od:Bool) (b o:Nat) (p:Bool) (hl:t.length+([tB p]).length≤800000000) (w:World) (hP:PW w gp v t od) (hA:WAt gp v w b o [.bool p]) :
    Calls Try.prog 106 #[.pointer (some ⟨gp,0,none⟩),.pointer (some ⟨b,o,none⟩)] w fun e w' => WOut [tB p] true gp v t od w e w':=
 (wtruth gp v t od b o p (by omega) w hP (hA.c0 _ rfl) (hA.f0 _ rfl) hA.far).mono fun e w' h=>wout_of h
theorem wn3W (gp:Nat) (v:Value) (t:List Int) (od:Bool) (b o:Nat) (x y z:Int) (hx:W64 x) (hy:W64 y) (hz:W64 z) (hl:t.length+(numsB [x,y,z]).length≤800000000) (w:World) (hP:PW w gp v t od) (hA:WAt gp v w b o [.int .i64 x,.int .i64 y,.int .i64 z]) :
    Calls Try.prog 107 #[.slice (some ⟨b,o,none⟩) 3 3,.func (.func 74) #[.pointer (some ⟨gp,0,none⟩)] #[]] w fun e w' => WOut (numsB [x,y,z]) true gp v t od w e w':=
 (weach gp v t od b o 3 [x,y,z] (by rw [numsB_len] at hl;omega) w hP (nums_of hA rfl (all3 hx hy hz)) hA.far).mono fun e w' h=>wout_of h
theorem wt3W (gp:Nat) (v:Value) (t:List Int) (od:Bool) (b o:Nat) (p q r:Bool) (hl:t.length+([tB p,tB q,tB r]).length≤800000000) (w:World) (hP:PW w gp v t od) (hA:WAt gp v w b o [.bool p,.bool q,.bool r]) :
    Calls Try.prog 128 #[.slice (some ⟨b,o,none⟩) 3 3,.func (.func 106) #[.pointer (some ⟨gp,0,none⟩)] #[]] w fun e w' => WOut [tB p,tB q,tB r] true gp v t od w e w':=
 (weachB gp v t od b o 3 [p,q,r] (by simp only [List.length_cons,List.length_nil] at hl ⊢;omega) w hP (truths_of hA rfl) hA.far).mono fun e w' h=>wout_of h
theorem wboxW (gp:Nat) (v:Value) (t:List Int) (od:Bool) (b o:Nat) (x y z a c d:Int) (hx:W64 x) (hy:W64 y) (hz:W64 z) (ha:W64 a) (hc:W64 c) (hd:W64 d) (hl:t.length+(numsB [x,y,z,a,c,d]).length≤800000000) (w:World) (hP:PW w gp v t od) (hA:WAt gp v w b o [.int .i64 x,.int .i64 y,.int .i64 z,.int .i64 a,.int .i64 c,.int .i64 d]) :
    Calls Try.prog 104 #[.pointer (some ⟨gp,0,none⟩),.pointer (some ⟨b,o,none⟩)] w fun e w' => WOut (numsB [x,y,z,a,c,d]) true gp v t od w e w':=
 (wbox gp v t od b o x y z a c d (by omega) w hP (nums_of hA rfl (all6 hx hy hz ha hc hd)) hA.far).mono fun e w' h=>wout_of h
theorem wspanW (gp:Nat) (v:Value) (t:List Int) (od:Bool) (b o:Nat) (x y:Int) (hx:W64 x) (hy:W64 y) (hl:t.length+(nB x ++ nB y).length≤800000000) (w:World) (hP:PW w gp v t od) (hA:WAt gp v w b o [.int .i64 x,.int .i64 y]) :
    Calls Try.prog 105 #[.pointer (some ⟨gp,0,none⟩),.pointer (some ⟨b,o,none⟩)] w fun e w' => WOut (nB x ++ nB y) true gp v t od w e w':=
 (wspan gp v t od b o x y (by omega) w hP (nums_of (l:=[x,y]) hA rfl (by simp only [List.forall_mem_cons];exact ⟨hx,hy,fun n hn=>by cases hn⟩)) hA.far).mono fun e w' h=>wout_of h
theorem wwantsW (gp:Nat) (v:Value) (t:List Int) (od:Bool) (b o:Nat) (x:QV) (hx:QWf x) (hl:t.length+(wantsE x).length≤800000000) (w:World) (hP:PW w gp v t od) (hA:WAt gp v w b o [.int .i64 x.a,.int .i64 x.b,.int .i64 x.c,.bool x.p,.bool x.q,.bool x.r,.bool x.tn]) :
    Calls Try.prog 124 #[.pointer (some ⟨gp,0,none⟩),.pointer (some ⟨b,o,none⟩)] w fun e w' => WOut (wantsE x) true gp v t od w e w':=
 (wwants gp v t od b o x.a x.b x.c x.p x.q x.r x.tn (by omega) w hP (nums_of (hA.first 3 rfl) rfl (all3 hx.2.2.1 hx.2.2.2.1 hx.2.2.2.2.1)) (truths_of (hA.sub 3 3 rfl) rfl) (truths_of (l:=[x.tn]) (hA.sub 6 1 rfl) rfl) hA.far).mono fun e w' h=>wout_of h
theorem wplaceW (gp:Nat) (v:Value) (t:List Int) (od:Bool) (b o:Nat) (b0 b1 b2 b3 b4 b5:Int) (p q r:Bool) (hw:W64 b0∧W64 b1∧W64 b2∧W64 b3∧W64 b4∧W64 b5) (hl:t.length+(placeE b0 b1 b2 b3 b4 b5 p q r).length≤800000000) (w:World) (hP:PW w gp v t od) (hA:WAt gp v w b o [.int .i64 b0,.int .i64 b1,.int .i64 b2,.int .i64 b3,.int .i64 b4,.int .i64 b5,.bool p,.bool q,.bool r]) :
    Calls Try.prog 125 #[.pointer (some ⟨gp,0,none⟩),.pointer (some ⟨b,o,none⟩)] w fun e w' => WOut (placeE b0 b1 b2 b3 b4 b5 p q r) true gp v t od w e w':=by
 have HM0:=Lib.hid (WMid.refl hP)
 have HA0:=Lib.hid hA
 simp only [placeE] at hl
 have HLB:=Lib.hid hl
 have HW:=Lib.hid hw
 clear hP hA hl hw
 go_enter Try.func125,Try.ntmps125
 have HC1:=Lib.hid (wboxW gp _ _ _ b o b0 b1 b2 b3 b4 b5 HW.out.1 HW.out.2.1 HW.out.2.2.1 HW.out.2.2.2.1 HW.out.2.2.2.2.1 HW.out.2.2.2.2.2 (by have h9:=HLB.out;simp only [List.length_append,List.length_nil,List.length_cons,nB_len,numsB_len,wantsE_len,placeE_len] at h9 ⊢;omega)  _ HM0.out.1 (HA0.out.first 6 (M:=[.int .i64 b0,.int .i64 b1,.int .i64 b2,.int .i64 b3,.int .i64 b4,.int .i64 b5]) rfl))
 go_wp2_with fail
 refine HC1.out.mono ?_
 intro e w1 hj
 obtain ⟨⟨r1,rfl⟩,v1,hM,hf⟩:=WMid.next HM0.out hj
 have HM1:=Lib.hid hM
 have HA1:=Lib.hid (HA0.out.fr hf)
 clear hj hM hf HC1 HM0 HA0
 have HC2:=Lib.hid (wt3W gp _ _ _ b (o+6) p q r  (by have h9:=HLB.out;simp only [List.length_append,List.length_nil,List.length_cons,nB_len,numsB_len,wantsE_len,placeE_len] at h9 ⊢;omega)  _ HM1.out.1 (HA1.out.sub 6 3 (M:=[.bool p,.bool q,.bool r]) rfl))
 go_wp2_with fail
 refine HC2.out.mono ?_
 intro e w2 hj
 obtain ⟨⟨r2,rfl⟩,v2,hM,hf⟩:=WMid.next HM1.out hj
 have HM2:=Lib.hid hM
 have HA2:=Lib.hid (HA1.out.fr hf)
 clear hj hM hf HC2 HM1 HA1
 go_wp2_with fail
 go_end0
 exact WMid.out HM2.out (by simp only [placeE,List.nil_append]) (by simp only [Bool.true_and,Bool.and_true]) _
theorem wkeepW (gp:Nat) (v:Value) (t:List Int) (od:Bool) (b o:Nat) (x:EV) (hw:EWf x) (hl:t.length+(keepE x).length≤800000000) (w:World) (hP:PW w gp v t od) (hA:WAt gp v w b o (eL x)) :
    Calls Try.prog 115 #[.pointer (some ⟨gp,0,none⟩),.pointer (some ⟨b,o,none⟩)] w fun e w' => WOut (keepE x) true gp v t od w e w':=by
 have HM0:=Lib.hid (WMid.refl hP)
 have HA0:=Lib.hid hA
 simp only [keepE] at hl
 have HLB:=Lib.hid hl
 have HW:=Lib.hid hw
 clear hP hA hl hw
 go_enter Try.func115,Try.ntmps115
 have HC1:=Lib.hid (wnumW gp _ _ _ b o x.id HW.out.1 (by have h9:=HLB.out;simp only [List.length_append,List.length_nil,List.length_cons,nB_len,numsB_len,wantsE_len,placeE_len] at h9 ⊢;omega)  _ HM0.out.1 (HA0.out.first 1 (M:=[.int .i64 x.id]) rfl))
 go_wp2_with fail
 refine HC1.out.mono ?_
 intro e w1 hj
 obtain ⟨⟨r1,rfl⟩,v1,hM,hf⟩:=WMid.next HM0.out hj
 have HM1:=Lib.hid hM
 have HA1:=Lib.hid (HA0.out.fr hf)
 clear hj hM hf HC1 HM0 HA0
 have HC2:=Lib.hid (wboxW gp _ _ _ b (o+1) x.b0 x.b1 x.b2 x.b3 x.b4 x.b5 HW.out.2.1 HW.out.2.2.1 HW.out.2.2.2.1 HW.out.2.2.2.2.1 HW.out.2.2.2.2.2.1 HW.out.2.2.2.2.2.2.1 (by have h9:=HLB.out;simp only [List.length_append,List.length_nil,List.length_cons,nB_len,numsB_len,wantsE_len,placeE_len] at h9 ⊢;omega)  _ HM1.out.1 (HA1.out.sub 1 6 (M:=[.int .i64 x.b0,.int .i64 x.b1,.int .i64 x.b2,.int .i64 x.b3,.int .i64 x.b4,.int .i64 x.b5]) rfl))
 go_wp2_with fail
 refine HC2.out.mono ?_
 intro e w2 hj
 obtain ⟨⟨r2,rfl⟩,v2,hM,hf⟩:=WMid.next HM1.out hj
 have HM2:=Lib.hid hM
 have HA2:=Lib.hid (HA1.out.fr hf)
 clear hj hM hf HC2 HM1 HA1
 have HC3:=Lib.hid (wspanW gp _ _ _ b (o+7) x.fr x.to HW.out.2.2.2.2.2.2.2.1 HW.out.2.2.2.2.2.2.2.2 (by have h9:=HLB.out;simp only [List.length_append,List.length_nil,List.length_cons,nB_len,numsB_len,wantsE_len,placeE_len] at h9 ⊢;omega)  _ HM2.out.1 (HA2.out.sub 7 2 (M:=[.int .i64 x.fr,.int .i64 x.to]) rfl))
 go_wp2_with fail
 refine HC3.out.mono ?_
 intro e w3 hj
 obtain ⟨⟨r3,rfl⟩,v3,hM,hf⟩:=WMid.next HM2.out hj
 have HM3:=Lib.hid hM
 have HA3:=Lib.hid (HA2.out.fr hf)
 clear hj hM hf HC3 HM2 HA2
 go_wp2_with fail
 go_end0
 exact WMid.out HM3.out (by simp only [keepE,List.nil_append]) (by simp only [Bool.true_and,Bool.and_true]) _
theorem wpartW (gp:Nat) (v:Value) (t:List Int) (od:Bool) (b o:Nat) (x:PV) (hw:PWf x) (hl:t.length+(partE x).length≤800000000) (w:World) (hP:PW w gp v t od) (hA:WAt gp v w b o (pL x)) :
    Calls Try.prog 113 #[.pointer (some ⟨gp,0,none⟩),.pointer (some ⟨b,o,none⟩)] w fun e w' => WOut (partE x) true gp v t od w e w':=by
 have HM0:=Lib.hid (WMid.refl hP)
 have HA0:=Lib.hid hA
 simp only [partE] at hl
 have HLB:=Lib.hid hl
 have HW:=Lib.hid hw
 clear hP hA hl hw
 go_enter Try.func113,Try.ntmps113
 have HC1:=Lib.hid (wnumW gp _ _ _ b o x.jb HW.out.1 (by have h9:=HLB.out;simp only [List.length_append,List.length_nil,List.length_cons,nB_len,numsB_len,wantsE_len,placeE_len] at h9 ⊢;omega)  _ HM0.out.1 (HA0.out.first 1 (M:=[.int .i64 x.jb]) rfl))
 go_wp2_with fail
 refine HC1.out.mono ?_
 intro e w1 hj
 obtain ⟨⟨r1,rfl⟩,v1,hM,hf⟩:=WMid.next HM0.out hj
 have HM1:=Lib.hid hM
 have HA1:=Lib.hid (HA0.out.fr hf)
 clear hj hM hf HC1 HM0 HA0
 have HC2:=Lib.hid (wplaceW gp _ _ _ b (o+1) x.b0 x.b1 x.b2 x.b3 x.b4 x.b5 x.p x.q x.r ⟨HW.out.2.1,HW.out.2.2.1,HW.out.2.2.2.1,HW.out.2.2.2.2.1,HW.out.2.2.2.2.2.1,HW.out.2.2.2.2.2.2.1⟩ (by have h9:=HLB.out;simp only [List.length_append,List.length_nil,List.length_cons,nB_len,numsB_len,wantsE_len,placeE_len] at h9 ⊢;omega)  _ HM1.out.1 (HA1.out.sub 1 9 (M:=[.int .i64 x.b0,.int .i64 x.b1,.int .i64 x.b2,.int .i64 x.b3,.int .i64 x.b4,.int .i64 x.b5,.bool x.p,.bool x.q,.bool x.r]) rfl))
 go_wp2_with fail
 refine HC2.out.mono ?_
 intro e w2 hj
 obtain ⟨⟨r2,rfl⟩,v2,hM,hf⟩:=WMid.next HM1.out hj
 have HM2:=Lib.hid hM
 have HA2:=Lib.hid (HA1.out.fr hf)
 clear hj hM hf HC2 HM1 HA1
 have HC3:=Lib.hid (wbyteW gp _ _ _ b (o+10) x.ph  (by have h9:=HLB.out;simp only [List.length_append,List.length_nil,List.length_cons,nB_len,numsB_len,wantsE_len,placeE_len] at h9 ⊢;omega)  _ HM2.out.1 (HA2.out.sub 10 1 (M:=[.int .u8 x.ph]) rfl))
 go_wp2_with fail
 refine HC3.out.mono ?_
 intro e w3 hj
 obtain ⟨⟨r3,rfl⟩,v3,hM,hf⟩:=WMid.next HM2.out hj
 have HM3:=Lib.hid hM
 have HA3:=Lib.hid (HA2.out.fr hf)
 clear hj hM hf HC3 HM2 HA2
 have HC4:=Lib.hid (wnumW gp _ _ _ b (o+11) x.tr HW.out.2.2.2.2.2.2.2.2.1 (by have h9:=HLB.out;simp only [List.length_append,List.length_nil,List.length_cons,nB_len,numsB_len,wantsE_len,placeE_len] at h9 ⊢;omega)  _ HM3.out.1 (HA3.out.sub 11 1 (M:=[.int .i64 x.tr]) rfl))
 go_wp2_with fail
 refine HC4.out.mono ?_
 intro e w4 hj
 obtain ⟨⟨r4,rfl⟩,v4,hM,hf⟩:=WMid.next HM3.out hj
 have HM4:=Lib.hid hM
 have HA4:=Lib.hid (HA3.out.fr hf)
 clear hj hM hf HC4 HM3 HA3
 have HC5:=Lib.hid (wnumW gp _ _ _ b (o+12) x.si HW.out.2.2.2.2.2.2.2.2.2 (by have h9:=HLB.out;simp only [List.length_append,List.length_nil,List.length_cons,nB_len,numsB_len,wantsE_len,placeE_len] at h9 ⊢;omega)  _ HM4.out.1 (HA4.out.sub 12 1 (M:=[.int .i64 x.si]) rfl))
 go_wp2_with fail
 refine HC5.out.mono ?_
 intro e w5 hj
 obtain ⟨⟨r5,rfl⟩,v5,hM,hf⟩:=WMid.next HM4.out hj
 have HM5:=Lib.hid hM
 have HA5:=Lib.hid (HA4.out.fr hf)
 clear hj hM hf HC5 HM4 HA4
 go_wp2_with fail
 go_end0
 exact WMid.out HM5.out (by simp only [partE,List.nil_append]) (by simp only [Bool.true_and,Bool.and_true]) _
end Go.Proofs.Ytfdldbfjeamlcaa.RecWFlat
namespace Go.Proofs.Ytfdldbfjeamlcaa.RecWListI
set_option maxRecDepth 100000
set_option maxHeartbeats 4000000
open Go.RowKit Mem RecMem RecByte RecNum RecEach RecMath RecPort RecCmd RecCod RecCods RecCommand RecCmdJ RecVal RecSame RecOwn RecWAt RecWFlat 
open Go.Sort (grow)
theorem flat_take {α:Type} {enc:α→Bs} {l:List α} {k:Nat} {x:α} (h:l[k]? = some x):((l.take k).flatMap enc).length+(enc x).length≤(l.flatMap enc).length:=by
 have e:(l.take (k+1)).flatMap enc=(l.take k).flatMap enc ++ enc x:=by rw [take_snoc h,List.flatMap_append];simp
 have e2:l.flatMap enc=(l.take (k+1)).flatMap enc ++ (l.drop (k+1)).flatMap enc:=by rw [← List.flatMap_append,List.take_append_drop]
 rw [e2,e,List.length_append,List.length_append];omega
theorem new_below {w w':World} {gp:Nat} {v:Value} {t:List Int} {od:Bool} (h:PW w gp v t od) (hB:Below w.heap.size w w') (hlt:w.heap.size < w'.heap.size):Far gp v w' w.heap.size:=
 ⟨hlt,by have:=h.lt;omega,fun e=>by have:=(h.2.1.lt _ e).2;omega⟩
theorem cell_set_far {w:World} {p q:Addr} {u:Value} (h:q.block≠p.block):(w.setCell p u).cell? q=w.cell? q:=World.cell?_of_block (Below.heap_setCell w p u q.block h)
theorem cell_set_new {w:World} {g i:Nat} {u x:Value} (h:w.cell? ⟨g,i,none⟩=some x):(w.setCell ⟨g,i,none⟩ u).cell? ⟨g,i,none⟩=some u:=World.cell?_setCell_same' _ _ _ (by rw [h];rfl)
theorem wlistI (gp:Nat) (v:Value) (t:List Int) (od:Bool) (b o:Nat) (X:Option Addr) (c:Nat) (l:List Int) (hc:l.length≤c) (hm:l.length≤maxLen) (hw:∀ x ∈ l,W64 x) (hl:t.length+(listE nB l).length≤800000000) (w:World) (hP:PW w gp v t od) (hA:WAt gp v w b o [.slice X l.length c]) (hX:SlcFar 1 iF gp v w X l) :
    Calls Try.prog 116 #[.pointer (some ⟨gp,0,none⟩),.pointer (some ⟨b,o,none⟩),.func (.func 74) #[.pointer (some ⟨gp,0,none⟩)] #[]] w fun e w' => WOut (listE nB l) (listO yes l) gp v t od w e w':=by
 have hm2:l.length≤9223372036854775807:=hm
 have hlw:W64 (l.length:Int):=i64_mk (by omega)
 have hB1:Below w.heap.size w (w.alloc (.cells #[.int .i64 (l.length:Int)] 3)):=below_alloc (Below.refl _ _)
 have HC:=Lib.hid (wnumW gp v t od w.heap.size 0 (l.length:Int) hlw (by have h9:=hl;simp only [listE,List.length_append,nB_len] at h9;rw [nB_len];omega) (w.alloc (.cells #[.int .i64 (l.length:Int)] 3)) (hP.alloc _) (WAt.blk (Blk.new w 3 #[.int .i64 (l.length:Int)]) (hP.new _)))
 have H0:=Lib.hid (And.intro (WAt.blk (Blk.new w 3 #[.int .i64 (l.length:Int)]) (hP.new _)) (And.intro (hA.fr (fr_up hB1)) (And.intro (hX.fr iStaysF (fr_up hB1)) (fr_up (gp:=gp) (v:=v) hB1))))
 have ca:=hA.c0 _ rfl
 have HW:=Lib.hid hw
 have HLB:=Lib.hid hl
 clear hP hA hX hw hlw hB1 hl hm hm2
 go_enter Try.func116,Try.ntmps116
 go_wp2_with fail
 refine HC.out.mono ?_
 rintro e w1 ⟨⟨r,rfl⟩,v1,hP1,hF1⟩
 have hP1:=(show PW w1 gp v1 (t ++ nB (l.length:Int)) od from by simpa using hP1)
 have cn:w1.cell? ⟨w.heap.size,0,none⟩=some (.int .i64 (l.length:Int)):=(H0.out.1.fr hF1).c0 _ rfl
 have cl:w1.cell? ⟨b,o,none⟩=some (.slice X l.length c):=(H0.out.2.1.fr hF1).c0 _ rfl
 have p1:w1.cell? ⟨gp,1,none⟩=some (.bool false):=hP1.1.cell 1
 have hX1:=H0.out.2.2.1.fr iStaysF hF1
 have hF01:=H0.out.2.2.2.trans hF1
 by_cases hn:l.length≤1000
 ·have HE:=Lib.hid (show listE nB l=nB (l.length:Int) ++ l.flatMap nB from by unfold listE;rw [if_pos hn])
  have HO:=Lib.hid (show listO yes l=l.all yes from by unfold listO;rw [decide_eq_true hn,Bool.true_and])
  have H1:=Lib.hid (And.intro hP1 (And.intro hF01 hX1))
  have hn0:¬ ((l.length:Int) < 0):=by omega
  have hn1:¬ ((1000:Int) < (l.length:Int)):=by omega
  clear hP1 hF1 hF01 HC H0 ca hX1
  go_wp2_with fail
  have kq0:=cell_regrown cn
  have kq1:=cell_regrown cl
  refine wp_region_quiet_below (by kernel_rfl) (by kernel_rfl) ?_
  repeat (go_big_quiet_step (first | fail))
  refine wpQuiet_nil ?_
  intro _ hw'
  obtain ⟨⟨dq,osq⟩,hw''⟩:=hw'
  subst hw''
  have hBq:=below_regrown w1 dq osq
  clear kq0 kq1 cn cl p1
  have hP2:=PW.up H1.out.1 hBq
  have hF2:=Fr.up H1.out.2.1 hBq
  have hX2:=H1.out.2.2.fr iStaysF (Fr.up (Fr.refl gp v1 w1) hBq)
  generalize grow (redrawn w1 dq) osq=w2 at *
  have H2:=Lib.hid (And.intro hP2 (And.intro hF2 hX2))
  clear hP2 hF2 hX2 hBq H1
  go_wp2_with fail
  go_loopw [9,51] (fun _ i wr=>∃ (k:Nat) (v':Value),k≤l.length∧i = .int .i64 k∧Hid (PW wr gp v' (t ++ nB (l.length:Int) ++ (l.take k).flatMap nB) (od || !((l.take k).all yes)))∧Hid (Fr gp v w v' wr)∧Hid (SlcFar 1 iF gp v' wr X l))
   (fun _ i _=>l.length - (intOf i).toNat)
  case atStart=>exact ⟨0,v1,Nat.zero_le _,rfl,by show PW w2 gp v1 (t ++ nB (l.length:Int) ++ []) (od || !true);rw [List.append_nil,Bool.not_true,Bool.or_false];exact H2.out.1,H2.out.2.1,H2.out.2.2⟩
  case round =>
   obtain ⟨k,v',hk,rfl,hP',hFr,hX'⟩:=hrel
   clear H2
   by_cases hlt:k < l.length
   ·have hg:l[k]? = some l[k]:=List.getElem?_eq_getElem hlt
    generalize l[k]=x at hg
    have hki:(k:Int) < (l.length:Int):=by omega
    have hki0:(0:Int)≤(k:Int):=by omega
    obtain ⟨yb,yo,cs,rfl,hyF,_,hyc,hyr⟩:=hX'.out k x hg
    obtain rfl:cs=[.int .i64 x]:=hyr
    have hlen:(t ++ nB (l.length:Int) ++ (l.take k).flatMap nB).length+(nB x).length≤800000000:=by
     have h9:=HLB.out
     rw [HE.out,List.length_append] at h9
     have h8:=flat_take (enc:=nB) hg
     simp only [List.length_append] at h8 h9 ⊢
     omega
    have hx:Below wr.heap.size wr (wr.alloc (.cells #[.int .i64 x] 3)):=below_alloc (Below.refl _ _)
    have hcx:=hyc 0 _ rfl
    rw [Nat.mul_one,Nat.add_zero] at hcx
    have HFA:=Lib.hid (fr_up (gp:=gp) (v:=v') hx)
    have HC:=Lib.hid (wnumW gp v' _ _ wr.heap.size 0 x (HW.out x (List.mem_of_getElem? hg)) hlen (wr.alloc (.cells #[.int .i64 x] 3)) (PW.up hP'.out hx) (WAt.blk (Blk.new wr 3 #[.int .i64 x]) (hP'.out.new _)))
    clear hx
    have HG:=Lib.hid hg
    clear hg hyF hlen hyc
    go_wp2_with fail
    refine HC.out.mono ?_
    rintro e w3 ⟨⟨r,rfl⟩,v3,hP3,hF3⟩
    have H3:=Lib.hid (And.intro hP3 (And.intro ((hFr.out.trans HFA.out).trans hF3) ((hX'.out.fr iStaysF HFA.out).fr iStaysF hF3)))
    clear hP3 hF3 HC
    go_wp2_with fail
    go_roundw
    case measure=>simp [intOf];omega
    refine ⟨k+1,v3,by omega,by go_num,?_,H3.out.2.1,H3.out.2.2⟩
    rw [take_snoc HG.out,List.flatMap_append,← List.append_assoc,List.all_append,show (List.flatMap nB [x])=nB x from by simp,show (List.all [x] yes)=yes x from by simp]
    rw [show (od || !((l.take k).all yes && yes x))=(od || !((l.take k).all yes) || !(yes x)) by cases od <;> cases (l.take k).all yes <;> cases yes x <;> rfl]
    exact H3.out.1
   ·obtain rfl:k=l.length:=by omega
    go_wp2_with fail
    go_end0
    refine ⟨⟨_,rfl⟩,v',?_,hFr.out⟩
    have:=hP'.out
    rw [HE.out,HO.out]
    rwa [List.take_length,List.append_assoc] at this
 ·have HE:=Lib.hid (show listE nB l=nB (l.length:Int) from by unfold listE;rw [if_neg hn,List.append_nil])
  have HO:=Lib.hid (show listO yes l=false from by unfold listO;rw [decide_eq_false hn,Bool.false_and])
  have hn0:¬ ((l.length:Int) < 0):=by omega
  have hn1:(1000:Int) < (l.length:Int):=by omega
  have pf:=hP1.1.frozen 2
  have po:w1.cell? ⟨gp,2,none⟩=some (.bool od):=hP1.1.cell 2
  have cf:w1.frozen? ⟨w.heap.size,0,none⟩=false:=(H0.out.1.fr hF1).f0 _ rfl
  have hgn:gp≠w.heap.size:=fun h=>H0.out.1.far.2.1 h.symm
  have hFn:Far gp v1 w1 w.heap.size:=hF1.far H0.out.1.far
  have hbn:b≠w.heap.size:=by have:=cell_lt ca;simp at this;omega
  have hbg:b≠gp:=H0.out.2.1.far.2.1
  have hPo:=PW.odd hP1 true
  have hFo:Fr gp v w v1 (w1.setCell ⟨gp,2,none⟩ (.bool true)):=hF01.set_ (.inl rfl) _
  have hPz:PW ((w1.setCell ⟨gp,2,none⟩ (.bool true)).setCell ⟨w.heap.size,0,none⟩ (.int .i64 0)) gp v1 (t ++ nB (l.length:Int)) true:=hPo.far (p:=⟨w.heap.size,0,none⟩) ⟨by simpa using hFn.1,hFn.2⟩ _
  have hFz:Fr gp v w v1 ((w1.setCell ⟨gp,2,none⟩ (.bool true)).setCell ⟨w.heap.size,0,none⟩ (.int .i64 0)):=hFo.set_ (.inr (Nat.le_refl _)) _
  have dn:((w1.setCell ⟨gp,2,none⟩ (.bool true)).setCell ⟨w.heap.size,0,none⟩ (.int .i64 0)).cell? ⟨w.heap.size,0,none⟩=some (.int .i64 0):=cell_set_new (by rw [cell_set_far (by simpa using hgn.symm)];exact cn)
  have dl:((w1.setCell ⟨gp,2,none⟩ (.bool true)).setCell ⟨w.heap.size,0,none⟩ (.int .i64 0)).cell? ⟨b,o,none⟩=some (.slice X l.length c):=by
   rw [World.cell?_of_block (Below.heap_setCell _ _ _ b (by simpa using hbn)),World.cell?_of_block (Below.heap_setCell _ _ _ b (by simpa using hbg))];exact cl
  have dp:((w1.setCell ⟨gp,2,none⟩ (.bool true)).setCell ⟨w.heap.size,0,none⟩ (.int .i64 0)).cell? ⟨gp,1,none⟩=some (.bool false):=hPz.1.cell 1
  have H1:=Lib.hid (And.intro hPz (And.intro hFz (And.intro dn (And.intro dl dp))))
  clear hPz hFz hPo hFo dn dl dp hP1 hF1 hF01 HC H0 ca hX1 hFn
  have hng:w.heap.size≠gp:=fun h=>hgn h.symm
  go_upto_region 5 with fail
  clear hgn hbn hbg cl p1 hng po
  generalize (w1.setCell ⟨gp,2,none⟩ (.bool true)).setCell ⟨w.heap.size,0,none⟩ (.int .i64 0)=w2 at *
  have cn2:=H1.out.2.2.1
  have cl2:=H1.out.2.2.2.1
  have p2:=H1.out.2.2.2.2
  clear cn cf pf
  go_wp2_with fail
  have kq0:=cell_regrown cn2
  have kq1:=cell_regrown cl2
  refine wp_region_quiet_below (by kernel_rfl) (by kernel_rfl) ?_
  repeat (go_big_quiet_step (first | fail))
  refine wpQuiet_nil ?_
  intro _ hw'
  obtain ⟨⟨dq,osq⟩,hw''⟩:=hw'
  subst hw''
  have hBq:=below_regrown w2 dq osq
  have hP2:=PW.up H1.out.1 hBq
  have hF2:=Fr.up H1.out.2.1 hBq
  clear kq0 kq1 cn2 cl2 p2 H1
  generalize grow (redrawn w2 dq) osq=w3 at *
  have H2:=Lib.hid (And.intro hP2 hF2)
  clear hP2 hF2 hBq
  go_wp2_with fail
  refine wp_loop_rounds 1 ?_
  rw [rounds_succ]
  go_wp2_with fail
  go_end0
  refine ⟨⟨_,rfl⟩,v1,?_,H2.out.2⟩
  rw [HE.out,HO.out,Bool.not_false,Bool.or_true]
  exact H2.out.1
end Go.Proofs.Ytfdldbfjeamlcaa.RecWListI
namespace Go.Proofs.Ytfdldbfjeamlcaa.RecWCls
set_option maxRecDepth 100000
set_option maxHeartbeats 4000000
open Go.RowKit Mem RecMem RecByte RecNum RecEach RecMath RecPort RecCmd RecCod RecCods RecCommand RecCmdJ RecVal RecSame RecOwn RecWAt RecWFlat
theorem wclassW (gp:Nat) (v:Value) (t:List Int) (od:Bool) (b o:Nat) (x:KV) (hw:KWf x) (hl:t.length+(classE x).length≤800000000) (w:World) (hP:PW w gp v t od) (hA:WAt gp v w b o (kL x)) :
    Calls Try.prog 109 #[.pointer (some ⟨gp,0,none⟩),.pointer (some ⟨b,o,none⟩)] w fun e w' => WOut (classE x) true gp v t od w e w':=by
 simp only [classE] at hl
 have HLB:=Lib.hid hl
 have HW:=Lib.hid hw
 have H00:=Lib.hid (And.intro hP hA)
 clear hP hA hl hw
 go_enter Try.func109,Try.ntmps109
 go_wp2_with fail
 go_region
 have hBB:Below w.heap.size w (World.drew (w.alloc (.cells #[.pointer (some ⟨b,o,none⟩),.pointer (some ⟨b,o+1,none⟩),.pointer (some ⟨b,o+2,none⟩),.pointer (some ⟨b,o+3,none⟩)] 147))):=(below_alloc (Below.refl _ _)).drew
 have HQ0:=Lib.hid (show WAt gp v (World.drew (w.alloc (.cells #[.pointer (some ⟨b,o,none⟩),.pointer (some ⟨b,o+1,none⟩),.pointer (some ⟨b,o+2,none⟩),.pointer (some ⟨b,o+3,none⟩)] 147))) w.heap.size 0 [.pointer (some ⟨b,o,none⟩),.pointer (some ⟨b,o+1,none⟩),.pointer (some ⟨b,o+2,none⟩),.pointer (some ⟨b,o+3,none⟩)] from WAt.blk (Blk.new w 147 #[.pointer (some ⟨b,o,none⟩),.pointer (some ⟨b,o+1,none⟩),.pointer (some ⟨b,o+2,none⟩),.pointer (some ⟨b,o+3,none⟩)]).drew (H00.out.1.new (.cells #[.pointer (some ⟨b,o,none⟩),.pointer (some ⟨b,o+1,none⟩),.pointer (some ⟨b,o+2,none⟩),.pointer (some ⟨b,o+3,none⟩)] 147)))
 have HM0:=Lib.hid (WMid.up (WMid.refl H00.out.1) hBB)
 have HA0:=Lib.hid (H00.out.2.fr (fr_up hBB))
 clear hBB H00
 generalize World.drew (w.alloc (.cells #[.pointer (some ⟨b,o,none⟩),.pointer (some ⟨b,o+1,none⟩),.pointer (some ⟨b,o+2,none⟩),.pointer (some ⟨b,o+3,none⟩)] 147))=w0 at *
 have q0:w0.cell? ⟨w.heap.size,0,none⟩=some (.pointer (some ⟨b,o,none⟩)):=by have:=HQ0.out.c 0 _ rfl;rwa [Nat.zero_add] at this
 have HC1:=Lib.hid (wnumW gp _ _ _ b o x.pr HW.out.1 (by have h9:=HLB.out;simp only [List.length_append,List.length_nil,List.length_cons,nB_len,numsB_len,wantsE_len,placeE_len] at h9 ⊢;omega)  _ HM0.out.1 (HA0.out.first 1 (M:=[.int .i64 x.pr]) rfl))
 go_wp2_with fail
 refine wp_loop_rounds 5 ?_
 rw [rounds_succ]
 go_wp2_with fail
 refine HC1.out.mono ?_
 intro e w1 hj
 obtain ⟨⟨r1,rfl⟩,v1,hM,hf⟩:=WMid.next HM0.out hj
 have HM1:=Lib.hid hM
 have HA1:=Lib.hid (HA0.out.fr hf)
 have HQ1:=Lib.hid (HQ0.out.fr hf)
 clear q0 HQ0
 have q1:w1.cell? ⟨w.heap.size,1,none⟩=some (.pointer (some ⟨b,o+1,none⟩)):=by have:=HQ1.out.c 1 _ rfl;rwa [Nat.zero_add] at this
 clear hj hM hf HC1 HM0 HA0
 have HC2:=Lib.hid (wnumW gp _ _ _ b (o+1) x.wa HW.out.2.1 (by have h9:=HLB.out;simp only [List.length_append,List.length_nil,List.length_cons,nB_len,numsB_len,wantsE_len,placeE_len] at h9 ⊢;omega)  _ HM1.out.1 (HA1.out.sub 1 1 (M:=[.int .i64 x.wa]) rfl))
 go_wp2_with fail
 rw [rounds_succ]
 go_wp2_with fail
 refine HC2.out.mono ?_
 intro e w2 hj
 obtain ⟨⟨r2,rfl⟩,v2,hM,hf⟩:=WMid.next HM1.out hj
 have HM2:=Lib.hid hM
 have HA2:=Lib.hid (HA1.out.fr hf)
 have HQ2:=Lib.hid (HQ1.out.fr hf)
 clear q1 HQ1
 have q2:w2.cell? ⟨w.heap.size,2,none⟩=some (.pointer (some ⟨b,o+2,none⟩)):=by have:=HQ2.out.c 2 _ rfl;rwa [Nat.zero_add] at this
 clear hj hM hf HC2 HM1 HA1
 have HC3:=Lib.hid (wnumW gp _ _ _ b (o+2) x.no HW.out.2.2.1 (by have h9:=HLB.out;simp only [List.length_append,List.length_nil,List.length_cons,nB_len,numsB_len,wantsE_len,placeE_len] at h9 ⊢;omega)  _ HM2.out.1 (HA2.out.sub 2 1 (M:=[.int .i64 x.no]) rfl))
 go_wp2_with fail
 rw [rounds_succ]
 go_wp2_with fail
 refine HC3.out.mono ?_
 intro e w3 hj
 obtain ⟨⟨r3,rfl⟩,v3,hM,hf⟩:=WMid.next HM2.out hj
 have HM3:=Lib.hid hM
 have HA3:=Lib.hid (HA2.out.fr hf)
 have HQ3:=Lib.hid (HQ2.out.fr hf)
 clear q2 HQ2
 have q3:w3.cell? ⟨w.heap.size,3,none⟩=some (.pointer (some ⟨b,o+3,none⟩)):=by have:=HQ3.out.c 3 _ rfl;rwa [Nat.zero_add] at this
 clear hj hM hf HC3 HM2 HA2
 have HC4:=Lib.hid (wnumW gp _ _ _ b (o+3) x.ea HW.out.2.2.2 (by have h9:=HLB.out;simp only [List.length_append,List.length_nil,List.length_cons,nB_len,numsB_len,wantsE_len,placeE_len] at h9 ⊢;omega)  _ HM3.out.1 (HA3.out.sub 3 1 (M:=[.int .i64 x.ea]) rfl))
 go_wp2_with fail
 rw [rounds_succ]
 go_wp2_with fail
 refine HC4.out.mono ?_
 intro e w4 hj
 obtain ⟨⟨r4,rfl⟩,v4,hM,hf⟩:=WMid.next HM3.out hj
 have HM4:=Lib.hid hM
 have HA4:=Lib.hid (HA3.out.fr hf)
 have HQ4:=Lib.hid (HQ3.out.fr hf)
 clear q3 HQ3
 clear hj hM hf HC4 HM3 HA3
 go_wp2_with fail
 rw [rounds_succ]
 go_wp2_with fail
 go_end0
 exact WMid.out HM4.out (by simp only [classE,List.nil_append]) (by simp only [Bool.true_and,Bool.and_true]) _
end Go.Proofs.Ytfdldbfjeamlcaa.RecWCls
namespace Go.Proofs.Ytfdldbfjeamlcaa.RecWListK
set_option maxRecDepth 100000
set_option maxHeartbeats 4000000
open Go.RowKit Mem RecMem RecByte RecNum RecEach RecMath RecPort RecCmd RecCod RecCods RecCommand RecCmdJ RecVal RecSame RecOwn RecWAt RecWFlat RecWListI RecWCls 
open Go.Sort (grow)
theorem wlistK (gp:Nat) (v:Value) (t:List Int) (od:Bool) (b o:Nat) (X:Option Addr) (c:Nat) (l:List KV) (hc:l.length≤c) (hm:l.length≤maxLen) (hw:∀ x ∈ l,KWf x) (hl:t.length+(listE classE l).length≤800000000) (w:World) (hP:PW w gp v t od) (hA:WAt gp v w b o [.slice X l.length c]) (hX:SlcFar 4 kF gp v w X l) :
    Calls Try.prog 108 #[.pointer (some ⟨gp,0,none⟩),.pointer (some ⟨b,o,none⟩),.func (.func 109) #[.pointer (some ⟨gp,0,none⟩)] #[]] w fun e w' => WOut (listE classE l) (listO yes l) gp v t od w e w':=by
 have hm2:l.length≤9223372036854775807:=hm
 have hlw:W64 (l.length:Int):=i64_mk (by omega)
 have hB1:Below w.heap.size w (w.alloc (.cells #[.int .i64 (l.length:Int)] 3)):=below_alloc (Below.refl _ _)
 have HC:=Lib.hid (wnumW gp v t od w.heap.size 0 (l.length:Int) hlw (by have h9:=hl;simp only [listE,List.length_append,nB_len] at h9;rw [nB_len];omega) (w.alloc (.cells #[.int .i64 (l.length:Int)] 3)) (hP.alloc _) (WAt.blk (Blk.new w 3 #[.int .i64 (l.length:Int)]) (hP.new _)))
 have H0:=Lib.hid (And.intro (WAt.blk (Blk.new w 3 #[.int .i64 (l.length:Int)]) (hP.new _)) (And.intro (hA.fr (fr_up hB1)) (And.intro (hX.fr kStaysF (fr_up hB1)) (fr_up (gp:=gp) (v:=v) hB1))))
 have ca:=hA.c0 _ rfl
 have HW:=Lib.hid hw
 have HLB:=Lib.hid hl
 clear hP hA hX hw hlw hB1 hl hm hm2
 go_enter Try.func108,Try.ntmps108
 go_wp2_with fail
 refine HC.out.mono ?_
 rintro e w1 ⟨⟨r,rfl⟩,v1,hP1,hF1⟩
 have hP1:=(show PW w1 gp v1 (t ++ nB (l.length:Int)) od from by simpa using hP1)
 have cn:w1.cell? ⟨w.heap.size,0,none⟩=some (.int .i64 (l.length:Int)):=(H0.out.1.fr hF1).c0 _ rfl
 have cl:w1.cell? ⟨b,o,none⟩=some (.slice X l.length c):=(H0.out.2.1.fr hF1).c0 _ rfl
 have p1:w1.cell? ⟨gp,1,none⟩=some (.bool false):=hP1.1.cell 1
 have hX1:=H0.out.2.2.1.fr kStaysF hF1
 have hF01:=H0.out.2.2.2.trans hF1
 by_cases hn:l.length≤1000
 ·have HE:=Lib.hid (show listE classE l=nB (l.length:Int) ++ l.flatMap classE from by unfold listE;rw [if_pos hn])
  have HO:=Lib.hid (show listO yes l=l.all yes from by unfold listO;rw [decide_eq_true hn,Bool.true_and])
  have H1:=Lib.hid (And.intro hP1 (And.intro hF01 hX1))
  have hn0:¬ ((l.length:Int) < 0):=by omega
  have hn1:¬ ((1000:Int) < (l.length:Int)):=by omega
  clear hP1 hF1 hF01 HC H0 ca hX1
  go_wp2_with fail
  have kq0:=cell_regrown cn
  have kq1:=cell_regrown cl
  refine wp_region_quiet_below (by kernel_rfl) (by kernel_rfl) ?_
  repeat (go_big_quiet_step (first | fail))
  refine wpQuiet_nil ?_
  intro _ hw'
  obtain ⟨⟨dq,osq⟩,hw''⟩:=hw'
  subst hw''
  have hBq:=below_regrown w1 dq osq
  clear kq0 kq1 cn cl p1
  have hP2:=PW.up H1.out.1 hBq
  have hF2:=Fr.up H1.out.2.1 hBq
  have hX2:=H1.out.2.2.fr kStaysF (Fr.up (Fr.refl gp v1 w1) hBq)
  generalize grow (redrawn w1 dq) osq=w2 at *
  have H2:=Lib.hid (And.intro hP2 (And.intro hF2 hX2))
  clear hP2 hF2 hX2 hBq H1
  go_wp2_with fail
  go_loopw [9,51] (fun _ i wr=>∃ (k:Nat) (v':Value),k≤l.length∧i = .int .i64 k∧Hid (PW wr gp v' (t ++ nB (l.length:Int) ++ (l.take k).flatMap classE) (od || !((l.take k).all yes)))∧Hid (Fr gp v w v' wr)∧Hid (SlcFar 4 kF gp v' wr X l))
   (fun _ i _=>l.length - (intOf i).toNat)
  case atStart=>exact ⟨0,v1,Nat.zero_le _,rfl,by show PW w2 gp v1 (t ++ nB (l.length:Int) ++ []) (od || !true);rw [List.append_nil,Bool.not_true,Bool.or_false];exact H2.out.1,H2.out.2.1,H2.out.2.2⟩
  case round =>
   obtain ⟨k,v',hk,rfl,hP',hFr,hX'⟩:=hrel
   clear H2
   by_cases hlt:k < l.length
   ·have hg:l[k]? = some l[k]:=List.getElem?_eq_getElem hlt
    generalize l[k]=x at hg
    have hki:(k:Int) < (l.length:Int):=by omega
    have hki0:(0:Int)≤(k:Int):=by omega
    obtain ⟨yb,yo,cs,rfl,hyF,_,hyc,hyr⟩:=hX'.out k x hg
    obtain rfl:cs=(kL x):=hyr
    have hlen:(t ++ nB (l.length:Int) ++ (l.take k).flatMap classE).length+(classE x).length≤800000000:=by
     have h9:=HLB.out
     rw [HE.out,List.length_append] at h9
     have h8:=flat_take (enc:=classE) hg
     simp only [List.length_append] at h8 h9 ⊢
     omega
    have HR:=Lib.hid hyc
    have hx:=box_full (W:=wr) 154 #[.int .i64 0,.int .i64 0,.int .i64 0,.int .i64 0] (vs:=(kL x)) rfl
    have HFA:=Lib.hid (fr_up (gp:=gp) (v:=v') hx.2)
    have HC:=Lib.hid (wclassW gp v' _ _ wr.heap.size 0 x (HW.out x (List.mem_of_getElem? hg)) hlen (World.setCells (wr.alloc (.cells #[.int .i64 0,.int .i64 0,.int .i64 0,.int .i64 0] 154)) wr.heap.size 0 (kL x)) (PW.up hP'.out hx.2) (WAt.blk hx.1 (new_below hP'.out hx.2 hx.1.lt)))
    clear hx
    have HG:=Lib.hid hg
    clear hg hyF hlen hyc
    go_wp2_with (first | (refine wpList_load_mid rfl 154 _ rfl _ _ rfl _ _ HR.out Try.underlying154 rfl (by kernel_rfl) ?_) | (refine wpList_store_mid rfl 154 _ _ rfl wr.heap.size 0 (List.toArray (kL x)) rfl rfl (there_of (Blk.new _ 154 #[.int .i64 0,.int .i64 0,.int .i64 0,.int .i64 0]) (Nat.le_of_ble_eq_true rfl)) (by kernel_rfl) (by kernel_rfl) ?_;simp only [List.toList_toArray];generalize World.setCells _ _ _ _=wz at *))
    refine HC.out.mono ?_
    rintro e w3 ⟨⟨r,rfl⟩,v3,hP3,hF3⟩
    have H3:=Lib.hid (And.intro hP3 (And.intro ((hFr.out.trans HFA.out).trans hF3) ((hX'.out.fr kStaysF HFA.out).fr kStaysF hF3)))
    clear hP3 hF3 HC
    go_wp2_with fail
    go_roundw
    case measure=>simp [intOf];omega
    refine ⟨k+1,v3,by omega,by go_num,?_,H3.out.2.1,H3.out.2.2⟩
    rw [take_snoc HG.out,List.flatMap_append,← List.append_assoc,List.all_append,show (List.flatMap classE [x])=classE x from by simp,show (List.all [x] yes)=yes x from by simp]
    rw [show (od || !((l.take k).all yes && yes x))=(od || !((l.take k).all yes) || !(yes x)) by cases od <;> cases (l.take k).all yes <;> cases yes x <;> rfl]
    exact H3.out.1
   ·obtain rfl:k=l.length:=by omega
    go_wp2_with fail
    go_end0
    refine ⟨⟨_,rfl⟩,v',?_,hFr.out⟩
    have:=hP'.out
    rw [HE.out,HO.out]
    rwa [List.take_length,List.append_assoc] at this
 ·have HE:=Lib.hid (show listE classE l=nB (l.length:Int) from by unfold listE;rw [if_neg hn,List.append_nil])
  have HO:=Lib.hid (show listO yes l=false from by unfold listO;rw [decide_eq_false hn,Bool.false_and])
  have hn0:¬ ((l.length:Int) < 0):=by omega
  have hn1:(1000:Int) < (l.length:Int):=by omega
  have pf:=hP1.1.frozen 2
  have po:w1.cell? ⟨gp,2,none⟩=some (.bool od):=hP1.1.cell 2
  have cf:w1.frozen? ⟨w.heap.size,0,none⟩=false:=(H0.out.1.fr hF1).f0 _ rfl
  have hgn:gp≠w.heap.size:=fun h=>H0.out.1.far.2.1 h.symm
  have hFn:Far gp v1 w1 w.heap.size:=hF1.far H0.out.1.far
  have hbn:b≠w.heap.size:=by have:=cell_lt ca;simp at this;omega
  have hbg:b≠gp:=H0.out.2.1.far.2.1
  have hPo:=PW.odd hP1 true
  have hFo:Fr gp v w v1 (w1.setCell ⟨gp,2,none⟩ (.bool true)):=hF01.set_ (.inl rfl) _
  have hPz:PW ((w1.setCell ⟨gp,2,none⟩ (.bool true)).setCell ⟨w.heap.size,0,none⟩ (.int .i64 0)) gp v1 (t ++ nB (l.length:Int)) true:=hPo.far (p:=⟨w.heap.size,0,none⟩) ⟨by simpa using hFn.1,hFn.2⟩ _
  have hFz:Fr gp v w v1 ((w1.setCell ⟨gp,2,none⟩ (.bool true)).setCell ⟨w.heap.size,0,none⟩ (.int .i64 0)):=hFo.set_ (.inr (Nat.le_refl _)) _
  have dn:((w1.setCell ⟨gp,2,none⟩ (.bool true)).setCell ⟨w.heap.size,0,none⟩ (.int .i64 0)).cell? ⟨w.heap.size,0,none⟩=some (.int .i64 0):=cell_set_new (by rw [cell_set_far (by simpa using hgn.symm)];exact cn)
  have dl:((w1.setCell ⟨gp,2,none⟩ (.bool true)).setCell ⟨w.heap.size,0,none⟩ (.int .i64 0)).cell? ⟨b,o,none⟩=some (.slice X l.length c):=by
   rw [World.cell?_of_block (Below.heap_setCell _ _ _ b (by simpa using hbn)),World.cell?_of_block (Below.heap_setCell _ _ _ b (by simpa using hbg))];exact cl
  have dp:((w1.setCell ⟨gp,2,none⟩ (.bool true)).setCell ⟨w.heap.size,0,none⟩ (.int .i64 0)).cell? ⟨gp,1,none⟩=some (.bool false):=hPz.1.cell 1
  have H1:=Lib.hid (And.intro hPz (And.intro hFz (And.intro dn (And.intro dl dp))))
  clear hPz hFz hPo hFo dn dl dp hP1 hF1 hF01 HC H0 ca hX1 hFn
  have hng:w.heap.size≠gp:=fun h=>hgn h.symm
  go_upto_region 5 with fail
  clear hgn hbn hbg cl p1 hng po
  generalize (w1.setCell ⟨gp,2,none⟩ (.bool true)).setCell ⟨w.heap.size,0,none⟩ (.int .i64 0)=w2 at *
  have cn2:=H1.out.2.2.1
  have cl2:=H1.out.2.2.2.1
  have p2:=H1.out.2.2.2.2
  clear cn cf pf
  go_wp2_with fail
  have kq0:=cell_regrown cn2
  have kq1:=cell_regrown cl2
  refine wp_region_quiet_below (by kernel_rfl) (by kernel_rfl) ?_
  repeat (go_big_quiet_step (first | fail))
  refine wpQuiet_nil ?_
  intro _ hw'
  obtain ⟨⟨dq,osq⟩,hw''⟩:=hw'
  subst hw''
  have hBq:=below_regrown w2 dq osq
  have hP2:=PW.up H1.out.1 hBq
  have hF2:=Fr.up H1.out.2.1 hBq
  clear kq0 kq1 cn2 cl2 p2 H1
  generalize grow (redrawn w2 dq) osq=w3 at *
  have H2:=Lib.hid (And.intro hP2 hF2)
  clear hP2 hF2 hBq
  go_wp2_with fail
  refine wp_loop_rounds 1 ?_
  rw [rounds_succ]
  go_wp2_with fail
  go_end0
  refine ⟨⟨_,rfl⟩,v1,?_,H2.out.2⟩
  rw [HE.out,HO.out,Bool.not_false,Bool.or_true]
  exact H2.out.1
end Go.Proofs.Ytfdldbfjeamlcaa.RecWListK
