/- Several texts joined: Small words for a caller of an iterator: a new box's cell, kept over new blocks. No conditions but those named. -/
import Derived.RangeFuncNested
import Derived.RangeFuncBound
import Derived.RangeFuncCalls
import Derived.RangeFuncLeaves
import Derived.Shelf.Abstract
import Derived.Shelf.RegionOpen
import Derived.WalkKit
import Derived.OwnWalkIn
import Derived.TacticsInMore
import Derived.LoopNIn
import Derived.LoopIn
import Derived.Test.YtfdldbfjeamlcaaPG1
import Derived.Below
import Derived.Test.YtfdldbfjeamlcaaRows
import Derived.Outline
import Derived.IntWalk
import Derived.Lib.Hide
import Derived.Laws.BitsAllLaws
import Derived.Laws.BitsLemmas
import Derived.Lib.SlBytesConst
import Derived.BigQuiet
import Derived.Deep.QuietTactic
import Derived.Deep.DeepCutAuto
import Derived.Lib.QuietBelow
import Derived.Test.YtfdldbfjeamlcaaPG15
import Derived.Shelf.Bytes.SlJoin
import Derived.Deep.MidRow
import Derived.ControlIn
import Derived.RangeFuncSeq
set_option linter.unusedVariables false
set_option linter.unusedSimpArgs false
namespace Go.Proofs.Ytfdldbfjeamlcaa.SeqKit
open Go.RowKit Go.Shelf Mem
theorem box_new (W:World) (v:Value) (t:TypeId):(W.alloc (.cells #[v] t)).cell? ⟨W.heap.size,0,none⟩=some v∧(W.alloc (.cells #[v] t)).frozen? ⟨W.heap.size,0,none⟩=false:=
 ⟨(Blk.new W t #[v]).cell 0,(Blk.new W t #[v]).frozen 0⟩
theorem frozen_over {W:World} {a:Addr} {v:Value} (o:Obj) (h:W.cell? a=some v) (hf:W.frozen? a=false):(W.alloc o).frozen? a=false:=by
 have hlt:a.block < W.heap.size:=by
  rcases Nat.lt_or_ge a.block W.heap.size with h1 | h1
  ·exact h1
  ·simp [World.cell?,Array.getElem?_eq_none h1] at h
 rw [← hf];exact ((Below.refl a.block.succ W).alloc (by omega) o).frozen (p:=a) (by omega)
end Go.Proofs.Ytfdldbfjeamlcaa.SeqKit
namespace Go.Proofs.Ytfdldbfjeamlcaa.MarkMath
def stp (m c:Int):Int:=(m*65537+c+1) % 4294967291
def mk (m:Int) (l:List Int):Int:=l.foldl stp m
def isBytes (l:List Int):Prop:=∀ x ∈ l,0≤x∧x≤255
theorem stp_lt (m c:Int):0≤stp m c∧stp m c < 4294967291:=by unfold stp;omega
theorem mk_cons (m c:Int) (l:List Int):mk m (c :: l)=mk (stp m c) l:=rfl
theorem mk_snoc (m:Int) (a:List Int) (c:Int):mk m (a ++ [c])=stp (mk m a) c:=by simp [mk]
theorem mk_range (l:List Int):∀ m,0≤m→m < 4294967291→0≤mk m l∧mk m l < 4294967291:=by
 induction l with
 | nil=>intro m h0 h1;exact ⟨h0,h1⟩
 | cons c l ih=>intro m _ _;rw [mk_cons];exact ih _ (stp_lt m c).1 (stp_lt m c).2
def R (a b:Int):Prop:=a % 4294967291=b % 4294967291
theorem R.refl (a:Int):R a a:=rfl
theorem R.symm {a b:Int} (h:R a b):R b a:=Eq.symm h
theorem R.trans {a b c:Int} (h:R a b) (k:R b c):R a c:=Eq.trans h k
theorem R.mod (a:Int):R (a % 4294967291) a:=Int.emod_emod_of_dvd _ (Int.dvd_refl _)
theorem R.add {a b c d:Int} (h:R a b) (k:R c d):R (a+c) (b+d):=by unfold R at *;rw [Int.add_emod,h,k,← Int.add_emod]
theorem R.mul {a b c d:Int} (h:R a b) (k:R c d):R (a*c) (b*d):=by unfold R at *;rw [Int.mul_emod,h,k,← Int.mul_emod]
theorem R.of_eq {a b:Int} (h:a=b):R a b:=by rw [h];rfl
theorem R.small {a b:Int} (h:R a b) (h0:0≤a) (h1:a < 4294967291):a=b % 4294967291:=by unfold R at h;omega
theorem stp_R (m c:Int):R (stp m c) (m*65537+c+1):=R.mod _
def wt (n i:Nat):Int:=65537 ^ (n - 1 - i) % 4294967291
def sm (l:List Int) (n:Nat):Nat→Int
 | 0=>0
 | k+1=>(sm l n k+wt n k*(l.getD k 0+1)) % 4294967291
theorem sm_range (l:List Int) (n k:Nat):0≤sm l n k∧sm l n k < 4294967291:=by
 cases k with
 | zero=>simp [sm]
 | succ k=>unfold sm;omega
theorem wt_range (n i:Nat):0≤wt n i∧wt n i < 4294967291:=by unfold wt;omega
theorem sm_R (l:List Int):∀ k,k≤l.length→R (sm l l.length k) (mk 0 (l.take k)*65537 ^ (l.length - k)):=by
 intro k
 induction k with
 | zero=>intro _;exact R.of_eq (by simp [sm,mk])
 | succ k ih =>
  intro hk
  have hk':k < l.length:=by omega
  have e:l.take (k+1)=l.take k ++ [l[k]]:=by rw [List.take_succ_eq_append_getElem hk']
  rw [e,mk_snoc]
  unfold sm
  refine (R.mod _).trans ?_
  have h1:R (wt l.length k) (65537 ^ (l.length - (k+1))):=by unfold wt;rw [show l.length - 1 - k=l.length - (k+1) from by omega];exact R.mod _
  refine ((ih (by omega)).add (h1.mul (R.refl _))).trans ?_
  refine R.trans ?_ ((stp_R _ _).mul (R.refl _)).symm
  rw [show l.length - k=l.length - (k+1)+1 from by omega,Int.pow_succ]
  refine R.of_eq ?_
  rw [List.getD_eq_getElem?_getD,List.getElem?_eq_getElem hk',Option.getD_some]
  generalize (65537:Int) ^ (l.length - (k+1))=t
  generalize mk 0 (l.take k)=z
  grind
theorem sm_mk (l:List Int):sm l l.length l.length=mk 0 l:=by
 have h:=sm_R l l.length (Nat.le_refl _)
 rw [Nat.sub_self,Int.pow_zero,Int.mul_one,List.take_length] at h
 have h2:=h.small (sm_range _ _ _).1 (sm_range _ _ _).2
 have h3:=mk_range l 0 (by omega) (by omega)
 omega
end Go.Proofs.Ytfdldbfjeamlcaa.MarkMath
namespace Go.Proofs.Ytfdldbfjeamlcaa.MarkWalks
open Go.RowKit MarkMath
theorem mixed_any (m by_ more:Int) (w:World) (h0:0≤m*by_) (h1:m*by_≤18446744030759878681) (h2:0≤more) (h3:more≤4294967295) :
    Calls Try.prog 123 #[.int .u64 m,.int .u64 by_,.int .u64 more] w fun e w' => e = .returned (.int .u64 ((m*by_+more) % 4294967291))∧w=w':=by
 go_enter Try.func123,Try.ntmps123
 go_wp2
 go_ret
 exact ⟨rfl,rfl⟩
end Go.Proofs.Ytfdldbfjeamlcaa.MarkWalks
namespace Go.Proofs.Ytfdldbfjeamlcaa.MarkSeq
set_option maxRecDepth 100000
set_option maxHeartbeats 2000000
open Go.RowKit Go.Shelf MarkMath MarkWalks Mem SeqKit
attribute [local go_sem] Oper.semAt_some
theorem each_in (F:Fence) (n:Nat) (hf:F.fn 122) (hro:F.round=none) (v:Value) (w:World) (hv:v.oneCell' = true) :
    CallsIn F n Try.prog 122 #[v] w fun e w' => e = .returned (.func (.func 127) #[] #[.pointer (some ⟨w.heap.size,0,none⟩)])∧w' = w.alloc (.cells #[v] 139):=by
 refine callsIn_of_wp Try.func122 rfl hf ?_ hro
 simp only [Try.ntmps122,List.size_toArray,List.length_cons,List.length_nil,Nat.reduceAdd,Nat.reduceSub,Array.replicate_succ,Array.replicate_zero,List.push_toArray,List.append_toArray,List.nil_append,List.cons_append]
 gi_wp2
 go_ret
 exact ⟨rfl,rfl⟩
abbrev B8:={ x:Int // 0≤x∧x≤255 }
def ints (l:List B8):List Int:=l.map (·.1)
theorem ints_length (l:List B8):(ints l).length=l.length:=by simp [ints]
theorem of_bytes:∀ l:List Int,isBytes l→∃ b:List B8,ints b=l
 | [],_=>⟨[],rfl⟩
 | x :: l,h=>by
  obtain ⟨b,hb⟩:=of_bytes l (fun y hy=>h y (by simp [hy]))
  exact ⟨⟨x,h x (by simp)⟩ :: b,by simp [ints] at hb ⊢;exact hb⟩
theorem take_flat (ps:List (List B8)) (i:Nat) (b:List B8) (h:ps[i]? = some b):(ps.take (i+1)).flatten=(ps.take i).flatten ++ b:=by
 have hi:i < ps.length:=(List.getElem?_eq_some_iff.1 h).1
 have hb:ps[i]=b:=(List.getElem?_eq_some_iff.1 h).2
 rw [List.take_succ_eq_append_getElem hi,hb]
 simp
theorem room (ps:List (List B8)) (i j:Nat) (b:List B8) (h:ps[i]? = some b) (hj:j < b.length):((ps.take i).flatten ++ b.take j).length < ps.flatten.length:=by
 have e:=take_flat ps i b h
 have e2:ps.flatten=(ps.take (i+1)).flatten ++ (ps.drop (i+1)).flatten:=by rw [← List.flatten_append,List.take_append_drop]
 rw [e2,e]
 simp only [List.length_append,List.length_take]
 omega
theorem each1_in (F:Fence) (n:Nat) (hf:F.fn 127) (hro:F.round=none) (hn:1≤n) (l Bp n₀:Nat) (A:Option Addr) (c:Nat) (ps:List (List B8)) (hlen:ps.length≤4611686018427387904) (hlens:∀ b ∈ ps,b.length≤4611686018427387904)
    (J Jx:List B8→World→Prop)
    (hY:∀ pre x W,J pre W→pre.length < ps.flatten.length→YieldAt F (n - 1) Try.prog l #[Value.int .u8 x.1] W fun e W' =>
     (e = .returned (.bool true)∧J (pre ++ [x]) W'∧Below n₀ W W')∨(e = .returned (.bool false)∧Jx (pre ++ [x]) W'))
    (W:World) (hBp:W.cell? ⟨Bp,0,none⟩=some (.slice A ps.length c)) (hP:Parts W n₀ A (ps.map ints)) (h0:J [] W) :
    CallsIn F n Try.prog 127 #[.func (.yield l) #[] #[],.pointer (some ⟨Bp,0,none⟩)] W fun e W' => (∃ v,e = .returned v) ∧
     ((∃ ys,ys=ps.flatten∧J ys W')∨(∃ pre,True∧Jx pre W')):=by
 refine callsIn_of_wp Try.func127 rfl hf ?_ hro
 simp only [Try.ntmps127,List.size_toArray,List.length_cons,List.length_nil,Nat.reduceAdd,Nat.reduceSub,Array.replicate_succ,Array.replicate_zero,List.push_toArray,List.append_toArray,List.nil_append,List.cons_append]
 have HY:=Lib.hid hY
 have HL:=Lib.hid hlens
 have HP:=Lib.hid hP
 clear hY hlens hP
 gi_wp2
 gi_loopw [9] (fun i wr=>∃ k:Nat,k≤ps.length∧i = .int .i64 k∧Hid (J (ps.take k).flatten wr)∧Hid (Below n₀ W wr))
  (fun i _=>ps.length - (intOf i).toNat)
 case atStart=>exact ⟨0,Nat.zero_le _,rfl,h0,Below.refl _ _⟩
 case round =>
  obtain ⟨k,hk,rfl,hJ,hB⟩:=hrel
  obtain ⟨wo,rfl⟩:∃ wo:World,wo=wr:=⟨_,rfl⟩
  by_cases hlt:k < ps.length
  ·have hb:ps[k]? = some ps[k]:=List.getElem?_eq_getElem hlt
   generalize ps[k]=b at hb
   have hbl:b.length≤4611686018427387904:=HL.out b (List.mem_of_getElem? hb)
   have hb':(ps.map ints)[k]? = some (ints b):=by rw [List.getElem?_map,hb];rfl
   obtain ⟨ad,X,cX,hA,hadB,hcell,hX⟩:=(HP.out.below hB.out).at_ hb'
   rw [ints_length] at hcell hX
   subst hA
   have Hb:=Lib.hid hb
   have HX:=Lib.hid hX
   clear hb hb' hX
   gi_wp2
   gi_loopw [15] (fun j wi=>∃ m:Nat,m≤b.length∧j = .int .i64 m∧Hid (J ((ps.take k).flatten ++ b.take m) wi)∧Hid (Below n₀ wo wi))
    (fun j _=>b.length - (intOf j).toNat)
   case atStart=>exact ⟨0,Nat.zero_le _,rfl,by simpa using hJ,Below.refl _ _⟩
   case round =>
    obtain ⟨m,hm,rfl,hJ2,hB2⟩:=hrel
    by_cases hlt2:m < b.length
    ·have hx:(u8s (ints b))[m]? = some (.int .u8 b[m].1):=by simp [u8s,ints,hlt2]
     obtain ⟨ad2,u,hX2,had2,hu,hc2⟩:=(HX.out.below hB2.out).at_ hlt2
     rw [hx] at hu
     cases hu
     subst hX2
     obtain ⟨fn,tmps,assign,body,hy,hR⟩:=HY.out _ b[m] wr hJ2.out (room ps k m b Hb.out hlt2)
     have HR:=Lib.hid hR
     clear hR hx
     gi_wp2
     refine HR.out.mono ?_
     rintro e W3 (⟨rfl,hJ3,hk3⟩ | ⟨rfl,hJx3⟩)
     ·have HJ3:=Lib.hid hJ3
      have HK3:=Lib.hid hk3
      clear hJ3 hk3
      gi_wp2
      go_roundw
      case rel=>exact ⟨m+1,by omega,by go_num,by rw [List.take_succ_eq_append_getElem hlt2,← List.append_assoc];exact HJ3.out,hB2.out.trans HK3.out⟩
      case measure=>simp [intOf];omega
     ·have HJ3:=Lib.hid hJx3
      clear hJx3
      gi_wp2
      refine bodyPost_ret (results_none rfl _ _ _) rfl ?_
      exact ⟨⟨_,rfl⟩,.inr ⟨_,trivial,HJ3.out⟩⟩
    ·obtain rfl:m=b.length:=by omega
     gi_wp2
     go_roundw
     case rel=>exact ⟨k+1,by omega,by go_num,by have e:=take_flat ps k b Hb.out;have h2:=hJ2.out;rw [List.take_length] at h2;rw [e];exact h2,hB.out.trans hB2.out⟩
     case measure=>simp [intOf];omega
  ·obtain rfl:k=ps.length:=by omega
   gi_wp2
   go_end0
   exact ⟨⟨_,rfl⟩,.inl ⟨_,rfl,by have h2:=hJ.out;rw [List.take_length] at h2;exact h2⟩⟩
theorem each_stops (F:Fence) (n:Nat) (hf:F.fn 127) (hro:F.round=none) (hn:1≤n) (Bp n₀:Nat) (A:Option Addr) (c:Nat) (ps:List (List B8)) (hlen:ps.length≤4611686018427387904) (hlens:∀ b ∈ ps,b.length≤4611686018427387904)
    (w:World) (hBp:Bp < w.heap.size) (hn₀:n₀≤w.heap.size) (hc:w.cell? ⟨Bp,0,none⟩=some (.slice A ps.length c)) (hP:Parts w n₀ A (ps.map ints)) :
    SeqStopsK F n Try.prog 127 #[.pointer (some ⟨Bp,0,none⟩)] (fun x:B8=>#[Value.int .u8 x.1]) (Below n₀) (fun ys=>ys=ps.flatten) (fun _=>True) ps.flatten.length w:=fun l J Jx W hW _ _ hY h0 =>
 each1_in F n hf hro hn l Bp n₀ A c ps hlen hlens J Jx hY W ((hW.cell (p:=⟨Bp,0,none⟩) hBp).trans hc) (hP.below (hW.mono hn₀)) h0
theorem mk_bytes_snoc (m:Int) (pre:List B8) (x:B8):mk m (ints (pre ++ [x]))=stp (mk m (ints pre)) x.1:=by simp [ints,mk]
theorem from_any (m:Int) (hm0:0≤m) (hm1:m < 4294967291) (A:Option Addr) (c:Nat) (ps:List (List B8)) (hlen:ps.length≤4611686018427387904) (hlens:∀ b ∈ ps,b.length≤4611686018427387904) (w:World) (hP:Parts w w.heap.size A (ps.map ints)) :
    Calls Try.prog 97 #[.int .u64 m,.slice A ps.length c] w fun e w' => e = .returned (.int .u32 (mk m (ints ps.flatten)))∧Below w.heap.size w w':=by
 refine (callsIn_wide (n:=5)).1 ?_
 refine callsIn_of_wp_marks Try.func97 rfl trivial ?_ rfl
 simp only [Try.ntmps97,List.size_toArray,List.length_cons,List.length_nil,Nat.reduceAdd,Nat.reduceSub,Array.replicate_succ,Array.replicate_zero,List.push_toArray,List.append_toArray,List.nil_append,List.cons_append]
 have HL:=Lib.hid hlens
 have HP:=Lib.hid hP
 clear hlens hP
 gi_wp2_with (refine ⟨trivial,?_⟩;gi_at_call 122;refine (each_in Fence.wide 4 trivial rfl _ _ rfl).mono ?_;rintro e w' ⟨rfl,rfl⟩)
 have hs:=box_new w (.int .u64 m) 158
 have hb:=box_new (w.alloc (.cells #[.int .u64 m] 158)) (.slice A ps.length c) 139
 rw [World.size_alloc] at hb
 have hP2:Parts ((w.alloc (.cells #[.int .u64 m] 158)).alloc (.cells #[.slice A ps.length c] 139)) w.heap.size A (ps.map ints):=HP.out.below (((Below.refl _ w).alloc (Nat.le_refl _) _).alloc (by simp) _)
 refine wpIn_rangeFunc_ownF rfl (by omega) (gf:=127) (lb:=#[.pointer (some ⟨w.heap.size+1,0,none⟩)]) rfl trivial (enters_of Try.func127 (by kernel_rfl) rfl)
  (each_stops Fence.wide 4 trivial rfl (by omega) (w.heap.size+1) w.heap.size A c ps hlen HL.out _ (by simp) (by simp;omega) hb.1 hP2) belowK_t (belowK_b (by simp;omega)) (Below.refl _ _) (fun _=>rfl)
  (fun pre W=>(W.cell? ⟨w.heap.size,0,none⟩=some (.int .u64 (mk m (ints pre)))∧W.frozen? ⟨w.heap.size,0,none⟩=false)∧Below w.heap.size w W)
  (fun _ _ _=>False)
  (OwnFrom.and (Own.from (fun s A B row hs hg hr=>⟨cell_kept hs.1 hg hr,(frozen_kept hs.1 hg hr).trans hs.2⟩) _) (ownFrom_below (Nat.le_refl _) (by simp;omega)))
  (fun _=>Own.from (fun _ _ _ _ hs _ _=>hs) _)
  ⟨⟨cell_over _ hs.1,frozen_over _ hs.1 hs.2⟩,((Below.refl _ w).alloc (Nat.le_refl _) _).alloc (by simp) _⟩
  (fun x=>{ tmps:=#[.int .u64 m,.slice A ps.length c,.pointer (some ⟨w.heap.size,0,none⟩),undef,.int .u32 0,.int .u8 x.1,.slice A ps.length c,.func (.func 127) #[] #[.pointer (some ⟨w.heap.size+1,0,none⟩)],.int .u8 x.1,undef,undef,undef,undef,undef,undef,undef],defers:=[] }) ?assign ?body ?done ?stop
 case assign =>
  intro l x W K hK
  gi_wp2
  exact hK
 case body =>
  rintro l pre x W ⟨⟨hc,hf⟩,hB⟩ _
  have hr:=mk_range (ints pre) m hm0 hm1
  obtain ⟨hx0,hx1⟩:=x.2
  obtain ⟨hr0,hr1⟩:=hr
  have HB:=Lib.hid hB
  clear hB
  have e1:=mk_bytes_snoc m pre x
  have E1:=Lib.hid e1
  clear e1
  generalize mk m (ints pre)=z at *
  obtain ⟨x,hx⟩:=x
  dsimp only at *
  gi_wp2_with (refine ⟨trivial,?_⟩;gi_at_call 123;refine (CallsIn.inRound l (callsIn_wide.2 (mixed_any z 65537 (x+1) _ (by omega) (by omega) (by omega) (by omega)))).mono ?_;rintro e w' ⟨rfl,rfl⟩)
  exact ⟨KeepsOthers.setCell _ _ _,(Below.refl w.heap.size W).setCell (p:=⟨w.heap.size,0,none⟩) (Nat.le_refl _) _,⟨by rw [E1.out];unfold stp;rw [Int.add_assoc];exact World.cell?_setCell_same' _ _ _ (by rw [hc];rfl),by rw [World.frozen?_setCell];exact hf⟩,HB.out.setCell (p:=⟨w.heap.size,0,none⟩) (Nat.le_refl _) _⟩
 case done =>
  rintro D ys W hD rfl ⟨⟨hc,_⟩,hB⟩ hK
  have hr:=mk_range (ints ps.flatten) m hm0 hm1
  obtain ⟨hr0,hr1⟩:=hr
  have HB:=Lib.hid hB
  clear hB
  gi_wp2
  refine ⟨by simp,.inl ⟨_,_,rfl,run_takeDeferred hK,?_⟩⟩
  refine ⟨_,results_tmp rfl _ _ _,rfl,?_⟩
  exact HB.out.trans (belowK_b (w:=w) (Nat.le_refl _) W D _ _ (by simp at hD;omega) hK rfl rfl)
 case stop =>
  rintro D c pre W _ _ h _
  exact h.elim
end Go.Proofs.Ytfdldbfjeamlcaa.MarkSeq
namespace Go.Proofs.Ytfdldbfjeamlcaa.MarkOf
open Go.RowKit Go.Shelf MarkMath MarkWalks Mem SeqKit MarkSeq
theorem of_any (A:Option Addr) (c:Nat) (ps:List (List B8)) (hlen:ps.length≤4611686018427387904) (hlens:∀ b ∈ ps,b.length≤4611686018427387904) (w:World) (hP:Parts w w.heap.size A (ps.map ints)) :
    Calls Try.prog 68 #[.slice A ps.length c] w fun e w' => e = .returned (.int .u32 (mk 0 (ints ps.flatten)))∧Below w.heap.size w w':=by
 have HL:=Lib.hid hlens
 have HP:=Lib.hid hP
 clear hlens hP
 go_enter Try.func68,Try.ntmps68
 go_wp2_with fail
 refine (from_any 0 (by omega) (by omega) A c ps hlen HL.out _ HP.out).mono ?_
 rintro e w' ⟨rfl,hB⟩
 have HB:=Lib.hid hB
 clear hB
 go_wp2_with fail
 go_ret
 exact ⟨rfl,HB.out⟩
theorem parts_one (w:World) (t:TypeId) (X:Option Addr) (b:List B8) (c B:Nat) (hB:B=w.heap.size+1) (hR:Reads w w.heap.size 1 X b.length (u8s (ints b))) :
    Parts (w.alloc (.cells #[.slice X b.length c] t)) B (some ⟨w.heap.size,0,none⟩) ([b].map ints):=by
 subst hB
 refine ⟨[.slice X b.length c],⟨rfl,fun _=>⟨_,rfl,by simp,?_⟩⟩,?_⟩
 ·intro j u hu
  cases j with
  | zero=>cases hu;exact (Blk.new w t #[.slice X b.length c]).cell 0
  | succ j=>simp at hu
 ·intro i l hl
  cases i with
  | zero=>cases hl;exact ⟨X,c,by rw [ints_length];rfl,by rw [ints_length];exact (hR.alloc (Nat.le_refl _) _).more (by omega)⟩
  | succ i=>simp at hl
theorem of_one (X:Option Addr) (c:Nat) (b:List B8) (hb:b.length≤4611686018427387904) (w:World) (t:TypeId) (hR:Reads w w.heap.size 1 X b.length (u8s (ints b))) :
    Calls Try.prog 68 #[.slice (some ⟨w.heap.size,0,none⟩) 1 1] (w.alloc (.cells #[.slice X b.length c] t)) fun e w' => e = .returned (.int .u32 (mk 0 (ints b)))∧Below w.heap.size w w':=by
 have h:=of_any (some ⟨w.heap.size,0,none⟩) 1 [b] (by simp) (by simpa using hb) (w.alloc (.cells #[.slice X b.length c] t)) (parts_one w t X b c _ (by simp) hR)
 refine h.mono fun e w' ⟨he,hB⟩=>⟨by simpa using he,?_⟩
 exact ((Below.refl _ w).alloc (Nat.le_refl _) _).trans (hB.mono (by simp))
end Go.Proofs.Ytfdldbfjeamlcaa.MarkOf
namespace Go.Proofs.Ytfdldbfjeamlcaa.LogFour
set_option maxRecDepth 100000
set_option maxHeartbeats 2000000
open Go.Sort Go.RowKit Mem RecCod RecRead RecAll
def fourB (n:Int):Bs:=[n % 256,n / 256 % 256,n / 65536 % 256,n / 16777216 % 256]
theorem fourB_oct (n:Int):Oct (fourB n):=fun b hb=>by
 simp only [fourB,List.mem_cons,List.not_mem_nil,or_false] at hb
 rcases hb with rfl | rfl | rfl | rfl <;> omega
def numb (a b c d:Int):Int:=a+256*b+65536*c+16777216*d
theorem or4 {a b c d:Int} (ha:0≤a∧a < 256) (hb:0≤b∧b < 256) (hc:0≤c∧c < 256) (hd:0≤d∧d < 256) :
    bits .or .u32 (bits .or .u32 (bits .or .u32 a (b*256)) (c*65536)) (d*16777216)=numb a b c d:=by
 have e1:=Go.u32_or a (b*256) (by omega) (by omega) (by omega) (by omega)
 have f1:=Nat.two_pow_add_eq_or_of_lt (i:=8) (b:=a.toNat) (by omega) b.toNat
 rw [show (b*256).toNat=2 ^ 8*b.toNat by omega,Nat.or_comm,← f1] at e1
 rw [e1]
 have g1:((2 ^ 8*b.toNat+a.toNat:Nat):Int)=a+256*b:=by omega
 rw [g1]
 have e2:=Go.u32_or (a+256*b) (c*65536) (by omega) (by omega) (by omega) (by omega)
 have f2:=Nat.two_pow_add_eq_or_of_lt (i:=16) (b:=(a+256*b).toNat) (by omega) c.toNat
 rw [show (c*65536).toNat=2 ^ 16*c.toNat by omega,Nat.or_comm,← f2] at e2
 rw [e2]
 have g2:((2 ^ 16*c.toNat+(a+256*b).toNat:Nat):Int)=a+256*b+65536*c:=by omega
 rw [g2]
 have e3:=Go.u32_or (a+256*b+65536*c) (d*16777216) (by omega) (by omega) (by omega) (by omega)
 have f3:=Nat.two_pow_add_eq_or_of_lt (i:=24) (b:=(a+256*b+65536*c).toNat) (by omega) d.toNat
 rw [show (d*16777216).toNat=2 ^ 24*d.toNat by omega,Nat.or_comm,← f3] at e3
 rw [e3]
 unfold numb
 omega
theorem four_any (n:Int) (h0:0≤n) (h1:n < 4294967296) (w:World) :
    Calls Try.prog 67 #[.int .u32 n] w fun e w' => e = .returned (.slice (some ⟨w.heap.size,0,none⟩) 4 4)∧w' = w.alloc (.cells #[.int .u8 (n % 256),.int .u8 (n / 256 % 256),.int .u8 (n / 65536 % 256),.int .u8 (n / 16777216 % 256)] 5):=by
 go_enter Try.func67,Try.ntmps67
 go_wp2_with fail
 go_ret
 refine ⟨rfl,?_⟩
 rw [show n / 16777216 % 256=n / 16777216 by omega]
theorem number_any (X:Option Addr) (t:Bs) (c:Nat) (a b d f:Int) (u:Bs) (ht:t=a :: b :: d :: f :: u) (ho:Oct t) (hl:t.length≤9223372036854775807) (w:World) (hX:TxtAt w X t) :
    Calls Try.prog 100 #[.slice X t.length c] w fun e w' => e = .returned (.int .u32 (numb a b d f))∧Below w.heap.size w w':=by
 subst ht
 obtain ⟨tb,o,rfl,h1,x0⟩:=hX 0 a rfl
 obtain ⟨tb1,o1,e1,_,x1⟩:=hX 1 b rfl
 cases e1
 obtain ⟨tb2,o2,e2,_,x2⟩:=hX 2 d rfl
 cases e2
 obtain ⟨tb3,o3,e3,_,x3⟩:=hX 3 f rfl
 cases e3
 have c0:w.cell? ⟨tb,o,none⟩=some (.int .u8 a):=x0
 have c1:w.cell? ⟨tb,o+1,none⟩=some (.int .u8 b):=x1
 have c2:w.cell? ⟨tb,o+2,none⟩=some (.int .u8 d):=x2
 have c3:w.cell? ⟨tb,o+3,none⟩=some (.int .u8 f):=x3
 have ha:=ho a (by simp)
 have hb:=ho b (by simp)
 have hd:=ho d (by simp)
 have hf:=ho f (by simp)
 clear x0 x1 x2 x3 hX ho h1
 have hlen:(a :: b :: d :: f :: u).length=u.length+4:=rfl
 rw [hlen] at hl ⊢
 have HO:=Lib.hid (or4 ha hb hd hf)
 obtain ⟨ha0,ha1⟩:=ha
 obtain ⟨hb0,hb1⟩:=hb
 obtain ⟨hd0,hd1⟩:=hd
 obtain ⟨hf0,hf1⟩:=hf
 clear hlen
 go_enter Try.func100,Try.ntmps100
 go_upto_region 1 with fail
 have kq0:=cell_regrown c0
 have kq1:=cell_regrown c1
 have kq2:=cell_regrown c2
 have kq3:=cell_regrown c3
 refine wp_region_quiet_below (by kernel_rfl) (by kernel_rfl) ?_
 repeat (go_big_quiet_step (first | fail))
 refine wpQuiet_nil ?_
 intro _ hw'
 obtain ⟨⟨dq,osq⟩,hw''⟩:=hw'
 subst hw''
 have hBq:=below_regrown w dq osq
 clear kq0 kq1 kq2 kq3
 generalize grow (redrawn w dq) osq=w2 at *
 go_wp2_with fail
 go_ret
 refine ⟨?_,hBq⟩
 rw [← HO.out];rfl
end Go.Proofs.Ytfdldbfjeamlcaa.LogFour
namespace Go.Proofs.Ytfdldbfjeamlcaa.LogJoin
open Go.Shelf Go.RowKit Mem RecMem RecCod RecWr0 RecRead RecAll LogFour
def rn:Ren:=⟨fun n=>if n=14 then 66 else if n=15 then 96 else n,fun n=>if n=0 then 0 else if n=3 then 3 else if n=4 then 4 else if n=9 then 9 else if n=20 then 20 else if n=22 then 37 else if n=26 then 139 else if n=5 then 5 else n,fun n=>n⟩
theorem lay:SlLaysJ.n14 Try.prog rn:={
 mixed:=by kernel_rfl
 f14:=Try.func66.trans (by kernel_rfl)
 f15:=Try.func96.trans (by kernel_rfl)
 t0:=Try.underlying0
 a0:=fun w=>by kernel_rfl
 z0:=fun w=>by kernel_rfl
 v0:=fun w=>by kernel_rfl
 t3:=Try.underlying3
 a3:=fun w=>by kernel_rfl
 z3:=fun w=>by kernel_rfl
 v3:=fun w=>by kernel_rfl
 t4:=Try.underlying4
 a4:=fun w=>by kernel_rfl
 z4:=fun w=>by kernel_rfl
 v4:=fun w=>by kernel_rfl
 t9:=Try.underlying9
 a9:=fun w=>by kernel_rfl
 z9:=fun w=>by kernel_rfl
 v9:=fun w=>by kernel_rfl
 t20:=Try.underlying20
 a20:=fun w=>by kernel_rfl
 z20:=fun w=>by kernel_rfl
 v20:=fun w=>by kernel_rfl
 t22:=Try.underlying37
 a22:=fun w=>by kernel_rfl
 z22:=fun w=>by kernel_rfl
 v22:=fun w=>by kernel_rfl
 t26:=Try.underlying139
 a26:=fun w=>by kernel_rfl
 z26:=fun w=>by kernel_rfl
 v26:=fun w=>by kernel_rfl
 t5:=Try.underlying5
 z5:=fun w=>by kernel_rfl
 i5:=by kernel_rfl }
def u8L (t:Bs):List UInt8:=t.map fun n=>UInt8.ofNat n.toNat
theorem u8L_len (t:Bs):(u8L t).length=t.length:=by simp [u8L]
theorem u8L_num {x:Int} (h:0≤x∧x < 256):((UInt8.ofNat x.toNat).toNat:Int)=x:=by
 rw [UInt8.toNat_ofNat'];omega
theorem holds_of {w:World} {X:Option Addr} {t:Bs} {n c:Nat} (hn:n=t.length) (h:TxtAt w X t) (ho:Oct t):Lib.HoldsBytes w (.slice X n c) (u8L t):=by
 refine ⟨X,c,by rw [u8L_len,hn],fun e=>?_,fun a ha i x hx=>?_⟩
 ·cases t with
  | nil=>rfl
  | cons y t =>
   obtain ⟨_,_,e2,_⟩:=h 0 y rfl
   rw [e] at e2;cases e2
 ·unfold u8L at hx
  rw [List.getElem?_map] at hx
  cases hi:t[i]? with
  | none=>rw [hi] at hx;cases hx
  | some y =>
   rw [hi] at hx
   cases hx
   obtain ⟨b,o,e2,_,hc⟩:=h i y hi
   rw [e2] at ha
   cases ha
   rw [add_flat,hc,u8L_num (ho y (List.mem_of_getElem? hi))]
structure Fresh (B:Nat) (w:World) (g:Nat) (t:Bs) (c:Nat):Prop where
 le:B≤g
 lt:g < w.heap.size
 cap:t.length≤c
 top:c≤maxLen
 cell:∀ i x,t[i]? = some x→w.cell? ⟨g,i,none⟩=some (.int .u8 x)
 free:∀ i,i < c→w.frozen? ⟨g,i,none⟩=false
theorem Fresh.txt {B:Nat} {w:World} {g:Nat} {t:Bs} {c:Nat} (h:Fresh B w g t c):TxtAt w (some ⟨g,0,none⟩) t:=fun i x hi=>⟨g,0,rfl,h.lt,by rw [Nat.zero_add];exact h.cell i x hi⟩
theorem Fresh.up {B:Nat} {w w':World} {g:Nat} {t:Bs} {c:Nat} (h:Fresh B w g t c) (hB:Below w.heap.size w w'):Fresh B w' g t c:=
 ⟨h.le,Nat.lt_of_lt_of_le h.lt hB.size,h.cap,h.top,fun i x hi=>keep_cell (h.cell i x hi) hB,fun i hi=>(hB.frozen (p:=⟨g,i,none⟩) h.lt).trans (h.free i hi)⟩
theorem join3 (g:Nat) (X Y Z:Option Addr) (a b c:Bs) (na nb nc ca cb cc:Nat) (ea:na=a.length) (eb:nb=b.length) (ec:nc=c.length) (ha:Oct a) (hb:Oct b) (hc:Oct c) (hla:a.length≤1000000000) (hlb:b.length≤1000000000) (hlc:c.length≤1000000000)
    (w:World) (hg:Blk w g 37 #[.slice X na ca,.slice Y nb cb,.slice Z nc cc]) (hA:TxtAt w X a) (hB:TxtAt w Y b) (hC:TxtAt w Z c) (hne:0 < a.length) :
    Calls Try.prog 66 #[.slice (some ⟨g,0,none⟩) 3 3,.slice none 0 0] w fun e w' => (∃ h k,e = .returned (.slice (some ⟨h,0,none⟩) (a ++ b ++ c).length k)∧Fresh w.heap.size w' h (a ++ b ++ c) k)∧Below w.heap.size w w':=by
 have hP:Lib.PartsAt w ⟨g,0,none⟩ [.slice X na ca,.slice Y nb cb,.slice Z nc cc] [u8L a,u8L b,u8L c]:=by
  refine ⟨rfl,fun i v hv=>?_,fun i v l hv hl=>?_⟩
  ·rw [add_flat,Nat.zero_add,hg.cell]
   simpa using hv
  ·match i with
   | 0=>simp at hv hl;subst hv hl;exact holds_of ea hA ha
   | 1=>simp at hv hl;subst hv hl;exact holds_of eb hB hb
   | 2=>simp at hv hl;subst hv hl;exact holds_of ec hC hc
   | i+3=>simp at hv
 have hS:Lib.HoldsBytes w (.slice none 0 0) ([]:List UInt8):=⟨none,0,rfl,fun _=>rfl,fun a ha=>by cases ha⟩
 have h:=Any.bytes_Join_many lay g 0 3 3 _ [u8L a,u8L b,u8L c] (.slice none 0 0) [] w rfl (by decide) hP (by decide) hS (by decide) (by simp [Lib.lens,u8L_len];omega)
 refine Calls.mono (show Calls Try.prog 66 #[.slice (some ⟨g,0,none⟩) 3 3,.slice none 0 0] w _ from h) ?_
 rintro e w' ⟨v',rfl,hF,hBl⟩
 have ej:Lib.join [u8L a,u8L b,u8L c] []=u8L (a ++ b ++ c):=by
  rw [Lib.join_cons]
  simp [Lib.joinTail,u8L,List.append_assoc]
 rw [ej] at hF
 obtain ⟨q,cap,zs,rfl,h1,h2,h3,h4,h5,h6,h7,h8⟩:=hF
 have ho:Oct (a ++ b ++ c):=(ha.app hb).app hc
 rw [u8L_len] at h2 h6 ⊢
 have hz:∀ i x,(a ++ b ++ c)[i]? = some x→zs.getD i 0=x:=fun i x hi=>by
  have hil:i < (a ++ b ++ c).length:=(List.getElem?_eq_some_iff.1 hi).1
  have e2:=congrArg (fun l=>l[i]?) h6
  unfold Lib.bytesOf u8L at e2
  rw [List.getElem?_map,List.getElem?_map,hi,List.getElem?_take_of_lt hil] at e2
  have hzi:i < zs.length:=by omega
  rw [List.getElem?_eq_getElem hzi] at e2
  have hr:=h5 zs[i] (List.getElem_mem hzi)
  have hx:=ho x (List.mem_of_getElem? hi)
  simp only [Option.map_some,Option.some.injEq] at e2
  have e3:=congrArg UInt8.toNat e2
  rw [UInt8.toNat_ofNat',UInt8.toNat_ofNat'] at e3
  rw [List.getD_eq_getElem?_getD,List.getElem?_eq_getElem hzi]
  simp only [Option.getD_some]
  omega
 refine ⟨⟨q,cap,rfl,⟨h1,?_,h2,h3,fun i x hi=>?_,h8⟩⟩,hBl⟩
 ·have hl2:a.length≤(a ++ b ++ c).length:=by simp only [List.length_append];omega
  have h0:0 < cap:=by omega
  have:=h7 0 h0
  exact cell_lt this
 ·have hil:i < (a ++ b ++ c).length:=(List.getElem?_eq_some_iff.1 hi).1
  rw [h7 i (by omega),hz i x hi]
end Go.Proofs.Ytfdldbfjeamlcaa.LogJoin
namespace Go.Proofs.Ytfdldbfjeamlcaa.LogWrap
set_option maxRecDepth 100000
set_option maxHeartbeats 4000000
open Go.RowKit Go.Shelf MarkMath MarkSeq MarkOf Mem RecMem RecByte RecNum RecMath RecCod RecVal RecSame RecWr0 RecRecC RecRead RecAll LogFour LogJoin
def wrapB (r:RV):Bs:=fourB ((recB r).length:Int) ++ fourB (mk 0 (recB r)) ++ recB r
theorem wrapB_len (r:RV):(wrapB r).length=(recB r).length+8:=by unfold wrapB fourB;simp only [List.length_append,List.length_cons,List.length_nil];omega
theorem mk_in {t:Bs} : 0≤mk 0 t∧mk 0 t < 4294967291:=mk_range t 0 (by omega) (by omega)
theorem of_txt (X:Option Addr) (n c:Nat) (t:Bs) (hn:n=t.length) (ho:Oct t) (hl:t.length≤1000000000) (w:World) (ty:TypeId) (hX:TxtAt w X t) :
    Calls Try.prog 68 #[.slice (some ⟨w.heap.size,0,none⟩) 1 1] (w.alloc (.cells #[.slice X n c] ty)) fun e w' => e = .returned (.int .u32 (mk 0 t))∧Below w.heap.size w w':=by
 obtain ⟨b,rfl⟩:=of_bytes t (fun x hx=>by have:=ho x hx;omega)
 subst hn
 have h:=of_one X c b (by rw [ints_length] at hl;omega) w ty (by have:=txt_bytes hX;unfold BytesAt at this;rw [ints_length] at this;exact this)
 rw [ints_length]
 exact h
theorem four_txt (w:World) (n:Int):TxtAt (w.alloc (.cells #[.int .u8 (n % 256),.int .u8 (n / 256 % 256),.int .u8 (n / 65536 % 256),.int .u8 (n / 16777216 % 256)] 5)) (some ⟨w.heap.size,0,none⟩) (fourB n):=fun i x hi=>by
 refine ⟨w.heap.size,0,rfl,by simp,?_⟩
 rw [Nat.zero_add,(Blk.new w 5 _).cell]
 match i with
 | 0=>simp [fourB] at hi;subst hi;rfl
 | 1=>simp [fourB] at hi;subst hi;rfl
 | 2=>simp [fourB] at hi;subst hi;rfl
 | 3=>simp [fourB] at hi;subst hi;rfl
 | i+4=>simp [fourB] at hi
def WpPost (r:RV) (w:World) (e:Ending) (w':World):Prop:=
 (∃ v X n c,e = .returned (.tuple #[.slice X n c,.int .i64 v])∧WV r v∧(v≠0→X=none∧n=0∧c=0)∧(v=0→∃ g,X=some ⟨g,0,none⟩∧n=(wrapB r).length∧Fresh w.heap.size w' g (wrapB r) c))∧Below w.heap.size w w'
theorem wrap_v (r:RV) (x:SA) (Y:Option Addr) (cy:Nat) (F:RFacts r) (w:World) (h:RIs w r x Y cy) :
    Calls Try.prog 37 #[.agg (rL r x Y cy).toArray] w fun e w' => WpPost r w e w':=by
 have HR:=Lib.hid h
 have HF:=Lib.hid F
 clear h F
 go_enter Try.func37,Try.ntmps37
 go_upto_region 1 with fail
 have K0:=Lib.hid (Blk.new w 51 (rL r x Y cy).toArray)
 have HB0:=Lib.hid (below_alloc (o:=.cells (rL r x Y cy).toArray 51) (Below.refl w.heap.size w))
 generalize w.alloc (.cells (rL r x Y cy).toArray 51)=W0 at *
 have R1:=Lib.hid (show W0.rangeAt w.heap.size 0 (rL r x Y cy) from range_part (n:=45) K0.out rfl)
 go_wp2_with (first | (refine wpList_load_mid rfl 51 _ rfl _ _ rfl _ _ R1.out Try.underlying51 rfl (by kernel_rfl) ?_))
 refine (write_v r x Y cy HF.out W0 (HR.out.up HB0.out)).mono ?_
 rintro e w1 ⟨⟨X1,n1,c1,v1,rfl,hV,hn1,hc1,hz1,hv1⟩,hB1⟩
 have HB1:=Lib.hid (below_up HB0.out hB1)
 have HV:=Lib.hid (And.intro hV (And.intro hn1 (And.intro hc1 (And.intro hz1 hv1))))
 clear hV hn1 hc1 hz1 hv1 hB1 R1 K0 HB0 HR HF
 by_cases h0:v1=0
 rotate_left
 ·have h1:(v1 != 0)=true:=by simpa using h0
  have HZ:=Lib.hid h0
  clear h0
  go_wp2_with fail
  go_ret2
  exact ⟨⟨v1,none,0,0,rfl,HV.out.1,fun _=>⟨rfl,rfl,rfl⟩,fun e=>absurd e HZ.out⟩,HB1.out⟩
 have HZ:=Lib.hid (And.intro (HV.out.1.ok.1 h0) (And.intro (HV.out.2.2.2.2 h0).1 (txt_of (HV.out.2.2.2.2 h0).2)))
 have HVV:=Lib.hid (show WV r 0 from h0 ▸ HV.out.1)
 have hn:n1≤65536:=by have:=HZ.out.1.2;have:=HZ.out.2.1;omega
 subst h0
 have ho:=Lib.hid (recB_oct HZ.out.1.1)
 obtain ⟨t,ht⟩:∃ t,t=recB r:=⟨_,rfl⟩
 have HT:=Lib.hid (And.intro (show n1=t.length by rw [ht];exact HZ.out.2.1) (And.intro (show Oct t by rw [ht];exact ho.out) (And.intro (show TxtAt w1 X1 t by rw [ht];exact HZ.out.2.2) ht)))
 clear ht HV HZ ho
 have HM:=Lib.hid (mk_in (t:=t))
 obtain ⟨m,hm⟩:∃ m,m=mk 0 t:=⟨_,rfl⟩
 have HM:=Lib.hid (And.intro (show 0≤m∧m < 4294967291 by rw [hm];exact mk_in) hm)
 have hm0:0≤m:=HM.out.1.1
 have hm1:m < 4294967291:=HM.out.1.2
 clear hm
 go_wp2_with fail
 refine (four_any (n1:Int) (by omega) (by omega) w1).mono ?_
 rintro e w2 ⟨rfl,rfl⟩
 have HX2:=Lib.hid (And.intro (four_txt w1 (n1:Int)) (HT.out.2.2.1.up (below_alloc (o:=.cells #[.int .u8 ((n1:Int) % 256),.int .u8 ((n1:Int) / 256 % 256),.int .u8 ((n1:Int) / 65536 % 256),.int .u8 ((n1:Int) / 16777216 % 256)] 5) (Below.refl _ w1))))
 have HB2:=Lib.hid (below_alloc (o:=.cells #[.int .u8 ((n1:Int) % 256),.int .u8 ((n1:Int) / 256 % 256),.int .u8 ((n1:Int) / 65536 % 256),.int .u8 ((n1:Int) / 16777216 % 256)] 5) HB1.out)
 generalize w1.alloc (.cells #[.int .u8 ((n1:Int) % 256),.int .u8 ((n1:Int) / 256 % 256),.int .u8 ((n1:Int) / 65536 % 256),.int .u8 ((n1:Int) / 16777216 % 256)] 5)=W2 at *
 obtain ⟨g1,hg1⟩:∃ n,n=w1.heap.size:=⟨_,rfl⟩
 rw [← hg1] at HX2
 rw [← hg1]
 clear hg1 HB1
 go_wp2_with fail
 refine (of_txt X1 n1 c1 t HT.out.1 HT.out.2.1 (by have:=HT.out.1;omega) W2 37 HX2.out.2).mono ?_
 rw [← HM.out.2]
 rintro e w3 ⟨rfl,hB3⟩
 have HX3:=Lib.hid (And.intro (HX2.out.1.up hB3) (HX2.out.2.up hB3))
 have HB3:=Lib.hid (below_up HB2.out hB3)
 clear HX2 HB2 hB3
 go_wp2_with fail
 refine (four_any m hm0 (by omega) w3).mono ?_
 rintro e w4 ⟨rfl,rfl⟩
 have hb4:Below w3.heap.size w3 (w3.alloc (.cells #[.int .u8 (m % 256),.int .u8 (m / 256 % 256),.int .u8 (m / 65536 % 256),.int .u8 (m / 16777216 % 256)] 5)):=below_alloc (Below.refl _ w3)
 have HX4:=Lib.hid (And.intro (four_txt w3 m) (And.intro (HX3.out.1.up hb4) (HX3.out.2.up hb4)))
 have HB4:=Lib.hid (below_up HB3.out hb4)
 clear hb4
 generalize w3.alloc (.cells #[.int .u8 (m % 256),.int .u8 (m / 256 % 256),.int .u8 (m / 65536 % 256),.int .u8 (m / 16777216 % 256)] 5)=W4 at *
 obtain ⟨g3,hg3⟩:∃ n,n=w3.heap.size:=⟨_,rfl⟩
 rw [← hg3] at HX4
 rw [← hg3]
 clear hg3 HB3 HX3
 go_wp2_with fail
 have hb5:Below W4.heap.size W4 (W4.alloc (.cells #[.slice (some ⟨g1,0,none⟩) 4 4,.slice (some ⟨g3,0,none⟩) 4 4,.slice X1 n1 c1] 37)):=below_alloc (Below.refl _ W4)
 refine (join3 W4.heap.size (some ⟨g1,0,none⟩) (some ⟨g3,0,none⟩) X1 (fourB (n1:Int)) (fourB m) t 4 4 n1 4 4 c1 rfl rfl HT.out.1 (fourB_oct _) (fourB_oct _) HT.out.2.1 (by simp [fourB]) (by simp [fourB]) (by have:=HT.out.1;omega) _ (Blk.new W4 37 _) (HX4.out.2.1.up hb5) (HX4.out.1.up hb5) (HX4.out.2.2.up hb5) (by simp [fourB])).mono ?_
 rintro e w5 ⟨⟨g5,k5,rfl,hF5⟩,hB5⟩
 have HB5:=Lib.hid (below_up (below_up HB4.out hb5) hB5)
 have hsz:w.heap.size≤(W4.alloc (.cells #[.slice (some ⟨g1,0,none⟩) 4 4,.slice (some ⟨g3,0,none⟩) 4 4,.slice X1 n1 c1] 37)).heap.size:=(below_up HB4.out hb5).size
 have eW:fourB (n1:Int) ++ fourB m ++ t=wrapB r:=by
  unfold wrapB
  rw [HM.out.2,HT.out.1,HT.out.2.2.2]
 rw [eW] at hF5 ⊢
 have HF5:=Lib.hid (show Fresh w.heap.size w5 g5 (wrapB r) k5 from ⟨Nat.le_trans hsz hF5.le,hF5.lt,hF5.cap,hF5.top,hF5.cell,hF5.free⟩)
 clear hb5 hB5 hF5 hsz eW HX4 HB4 HM HT hm0 hm1
 go_wp2_with fail
 go_ret2
 exact ⟨⟨0,_,_,k5,rfl,HVV.out,fun e=>absurd rfl e,fun _=>⟨g5,rfl,rfl,HF5.out⟩⟩,HB5.out⟩
end Go.Proofs.Ytfdldbfjeamlcaa.LogWrap
namespace Go.Proofs.Ytfdldbfjeamlcaa.RangeGiven
open Go Go.RowKit Mem
variable {F:Fence} {n:Nat} {P:Program} {w:World}
def SeqR {α:Type} (F:Fence) (n:Nat) (P:Program) (g:Nat) (lb:Array Value) (encs:α→Array Value) (Kp:World→World→Prop) (R:α→World→Prop) (S Sp:List α→Prop) (w:World):Prop:=
 ∀ (l:Nat) (J Jx:List α→World→Prop) (W:World),Below w.heap.size w W→AbidesFrom W.heap.size J→AbidesFrom W.heap.size Jx →
  (∀ pre x W1,J pre W1→R x W1→Sp (pre ++ [x])→YieldAt F (n - 1) P l (encs x) W1 fun e W' =>
   (e = .returned (.bool true)∧J (pre ++ [x]) W'∧Kp W1 W')∨(e = .returned (.bool false)∧Jx (pre ++ [x]) W')) →
  J [] W →
  CallsIn F n P g (#[.func (.yield l) #[] #[]] ++ lb) W fun e W' => (∃ v,e = .returned v)∧((∃ xs,S xs∧J xs W')∨(∃ pre,Sp pre∧Jx pre W'))
theorem range_given {α:Type} {g:Operand} {ps:Array Tmp} {assign body:Code} {Q:Exit→Act→World→Prop} {a:Act}
    (hro:F.round=none) (h1:1≤n) {gf:Nat} {lb:Array Value} (hg:a.eval g = .func (.func gf) #[] lb) (hFg:F.fn gf) (eg:∀ args w,(callFunc gf args).run P w = .ok (.enter gf args) w)
    {encs:α→Array Value} {Kp:World→World→Prop} {R:α→World→Prop} {S Sp:List α→Prop} {w0:World} (hseq:SeqR F (n - 1) P gf lb encs Kp R S Sp w0)
    (hKt:∀ {A B C:World},Kp A B→Kp B C→Kp A C) (hKb:∀ (W:World) (l:Nat) (o o':Obj),w.heap.size≤l→W.heap[l]? = some o→o.isCells=false→o.isWalk=false→Kp W (W.putObj l o')) (hb0:Below w0.heap.size w0 w) (hps:∀ x,(encs x).size=ps.size)
    (I:List α→World→Prop) (Ix:Code→List α→World→Prop) (hI:OwnFrom w.heap.size I) (hIx:∀ c,OwnFrom w.heap.size (Ix c)) (hR:OwnFrom w.heap.size R) (h0:I [] w) (Ax:α→Act→World→Prop) (hAx:∀ x a',OwnFrom w.heap.size (fun (_:Unit) W=>Ax x a' W))
    (hassign:∀ (l:Nat) (pre:List α) (x:α) (W:World) (K:Act→World→Prop),I pre W→R x W→(∀ a' W',KeepsFrom w.heap.size W W'→Kp W W'→I pre W'→R x W'→Ax x a' W'→K a' W') →
     assign.wpIn (F.inRound l) (n - 1 - 1) P (Exit.then K (fun _ _ _=>False)) { tmps:=(ps.zip (encs x)).foldl (fun t (p,v)=>t.setIfInBounds p v) a.tmps,defers:=[] } W)
    (hbody:∀ (l:Nat) (pre:List α) (x:α) (a':Act) (W:World),w.heap.size≤l→(∃ r,W.heap[l]? = some (.loop r))→I pre W→R x W→Ax x a' W→Sp (pre ++ [x])→body.wpIn (F.inRound l) (n - 1 - 1) P (ownPostG w.heap.size Kp I Ix (pre ++ [x]) W) a' W)
    (hdone:∀ (D:Nat) (xs:List α) (W:World),w.heap.size≤D→S xs→I xs W→W.heap[D]? = some (.deferred (some []))→Q .normal { a with defers:={ target:=.collected D,args:=#[] } :: a.defers } W)
    (hstop:∀ (D:Nat) (c:Code) (pre:List α) (W:World),w.heap.size≤D→Sp pre→Ix c pre W→W.heap[D]? = some (.deferred (some []))→c.wpIn F n P Q { a with defers:={ target:=.collected D,args:=#[] } :: a.defers } W) :
    (Code.rangeFunc g ps assign body).wpIn F n P Q a w:=by
 refine wpIn_rangeFunc ?_
 intro fn hfn
 rw [hro]
 obtain ⟨q,hq⟩:∃ q:LoopState→Option Code→Loop,q=fun st pe=>{ state:=st,pending:=pe,fn,tmps:=a.tmps,params:=ps,assign,body,defers:=w.heap.size }:=⟨_,rfl⟩
 obtain ⟨V,hV⟩:∃ V,(w.alloc (.deferred (some []))).alloc (.loop (q .ready none))=V:=⟨_,rfl⟩
 have hVl:V.heap[w.heap.size+1]? = some (.loop (q .ready none)):=by
  rw [← hV];have:=World.alloc_heap_new (w.alloc (.deferred (some []))) (.loop (q .ready none));rwa [World.size_alloc] at this
 have hVd:V.heap[w.heap.size]? = some (.deferred (some [])):=by
  rw [← hV];exact (Below.heap_alloc _ _ _ (by simp)).trans (World.alloc_heap_new w _)
 have hVI:I [] V:=by rw [← hV];exact hI.alloc _ (hI.alloc _ h0)
 have hVb:Below w0.heap.size w0 V:=by
  rw [← hV];exact hb0.trans ((((Below.refl _ w).alloc (Nat.le_refl _) _).alloc (by simp) _).mono hb0.size)
 have hVs:w.heap.size≤V.heap.size:=by rw [← hV];simp;omega
 refine ⟨w.heap.size+1,[{ target:=.collected w.heap.size,args:=#[] }],V,{ target:=.fn (.func gf) lb,args:=#[.func (.yield (w.heap.size+1)) #[] #[]] },V,gf,
  #[.func (.yield (w.heap.size+1)) #[] #[]] ++ lb,V,?_,?_,?_,?_,fun _=>h1,?_⟩
 ·rw [← hV,hq];exact run_enterLoop_outer _ _ _ _ _
 ·simp only [resolve,hg]
  simp [go_sem]
 ·intro f' hf';simp [Target.leads] at hf';subst hf';exact hFg
 ·simp [invoke,go_sem,eg]
 ·have hrow:∀ {A:World} {row:Option Nat},(∀ r,row=some r→V.heap.size≤r∧∃ o:Obj,A.heap[r]? = some o∧o.isWalk=true)→(∀ r,row=some r→w.heap.size≤r∧∃ o:Obj,A.heap[r]? = some o∧o.isCells=false):=
   fun hr r e=>by obtain ⟨hB,o,ho,hw⟩:=hr r e;exact ⟨Nat.le_trans hVs hB,o,ho,Obj.not_cells_of_walk hw⟩
  refine (hseq (w.heap.size+1)
   (fun pre W=>I pre W∧W.heap[w.heap.size+1]? = some (.loop (q .ready none))∧W.heap[w.heap.size]? = some (.deferred (some [])))
   (fun pre W=>∃ c,Ix c pre W∧W.heap[w.heap.size+1]? = some (.loop (q .done (some c)))∧W.heap[w.heap.size]? = some (.deferred (some [])))
   V hVb
   (fun s A B row hs hg' hr=>⟨hI s A B row hs.1 hg' (hrow hr),(grownBy_keeps hg' (fun r e=>(hr r e).2) hs.2.1 rfl).trans hs.2.1,(grownBy_keeps hg' (fun r e=>(hr r e).2) hs.2.2 rfl).trans hs.2.2⟩)
   (fun s A B row hs hg' hr=>by
    obtain ⟨c,hc,hl,hk⟩:=hs
    exact ⟨c,hIx c s A B row hc hg' (hrow hr),(grownBy_keeps hg' (fun r e=>(hr r e).2) hl rfl).trans hl,(grownBy_keeps hg' (fun r e=>(hr r e).2) hk rfl).trans hk⟩)
   ?_ ⟨hVI,hVl,hVd⟩).mono ?_
  ·rintro pre x W0 ⟨hi0,hl0,hk0⟩ hx0 hsp
   have hy:=run_yield (P:=P) (args:=encs x) hl0 (by rw [hq];exact hps x)
   rw [hq] at hy
   refine ⟨fn,_,assign,body,hy,roundIn_of_wpIn hfn (hassign _ pre x W0 _ hi0 hx0 ?_)⟩
   clear hy
   intro a' W hkf hkp hi hx hax
   have hl:=hkf.same _ _ (by omega) hl0 rfl
   have hk:=hkf.same _ _ (Nat.le_refl _) hk0 rfl
   have hlt:w.heap.size+1 < W.heap.size:=(Array.getElem?_eq_some_iff.1 hl).1
   obtain ⟨bz,hbz⟩:∃ bz,bz=Obj.loop { q .ready none with state:=.busy }:=⟨_,rfl⟩
   refine ⟨_,run_beginRound hl (by rw [hq]),?_⟩
   rw [← hbz]
   have hl2:(W.putObj (w.heap.size+1) bz).heap[w.heap.size+1]? = some bz:=World.putObj_heap_same hlt
   have hk2:(W.putObj (w.heap.size+1) bz).heap[w.heap.size]? = some (.deferred (some [])):=(World.putObj_heap_other (by omega)).trans hk
   have hw2:Kp W (W.putObj (w.heap.size+1) bz):=hKb _ _ _ _ (by omega) hl rfl rfl
   refine wpIn_mono (hbody _ pre x a' _ (by omega) ⟨_,by rw [hl2,hbz]⟩ (hI.putObj _ hi (by omega) hl rfl) (hR.putObj _ hx (by omega) hl rfl) ((hAx x a').putObj (s:=()) _ hax (by omega) hl rfl) hsp) ?_
   have fin:∀ (jump:Option Code) (W3:World),KeepsFrom w.heap.size (W.putObj (w.heap.size+1) bz) W3 →
       (Instr.endRound (w.heap.size+1) jump).run P W3 = .ok (.bool jump.isNone) (W3.putObj (w.heap.size+1) (.loop (q (if jump.isNone then .ready else .done) jump))) ∧
       W3.heap[w.heap.size+1]? = some bz ∧
       (W3.putObj (w.heap.size+1) (.loop (q (if jump.isNone then .ready else .done) jump))).heap[w.heap.size+1]? = some (.loop (q (if jump.isNone then .ready else .done) jump)) ∧
       (W3.putObj (w.heap.size+1) (.loop (q (if jump.isNone then .ready else .done) jump))).heap[w.heap.size]? = some (.deferred (some [])):=fun jump W3 hk3=>by
    have hl3:=hk3.same _ _ (by omega) hl2 (by rw [hbz];rfl)
    have hl3':=hl3
    rw [hbz] at hl3'
    have:=run_endRound (P:=P) jump hl3'
    rw [hq] at this ⊢
    exact ⟨this,hl3,World.putObj_heap_same (Array.getElem?_eq_some_iff.1 hl3).1,(World.putObj_heap_other (by omega)).trans (hk3.same _ _ (Nat.le_refl _) hk2 rfl)⟩
   have nc:bz.isCells=false:=by rw [hbz];rfl
   have nw:bz.isWalk=false:=by rw [hbz];rfl
   rintro e a3 W3 hp
   cases e with
   | normal =>
    obtain ⟨hk3,hkp3,hi3⟩:=hp
    obtain ⟨hr,hl3,hl4,hk4⟩:=fin none W3 hk3
    exact ⟨_,_,hr,.inl ⟨rfl,⟨hI.putObj _ hi3 (by omega) hl3 nc,hl4,hk4⟩,hKt hkp (hKt (hKt hw2 hkp3) (hKb _ _ _ _ (by omega) hl3 nc nw))⟩⟩
   | ret =>
    obtain ⟨hk3,hi3⟩:=hp
    obtain ⟨hr,hl3,hl4,hk4⟩:=fin (some .ret) W3 hk3
    exact ⟨_,_,hr,.inr ⟨rfl,.ret,(hIx _).putObj _ hi3 (by omega) hl3 nc,hl4,hk4⟩⟩
   | exit id =>
    obtain ⟨hk3,hi3⟩:=hp
    obtain ⟨hr,hl3,hl4,hk4⟩:=fin (some (.exit id)) W3 hk3
    exact ⟨_,_,hr,.inr ⟨rfl,.exit id,(hIx _).putObj _ hi3 (by omega) hl3 nc,hl4,hk4⟩⟩
   | goto t =>
    obtain ⟨hk3,hi3⟩:=hp
    obtain ⟨hr,hl3,hl4,hk4⟩:=fin (some (.goto t)) W3 hk3
    exact ⟨_,_,hr,.inr ⟨rfl,.goto t,(hIx _).putObj _ hi3 (by omega) hl3 nc,hl4,hk4⟩⟩
   | panic ch=>exact hp.elim
   | outgrown=>exact hp.elim
  ·rintro e W2 ⟨⟨v,rfl⟩,(⟨xs,hS,hi,hl,hk⟩ | ⟨pre,hSp,c,hi,hl,hk⟩)⟩
   ·exact ⟨none,_,by have:=run_endLoop (P:=P) hl (by rw [hq];simp);rw [hq] at this;exact this,hdone _ xs _ (Nat.le_refl _) hS (hI.putObj _ hi (by omega) hl rfl) ((World.putObj_heap_other (by omega)).trans hk)⟩
   ·exact ⟨some c,_,by have:=run_endLoop (P:=P) hl (by rw [hq];simp);rw [hq] at this;exact this,hstop _ c pre _ (Nat.le_refl _) hSp ((hIx c).putObj _ hi (by omega) hl rfl) ((World.putObj_heap_other (by omega)).trans hk)⟩
end Go.Proofs.Ytfdldbfjeamlcaa.RangeGiven
namespace Go.Proofs.Ytfdldbfjeamlcaa.LogFrm
open Go Go.RowKit MarkMath Mem RecMem RecByte RecNum RecEach RecMath RecCod RecVal RecSame RecWr0 RecRecC RecOwn RecRd RecRL0 RecRAsk RecRState RecRCmd RecRRec RecRead RecAt RecAll LogFour LogJoin LogWrap RangeGiven
theorem TxtAt.drop {w:World} {tb o:Nat} {t:Bs} (h:TxtAt w (some ⟨tb,o,none⟩) t) (m:Nat):TxtAt w (some ⟨tb,o+m,none⟩) (t.drop m):=fun i x hi=>by
 rw [List.getElem?_drop] at hi
 obtain ⟨tb',o',e,h1,h2⟩:=h (m+i) x hi
 cases e
 exact ⟨tb,o+m,rfl,h1,by rw [Nat.add_assoc];exact h2⟩
theorem TxtAt.take {w:World} {X:Option Addr} {t:Bs} (h:TxtAt w X t) (m:Nat):TxtAt w X (t.take m):=fun i x hi=>by
 rw [List.getElem?_take] at hi
 split at hi
 ·exact h i x hi
 ·cases hi
theorem Oct.drop {t:Bs} (h:Oct t) (m:Nat):Oct (t.drop m):=fun b hb=>h b (List.mem_of_mem_drop hb)
theorem Oct.take {t:Bs} (h:Oct t) (m:Nat):Oct (t.take m):=fun b hb=>h b (List.mem_of_mem_take hb)
def num4:Bs→Int
 | a :: b :: d :: f :: _=>numb a b d f
 | _=>0
theorem four_of:∀ {t:Bs},4≤t.length→∃ a b d f u,t=a :: b :: d :: f :: u
 | a :: b :: d :: f :: u,_=>⟨a,b,d,f,u,rfl⟩
 | [],h=>by simp at h
 | [_],h=>by simp at h
 | [_,_],h=>by simp at h
 | [_,_,_],h=>by simp at h
theorem num4_in {t:Bs} (ho:Oct t):0≤num4 t∧num4 t < 4294967296:=by
 unfold num4
 split
 ·rename_i a b d f u
  have h1:=ho a (by simp)
  have h2:=ho b (by simp)
  have h3:=ho d (by simp)
  have h4:=ho f (by simp)
  unfold numb
  omega
 ·omega
theorem num4_any (X:Option Addr) (t:Bs) (n c:Nat) (hn:n=t.length) (h4:4≤t.length) (ho:Oct t) (hl:t.length≤9223372036854775807) (w:World) (hX:TxtAt w X t) :
    Calls Try.prog 100 #[.slice X n c] w fun e w' => e = .returned (.int .u32 (num4 t))∧Below w.heap.size w w':=by
 obtain ⟨a,b,d,f,u,ht⟩:=four_of h4
 subst hn
 have h:=number_any X t c a b d f u ht ho hl w hX
 rw [ht] at h ⊢
 exact h
def frT (t:Bs) (k:Nat):Bs:=(t.drop (k+8)).take (num4 (t.drop k)).toNat
def frOk (t:Bs) (k:Nat):Prop:=(readV (frT t k)).2=0∧mk 0 (frT t k)=num4 (t.drop (k+4))
instance (t:Bs) (k:Nat):Decidable (frOk t k):=inferInstanceAs (Decidable (_∧_))
def fr (t:Bs):Nat→Nat→List (Int × RV)
 | 0,_=>[]
 | f+1,k=>if t.length < k+8 then [] else if 65536 < num4 (t.drop k) then [(-1,RV.z)] else if (t.length:Int) < (k:Int)+8+num4 (t.drop k) then [] else
  if frOk t k then ((k:Int)+8+num4 (t.drop k),(readV (frT t k)).1) :: fr t f (k+8+(num4 (t.drop k)).toNat) else [(-1,RV.z)]
theorem fr_end {t:Bs} {f k:Nat} (h:t.length < k+8):fr t (f+1) k=[]:=by unfold fr;rw [if_pos h]
theorem fr_big {t:Bs} {f k:Nat} (h:¬ t.length < k+8) (h1:65536 < num4 (t.drop k)):fr t (f+1) k=[(-1,RV.z)]:=by unfold fr;rw [if_neg h,if_pos h1]
theorem fr_cut {t:Bs} {f k:Nat} (h:¬ t.length < k+8) (h1:¬ 65536 < num4 (t.drop k)) (h2:(t.length:Int) < (k:Int)+8+num4 (t.drop k)):fr t (f+1) k=[]:=by unfold fr;rw [if_neg h,if_neg h1,if_pos h2]
theorem fr_bad {t:Bs} {f k:Nat} (h:¬ t.length < k+8) (h1:¬ 65536 < num4 (t.drop k)) (h2:¬ (t.length:Int) < (k:Int)+8+num4 (t.drop k)) (h3:¬ frOk t k):fr t (f+1) k=[(-1,RV.z)]:=by unfold fr;rw [if_neg h,if_neg h1,if_neg h2,if_neg h3]
theorem fr_ok {t:Bs} {f k:Nat} (h:¬ t.length < k+8) (h1:¬ 65536 < num4 (t.drop k)) (h2:¬ (t.length:Int) < (k:Int)+8+num4 (t.drop k)) (h3:frOk t k) :
    fr t (f+1) k=((k:Int)+8+num4 (t.drop k),(readV (frT t k)).1) :: fr t f (k+8+(num4 (t.drop k)).toNat):=by conv=>lhs;unfold fr;rw [if_neg h,if_neg h1,if_neg h2,if_pos h3]
structure FE where
 e:Int
 r:RV
 x:SA
 Y:Option Addr
 cy:Nat
def FE.key (a:FE):Int × RV:=(a.e,a.r)
def FE.enc (a:FE):Array Value:=#[.int .i64 a.e,.agg (rL a.r a.x a.Y a.cy).toArray]
def FE.R (F:Nat) (a:FE) (w:World):Prop:=recR.At w F a.r (rL a.r a.x a.Y a.cy)
def FE.bad:FE:=⟨-1,RV.z,SA.z,none,0⟩
theorem FE.bad_at {F:Nat} {w:World} : FE.bad.R F w:=recR_nil
theorem keepN_list {α:Type} {R:Rep α} {e e0:TypeId} (he:e0≠e) (hR:KeepN e R):KeepN e (listR R e0):=by
 rintro w w' F l vs ⟨V,c,xs,rfl,h1,h2⟩ hk
 exact ⟨V,c,xs,rfl,ownsRow_agree h1 (fun g cur hg hh=>hk g cur e0 he hg hh),fun i x hi=>hR _ _ _ _ _ (h2 i x hi) hk⟩
theorem keepN_state {e:TypeId} (h1:CLT≠e) (h2:JBT≠e) (h3:PAT≠e) (h4:KET≠e) (h5:INT≠e):KeepN e stateR:=keepN_iso (keepN_pair (keepN_pair (keepN_pair (keepN_pair (keepN_pair (keepN_pair (keepN_pair (keepN_pair (keepN_pair (keepN_pair (keepN_pair (keepN_pair (keepN_pair keepN_flat keepN_num) keepN_num) keepN_num) keepN_num) (keepN_list h1 keepN_flat)) keepN_num) keepN_num) (keepN_list h2 (keepN_job h5))) (keepN_list h3 keepN_flat)) (keepN_list h4 keepN_flat)) (keepN_ints h5)) (keepN_ints h5)) (keepN_ints h5))
theorem keepN_rec {e:TypeId} (h1:CLT≠e) (h2:JBT≠e) (h3:PAT≠e) (h4:KET≠e) (h5:INT≠e):KeepN e recR:=by
 rintro w w' F r vs ⟨s,c,rfl,h,Y,cy,rfl,k⟩ hk
 exact ⟨s,_,rfl,keepN_state h1 h2 h3 h4 h5 _ _ _ _ _ h hk,Y,cy,rfl,keepN_ints h5 _ _ _ _ _ k hk⟩
abbrev RECT:TypeId:=51
abbrev recsR:Rep (List RV):=listR recR RECT
theorem keep_row:KeepN RECT recR:=keepN_rec (by decide) (by decide) (by decide) (by decide) (by decide)
theorem keep_none:KeepN 1000000 recR:=keepN_rec (by decide) (by decide) (by decide) (by decide) (by decide)
theorem keeps_none:KeepN 1000000 recsR:=keepN_list (by decide) keep_none
theorem at_grown {α:Type} {R:Rep α} (hR:KeepN 1000000 R) {w w':World} {F:Nat} {x:α} {vs:List Value} (h:R.At w F x vs) {row:Option Nat} (hg:w.grownBy w' row) (hr:∀ r,row=some r→∃ o:Obj,w.heap[r]? = some o∧o.isCells=false):R.At w' F x vs:=
 hR _ _ _ _ _ h fun k cs e' _ _ hh=>hg.block k (Array.getElem?_eq_some_iff.1 hh).1 fun e=>by
  obtain ⟨o,ho,hc⟩:=hr k e.symm
  rw [hh] at ho
  injection ho with ho
  subst ho
  cases hc
theorem at_below {α:Type} {R:Rep α} {w w':World} {F:Nat} {x:α} {vs:List Value} (h:R.At w F x vs) (hB:Below w.heap.size w w'):R.At w' F x vs:=R.keep h (fun k _ hl=>hB.block k hl) hB.size
def keys (l:List FE):List (Int × RV):=l.map FE.key
theorem keys_snoc (l:List FE) (a:FE):keys (l ++ [a])=keys l ++ [a.key]:=by simp [keys]
theorem grown_of_below {w w':World} (h:Below w.heap.size w w'):w.grownBy w' none:=⟨h.os,h.tape,h.output,h.size,fun k hk _=>h.block k hk⟩
theorem abides_below {β:Type} {B:Nat} {J:β→World→Prop} (h:AbidesFrom B J) {s:β} {w w':World} (hs:J s w) (hb:Below w.heap.size w w'):J s w':=h s w w' none hs (grown_of_below hb) (fun r e=>by cases e)
structure Kpt (n0 Bp:Nat) (w w':World):Prop where
 b:Below n0 w w'
 e:w'.heap[Bp]? = w.heap[Bp]?
 lo:n0≤w.heap.size
 hb:Bp < w.heap.size
theorem Kpt.trans {n0 Bp:Nat} {a b c:World} (h:Kpt n0 Bp a b) (k:Kpt n0 Bp b c):Kpt n0 Bp a c:=⟨h.b.trans k.b,k.e.trans h.e,h.lo,h.hb⟩
theorem Kpt.up {n0 Bp:Nat} {a b c:World} (h:Kpt n0 Bp a b) (k:Below b.heap.size b c):Kpt n0 Bp a c:=h.trans ⟨k.mono (Nat.le_trans h.lo h.b.size),k.block Bp (Nat.lt_of_lt_of_le h.hb h.b.size),Nat.le_trans h.lo h.b.size,Nat.lt_of_lt_of_le h.hb h.b.size⟩
theorem Kpt.of {n0 Bp:Nat} {a b:World} (lo:n0≤a.heap.size) (hb:Bp < a.heap.size) (k:Below a.heap.size a b):Kpt n0 Bp a b:=⟨k.mono lo,k.block Bp hb,lo,hb⟩
theorem Kpt.cell {n0 Bp:Nat} {a b:World} (h:Kpt n0 Bp a b):b.cell? ⟨Bp,0,none⟩=a.cell? ⟨Bp,0,none⟩:=by simp only [World.cell?,h.e]
variable {F:Fence} {nF:Nat} {P:Program}
theorem wpListIn_load_mid {ops:Array Oper} {rest:List Oper} {op:Oper} {a:Act} {w:World} {Q:Exit→Act→World→Prop} (hgd:op.guard=none) (ty:TypeId) (x:Operand) (ho:op.op = .load ty x)
    (b o:Nat) (hx:a.eval x = .pointer (some ⟨b,o,none⟩)) (cs:List Value) (d:TypeDesc) (hc:w.rangeAt b o cs)
    (hu:P.underlying ty=some d) (hd:d.isRow=true) (hi:(P.info? ty).map (·.size)=some cs.length)
    (h:wpListIn F nF P ops Q rest (a.put op.dst (.agg cs.toArray)) w):wpListIn F nF P ops Q (op :: rest) a w:=by
 refine wpListIn_plain hgd fun K hK=>?_
 unfold Oper.wpIn
 refine ⟨by simp [Oper.about,ho],?_⟩
 rw [Oper.semAt_plain F _ _ (by rw [ho];intro c hc';cases hc')]
 unfold execOp
 simp only [ho,hx,Instr.loadAt,Instr.sureAddr,Sem.run_bind,Sem.run_pure,Result.andThen_ok,run_loadVar_mid w b o ty cs d hc hu hd hi]
 exact hK _ _ h
theorem wpListIn_store_mid {ops:Array Oper} {rest:List Oper} {op:Oper} {a:Act} {w:World} {Q:Exit→Act→World→Prop} (hgd:op.guard=none) (ty:TypeId) (x y:Operand) (ho:op.op = .store ty x y)
    (b o:Nat) (cells:Array Value) (hx:a.eval x = .pointer (some ⟨b,o,none⟩)) (hy:a.eval y = .agg cells)
    (ht:w.there b o cells.size) (hi:(P.info? ty).map (·.size)=some cells.size) (h1:cells.all (·.oneCell')=true)
    (h:wpListIn F nF P ops Q rest (a.put op.dst undef) (w.setCells b o cells.toList)):wpListIn F nF P ops Q (op :: rest) a w:=by
 refine wpListIn_plain hgd fun K hK=>?_
 unfold Oper.wpIn
 refine ⟨by simp [Oper.about,ho],?_⟩
 rw [Oper.semAt_plain F _ _ (by rw [ho];intro c hc';cases hc')]
 unfold execOp
 simp only [ho,hx,hy,Instr.storeAt,Instr.sureAddr,Sem.run_bind,Sem.run_pure,Result.andThen_ok,run_storeVar_mid w b o ty cells ht hi h1]
 exact hK _ _ h
end Go.Proofs.Ytfdldbfjeamlcaa.LogFrm
