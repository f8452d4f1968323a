/- Several texts joined: The reference's writer: numbers. No conditions but those named. -/
import Derived.BigQuiet
import Derived.Deep.RegionHeld3
import Derived.Deep.QuietTactic
import Derived.Deep.RegionLaw
import Derived.Deep.DeepCutAuto
import Derived.Lib.QuietBelow
import Derived.IntWalk
import Derived.WalkKit
import Derived.WalkLawsBesides
import Derived.Deep.MidRow
import Derived.Test.YtfdldbfjeamlcaaPG9
import Derived.Laws.OwnMore
import Derived.Test.YtfdldbfjeamlcaaPG10
import Derived.Test.YtfdldbfjeamlcaaPG3
import Derived.Lib.SliceRun
import Derived.Laws.Rows
import Derived.Test.YtfdldbfjeamlcaaPG15
import Derived.Test.YtfdldbfjeamlcaaPG16
set_option linter.unusedVariables false
set_option linter.unusedSimpArgs false
namespace Go.Proofs.Ytfdldbfjeamlcaa.RwNum
set_option maxRecDepth 100000
set_option maxHeartbeats 4000000
open Go.Sort Go.RowKit Mem RecMem RecByte RecNum RecEach RecMath RecCod RecCods RecPort RecCommand RecCmdJ RecVal RecSame RecOwn RecRd RecRByte RecRNum RecREach RecRFlat RecRClass RecRL0 RecRListI 
abbrev U8:TypeId:=5
def OwnT (w:World) (F:Nat) (v:Value) (t:Bs):Prop:=∃ V cv,v = .slice V t.length cv∧w.ownsRow F U8 1 (.slice V t.length cv) t.length (t.map (Value.int .u8))
def WR (t:Bs) (w:World) (e:Ending) (w':World):Prop:=∃ v,e = .returned v∧OwnT w' w.heap.size v t∧Below w.heap.size w w'
theorem WR.mk {t:Bs} {w w':World} {v:Value} (h:OwnT w' w.heap.size v t) (hB:Below w.heap.size w w'):WR t w (.returned v) w':=⟨v,rfl,h,hB⟩
theorem u8_info:(Try.prog.info? U8).map (fun i=>(i.zero,i.size,i.bytes))=some (some (.int .u8 0),1,1):=by kernel_rfl
theorem OwnT.nil (w:World) (F:Nat):OwnT w F (.slice none 0 0) []:=⟨none,0,rfl,World.ownsRow_nil _ _ _ _⟩
theorem own_upW {w w':World} {B size n:Nat} {e:TypeId} {v:Value} {xs:List Value} (h:w.ownsRow B e size v n xs) (hB:Below w.heap.size w w'):w'.ownsRow B e size v n xs:=ownsRow_agree h fun g cur _ hh=>hB.block g (Array.getElem?_eq_some_iff.1 hh).1
theorem OwnT.up {w w':World} {F:Nat} {v:Value} {t:Bs} (h:OwnT w F v t) (hB:Below w.heap.size w w'):OwnT w' F v t:=by
 obtain ⟨V,cv,e,h⟩:=h
 exact ⟨V,cv,e,own_upW h hB⟩
theorem OwnT.mono {w:World} {F F':Nat} {v:Value} {t:Bs} (h:OwnT w F v t) (hF:F'≤F):OwnT w F' v t:=by
 obtain ⟨V,cv,e,h⟩:=h
 exact ⟨V,cv,e,ownsRow_mono h hF⟩
def TxtR (w:World) (x:Value) (u:Bs):Prop:=∃ A c B,x = .slice A u.length c∧Reads w B 1 A u.length (u.map (Value.int .u8))
theorem OwnT.txt {w:World} {F:Nat} {v:Value} {t:Bs} (h:OwnT w F v t):TxtR w v t:=by
 obtain ⟨V,cv,e,h⟩:=h
 exact ⟨V,cv,_,e,Reads.of_own h⟩
theorem TxtR.box (w:World) (u:Bs) (n:Nat) (hn:u.length=n):TxtR (w.alloc (.cells (u.map (Value.int .u8)).toArray U8)) (.slice (some ⟨w.heap.size,0,none⟩) n n) u:=by
 subst hn
 exact ⟨_,_,w.heap.size+1,rfl,by simp,fun _=>⟨_,rfl,by simp,fun j q hq=>by
  rw [add_flat,Nat.zero_add]
  refine ((Blk.new w U8 (u.map (Value.int .u8)).toArray).cell j).trans ?_
  simpa using hq⟩⟩
theorem below_grown {w w':World} {F n k:Nat} {e:TypeId} {v:Value} {xs:List Value} (h:w.ownsRow F e n v k xs) (hg:w.grownBy w' v.ownBlock) (hF:F≤w.heap.size):Below F w w':=
 ⟨hg.os,hg.tape,hg.output,hg.size,fun g hh=>hg.block g (by omega) fun e1=>by have:=(own_ge h e1.symm).1;omega⟩
theorem divP (R:Int) {j:Nat} (hj:j < 8):R / 256 ^ j / 256=R / 256 ^ (j+1):=by
 have:j=0∨j=1∨j=2∨j=3∨j=4∨j=5∨j=6∨j=7:=by omega
 rcases this with rfl | rfl | rfl | rfl | rfl | rfl | rfl | rfl <;> simp only [Int.reducePow,Nat.reduceAdd] <;> omega
theorem takeP {R x b:Int} {j:Nat} (hj:j < 8) (hx:x=R / 256 ^ j) (hb:b=x % 256):((numB R).take j).map (Value.int .u8) ++ [.int .u8 b]=((numB R).take (j+1)).map (Value.int .u8):=by
 have hl:j < (numB R).length:=by rw [numB_len];exact hj
 have e:(numB R)[j]=b:=by simp [numB,byteAt,hb,hx]
 rw [List.take_add_one,List.getElem?_eq_getElem hl,e]
 simp
theorem cells_u8 (l:Bs):∀ u ∈ l.map (Value.int .u8),u.oneCell' = true:=fun u hu=>by
 obtain ⟨n,_,rfl⟩:=List.mem_map.1 hu
 rfl
theorem rwnum (n:Int) (hn:(Lit.int .i64 n).wf=true) (w:World) :
    Calls Try.prog 79 #[.int .i64 n] w fun e w' => WR (nB n) w e w':=by
 have hR0:0≤IntKind.u64.wrap n∧IntKind.u64.wrap n < 18446744073709551616:=by rw [IntKind.wrap_u64];omega
 have HNB:=Lib.hid (show nB n=numB (IntKind.u64.wrap n) from rfl)
 have hcv:∀ w:World,(convert 3 158 (.int .i64 n)).run Try.prog w = .ok (.int .u64 (IntKind.u64.wrap n)) w:=fun w=>by
  kernel_rfl
 obtain ⟨i0,hi0,hz0,hz1,hz2⟩:=info_parts u8_info
 have HI0:=Lib.hid (And.intro hi0 (And.intro hz0 (And.intro hz1 hz2)))
 clear hi0 hz0 hz1 hz2
 generalize IntKind.u64.wrap n=R at *
 have HR:=Lib.hid hR0
 clear hR0 hn
 go_enter Try.func79,Try.ntmps79
 go_wp2_with fail
 go_loopw [3,4,5] (fun out xx i wr=>∃ (j:Nat) (x:Int) (V:Option Addr) (cv:Nat),j≤8∧i = .int .i64 j∧xx = .int .u64 x∧out = .slice V j cv∧Hid (x=R / 256 ^ j)∧Hid (wr.ownsRow w.heap.size U8 1 (.slice V j cv) j (((numB R).take j).map (Value.int .u8)))∧Hid (Below w.heap.size w wr))
  (fun out xx i _=>8 - (intOf i).toNat)
 case atStart=>exact ⟨0,R,none,0,by omega,rfl,rfl,rfl,Lib.hid (by simp),Lib.hid (World.ownsRow_nil _ _ _ _),Lib.hid (Below.refl _ _)⟩
 case round =>
  obtain ⟨j,x,V,cv,hj,rfl,rfl,rfl,hx,hO,hB⟩:=hrel
  by_cases hlt:j < 8
  ·have hji:(j:Int) < 8:=by omega
   have hx0:0≤x∧x < 18446744073709551616:=by
    have h0:=HR.out
    have e:=hx.out
    have:j=0∨j=1∨j=2∨j=3∨j=4∨j=5∨j=6∨j=7:=by omega
    rcases this with rfl | rfl | rfl | rfl | rfl | rfl | rfl | rfl <;> simp at e <;> omega
   obtain ⟨b,hb⟩:∃ b,x.tmod 256 % 256=b:=⟨_,rfl⟩
   have hb':=Lib.hid hb
   have hbase:w.heap.size≤(wr.alloc (.cells #[.int .u8 b] U8)).heap.size:=by have:=hB.out.size;simp;omega
   have HX:=Lib.hid hx0
   clear hx0
   go_wp2_with (first | (at_builtin;refine wpList_append_any _ rfl (.tmp 12) (.tmp 16) _ rfl w.heap.size U8 i0 (.int .u8 0) 1 1 Try.underlying37 HI0.out.1 HI0.out.2.1 HI0.out.2.2.1 HI0.out.2.2.2 rfl (by decide) _ _ _ rfl (own_upW hO.out (below_alloc (Below.refl _ wr))) _ (some ⟨wr.heap.size,0,none⟩) 1 1 [.int .u8 b] rfl (reads_box wr U8 [.int .u8 b]) (fun u hu=>by simp at hu;subst hu;rfl) (by simp only [maxLen];omega) (by omega) hbase ?_;intro v7 w7 hown hg hat;obtain ⟨V7,c7,rfl⟩:=own_form2 hown;have H7:=Lib.hid (And.intro hown hg);clear hown hg hat))
   have hx0:=HX.out
   have hm:b=x % 256:=by rw [← hb'.out,Int.tmod_eq_emod_of_nonneg hx0.1];omega
   have hd:x.tdiv 256=x / 256:=Int.tdiv_eq_ediv_of_nonneg hx0.1
   have hw:IntKind.u64.wrap (x / 256)=x / 256:=by rw [IntKind.wrap_u64];omega
   have hB7:=Lib.hid (Below.trans (below_alloc hB.out) (below_grown (own_upW hO.out (below_alloc (Below.refl _ wr))) H7.out.2 hbase))
   have hO7:=H7.out.1
   rw [takeP hlt hx.out hm] at hO7
   have hx7:x / 256=R / 256 ^ (j+1):=by rw [hx.out,divP R hlt]
   have hO7:=Lib.hid hO7
   rw [hd,hw]
   exact ⟨⟨j+1,x / 256,V7,c7,by omega,rfl,rfl,rfl,Lib.hid hx7,hO7,hB7⟩,by simp [intOf];omega⟩
  ·have hj8:j=8:=by omega
   subst hj8
   go_wp2_with fail
   refine bodyPost_ret (v:=.slice V 8 cv) (by simp [results,Try.results79,go_sem]) rfl ?_
   have hO8:=hO.out
   rw [show (numB R).take 8=numB R from by rw [← numB_len R];exact List.take_length] at hO8
   rw [HNB.out]
   exact WR.mk ⟨V,cv,by rw [numB_len],by rw [numB_len];exact hO8⟩ hB.out
end Go.Proofs.Ytfdldbfjeamlcaa.RwNum
namespace Go.Proofs.Ytfdldbfjeamlcaa.RwNums
set_option maxRecDepth 100000
set_option maxHeartbeats 4000000
open Go.Sort Go.RowKit Mem RecMem RecByte RecNum RecEach RecMath RecCod RecCods RecPort RecCommand RecCmdJ RecVal RecSame RecOwn RecRd RecRByte RecRNum RecREach RecRFlat RecRClass RecRL0 RecRListI RwNum
theorem us_info:Try.prog.underlying 37=some (.slice U8):=by kernel_rfl
theorem wpList_cat {ops:Array Oper} {rest:List Oper} {o:Oper} {a:Act} {w:World} {Q:Exit→Act→World→Prop} (hgd:o.guard=none) (s x:Operand)
    (ho:o.op = .call { callee:=.builtin .append,args:=#[s,x],argTypes:=#[37,37] }) (F:Nat) (v vx:Value) (t u:Bs) (hs:a.eval s=v) (hx:a.eval x=vx)
    (h1:OwnT w F v t) (h2:TxtR w vx u) (hl:t.length+u.length≤140737488355328) (hF:F≤w.heap.size)
    (h:∀ v' w',OwnT w' F v' (t ++ u)→Below F w w'→wpList Try.prog ops Q rest (a.put o.dst v') w'):wpList Try.prog ops Q (o :: rest) a w:=by
 obtain ⟨i0,hi0,hz0,hz1,hz2⟩:=info_parts u8_info
 obtain ⟨V,cv,rfl,h1⟩:=h1
 obtain ⟨A,c,B,rfl,h2⟩:=h2
 refine wpList_append_any w hgd s x 37 ho F U8 i0 (.int .u8 0) 1 1 us_info hi0 hz0 hz1 hz2 rfl (by decide) _ _ _ hs h1 B A u.length c (u.map (Value.int .u8)) hx h2 (cells_u8 u) (by simp only [maxLen];omega) (by omega) hF ?_
 intro v7 w7 hown hg hat
 obtain ⟨V7,c7,rfl⟩:=own_form2 hown
 refine h _ _ ⟨V7,c7,by rw [List.length_append],?_⟩ (below_grown h1 hg hF)
 rw [List.length_append,List.map_append]
 exact hown
theorem step_cat {ops:Array Oper} {o:Oper} {a:Act} {w:World} {K:Act→World→Prop} {Q:Exit→Act→World→Prop} {E:Prop} (hgd:o.guard=none) (s x:Operand)
    (ho:o.op = .call { callee:=.builtin .append,args:=#[s,x],argTypes:=#[37,37] }) (F:Nat) (v vx:Value) (t u:Bs) (hs:a.eval s=v) (hx:a.eval x=vx)
    (h1:OwnT w F v t) (h2:TxtR w vx u) (hl:t.length+u.length≤140737488355328) (hF:F≤w.heap.size)
    (h:∀ v' w',OwnT w' F v' (t ++ u)→Below F w w'→K (a.put o.dst v') w') :
    if Region.wanted o (yielded ops a.tmps)=true then Oper.wp Try.prog o a w K Q else E:=by
 obtain ⟨i0,hi0,hz0,hz1,hz2⟩:=info_parts u8_info
 obtain ⟨V,cv,rfl,h1⟩:=h1
 obtain ⟨A,c,B,rfl,h2⟩:=h2
 refine step_append_any w hgd s x 37 ho F U8 i0 (.int .u8 0) 1 1 us_info hi0 hz0 hz1 hz2 rfl (by decide) _ _ _ hs h1 B A u.length c (u.map (Value.int .u8)) hx h2 (cells_u8 u) (by simp only [maxLen];omega) (by omega) hF ?_
 intro v7 w7 hown hg hat
 obtain ⟨V7,c7,rfl⟩:=own_form2 hown
 refine h _ _ ⟨V7,c7,by rw [List.length_append],?_⟩ (below_grown h1 hg hF)
 rw [List.length_append,List.map_append]
 exact hown
theorem numsB_take {l:List Int} {k:Nat} {x:Int} (h:l[k]? = some x):numsB (l.take k) ++ nB x=numsB (l.take (k+1)):=by
 rw [take_snoc h]
 simp [numsB]
theorem rwnums (l:List Int) (hw:∀ x ∈ l,(Lit.int .i64 x).wf=true) (hl:l.length≤10000) (Y:Option Addr) (c:Nat) (w:World) (hY:IntsAt w Y l) (hc:l.length≤c) :
    Calls Try.prog 119 #[.slice Y l.length c] w fun e w' => WR (numsB l) w e w':=by
 have HW:=Lib.hid (And.intro hw hY)
 have hm2:l.length≤9223372036854775807:=by omega
 clear hw hY
 go_enter Try.func119,Try.ntmps119
 go_wp2_with fail
 go_loopw [3,4] (fun out i wr=>∃ (j:Nat),j≤l.length∧i = .int .i64 j∧Hid (OwnT wr w.heap.size out (numsB (l.take j)))∧Hid (Below w.heap.size w wr))
  (fun out i _=>l.length - (intOf i).toNat)
 case atStart=>exact ⟨0,by omega,rfl,Lib.hid (OwnT.nil _ _),Lib.hid (Below.refl _ _)⟩
 case round =>
  obtain ⟨j,hj,rfl,hO,hB⟩:=hrel
  by_cases hlt:j < l.length
  ·have hji:(j:Int) < (l.length:Int):=by omega
   have hg:l[j]? = some l[j]:=List.getElem?_eq_getElem hlt
   have hx:=HW.out.1 _ (List.getElem_mem hlt)
   generalize l[j]=x at *
   have hY2:=HW.out.2.up hB.out
   obtain ⟨yb,yo,rfl,hyb,hyc⟩:=hY2 j x hg
   have HX:=Lib.hid (And.intro hg hx)
   have HN:=Lib.hid (rwnum x hx)
   have hs1:w.heap.size≤wr.heap.size:=hB.out.size
   clear hx hY2 hg
   go_wp2_with fail
   refine (HN.out wr).mono ?_
   rintro e w1 ⟨v1,rfl,hO1,hB1⟩
   have HB1:=Lib.hid (hB.out.trans (hB1.mono hs1))
   have HO1:=Lib.hid (And.intro (hO.out.up hB1) hO1)
   have hs2:w.heap.size≤w1.heap.size:=HB1.out.size
   have hlen:(numsB (l.take j)).length+(nB x).length≤140737488355328:=by rw [numsB_len,nB_len,List.length_take];omega
   clear hO1 hB1 HN hyc hB hO
   go_wp2_with (first | (at_builtin;refine wpList_cat rfl (.tmp 11) (.tmp 16) rfl w.heap.size u3 v1 (numsB (l.take j)) (nB x) rfl rfl HO1.out.1 HO1.out.2.txt hlen hs2 ?_;intro v2 w2 hO2 hB2;have H2:=Lib.hid (And.intro hO2 hB2);clear hO2 hB2))
   have hO2:=H2.out.1
   rw [numsB_take HX.out.1] at hO2
   exact ⟨⟨j+1,by omega,rfl,Lib.hid hO2,Lib.hid (HB1.out.trans H2.out.2)⟩,by simp [intOf];omega⟩
  ·have hj8:j=l.length:=by omega
   subst hj8
   go_wp2_with fail
   refine bodyPost_ret (v:=u3) (by simp [results,Try.results119,go_sem]) rfl ?_
   have hO8:=hO.out
   rw [List.take_length] at hO8
   exact WR.mk hO8 hB.out
end Go.Proofs.Ytfdldbfjeamlcaa.RwNums
namespace Go.Proofs.Ytfdldbfjeamlcaa.RwList
set_option maxRecDepth 100000
set_option maxHeartbeats 4000000
open Go.Sort Go.RowKit Mem RecMem RecByte RecNum RecEach RecMath RecCod RecCods RecPort RecCommand RecCmdJ RecVal RecSame RecOwn RecRd RecRByte RecRNum RecREach RecRFlat RecRClass RecRL0 RecRListI RwNum RwNums
def TR (b:Bool) (w:World) (e:Ending) (w':World):Prop:=e = .returned (.int .u8 (tB b))∧w' = w
theorem rwtruth (b:Bool) (w:World):Calls Try.prog 120 #[.bool b] w fun e w' => TR b w e w':=by
 cases b
 ·go_enter Try.func120,Try.ntmps120
  go_wp2_with fail
  exact bodyPost_ret (v:=.int .u8 0) (by simp [results,Try.results120,go_sem]) rfl ⟨rfl,rfl⟩
 ·go_enter Try.func120,Try.ntmps120
  go_wp2_with fail
  exact bodyPost_ret (v:=.int .u8 1) (by simp [results,Try.results120,go_sem]) rfl ⟨rfl,rfl⟩
theorem rwlist (l:List Int) (hw:∀ x ∈ l,(Lit.int .i64 x).wf=true) (hl:l.length≤10000) (Y:Option Addr) (c:Nat) (w:World) (hY:IntsAt w Y l) (hc:l.length≤c) :
    Calls Try.prog 121 #[.slice Y l.length c] w fun e w' => WR (nB l.length ++ numsB l) w e w':=by
 have HN:=Lib.hid (rwnum (l.length:Int) (by simp only [Lit.wf,IntKind.min,IntKind.max,IntKind.signed,IntKind.bits];simp;omega) w)
 have HL:=Lib.hid (fun (w1:World) (hB:Below w.heap.size w w1)=>rwnums l hw hl Y c w1 (hY.up hB) hc)
 have hlen:(nB (l.length:Int)).length+(numsB l).length≤140737488355328:=by rw [numsB_len,nB_len];omega
 clear hw hY
 go_enter Try.func121,Try.ntmps121
 go_wp2_with fail
 refine HN.out.mono ?_
 rintro e w1 ⟨v1,rfl,hO1,hB1⟩
 have H1:=Lib.hid (And.intro hO1 hB1)
 have hs1:w.heap.size≤w1.heap.size:=hB1.size
 clear hO1 hB1
 go_wp2_with fail
 refine (HL.out w1 H1.out.2).mono ?_
 rintro e w2 ⟨v2,rfl,hO2,hB2⟩
 have H2:=Lib.hid (And.intro (H1.out.1.up hB2) (And.intro hO2 (H1.out.2.trans (hB2.mono hs1))))
 have hs2:w.heap.size≤w2.heap.size:=H2.out.2.2.size
 clear hO2 hB2
 go_wp2_with (first | (at_builtin;refine wpList_cat rfl (.tmp 5) (.tmp 7) rfl w.heap.size v1 v2 (nB l.length) (numsB l) rfl rfl H2.out.1 H2.out.2.1.txt hlen hs2 ?_;intro v3 w3 hO3 hB3;have H3:=Lib.hid (And.intro hO3 hB3);clear hO3 hB3))
 exact bodyPost_ret (v:=v3) (by simp [results,Try.results121,go_sem]) rfl (WR.mk H3.out.1 (H2.out.2.2.trans H3.out.2))
end Go.Proofs.Ytfdldbfjeamlcaa.RwList
namespace Go.Proofs.Ytfdldbfjeamlcaa.RwBox
set_option maxRecDepth 100000
set_option maxHeartbeats 4000000
open Go.Sort Go.RowKit Mem RecMem RecByte RecNum RecEach RecMath RecCod RecCods RecPort RecCommand RecCmdJ RecVal RecSame RecOwn RecRd RecRByte RecRNum RecREach RecRFlat RecRClass RecRL0 RecRListI RwNum RwNums RwList
theorem intsAt_box (w:World) (l:List Int):IntsAt (w.alloc (.cells (l.map (Value.int .i64)).toArray 3)) (some ⟨w.heap.size,0,none⟩) l:=fun i v hi =>
 ⟨w.heap.size,0,rfl,by simp,((Blk.new w 3 (l.map (Value.int .i64)).toArray).cell _).trans (by simp [hi])⟩
theorem WR.alloc {t:Bs} {w w':World} {o:Obj} {e:Ending} (h:WR t (w.alloc o) e w'):WR t w e w':=by
 obtain ⟨v,rfl,h1,h2⟩:=h
 have hs:w.heap.size≤(w.alloc o).heap.size:=by simp
 exact ⟨v,rfl,h1.mono hs,Below.trans (below_alloc (Below.refl _ w)) (h2.mono hs)⟩
theorem rwnumsB (l:List Int) (hw:∀ x ∈ l,(Lit.int .i64 x).wf=true) (hl:l.length≤10000) (n:Nat) (hn:l.length=n) (vs:Array Value) (hv:vs=(l.map (Value.int .i64)).toArray) (W:World) (g:Nat) (hg:W.heap.size=g) :
    Calls Try.prog 119 #[.slice (some ⟨g,0,none⟩) n n] (W.alloc (.cells vs 3)) fun e w' => WR (numsB l) W e w':=by
 subst hn hv hg
 refine (rwnums l hw hl (some ⟨W.heap.size,0,none⟩) l.length _ (intsAt_box W l) (Nat.le_refl _)).mono ?_
 intro e w' h
 exact WR.alloc h
theorem rwbox (x0 x1 x2 x3 x4 x5:Int) (hw:∀ x ∈ [x0,x1,x2,x3,x4,x5],(Lit.int .i64 x).wf=true) (w:World) :
    Calls Try.prog 118 #[.agg #[.int .i64 x0,.int .i64 x1,.int .i64 x2,.int .i64 x3,.int .i64 x4,.int .i64 x5]] w fun e w' => WR (numsB [x0,x1,x2,x3,x4,x5]) w e w':=by
 have HN:=Lib.hid (rwnumsB [x0,x1,x2,x3,x4,x5] hw (by simp) 6 rfl #[.int .i64 x0,.int .i64 x1,.int .i64 x2,.int .i64 x3,.int .i64 x4,.int .i64 x5] rfl)
 clear hw
 go_enter Try.func118,Try.ntmps118
 go_wp2_with fail
 refine (HN.out _ _ (by simp)).mono ?_
 intro e w1 h
 obtain ⟨v1,rfl,hO1,hB1⟩:=WR.alloc h
 have H1:=Lib.hid (And.intro hO1 hB1)
 clear hO1 hB1 h HN
 go_wp2_with fail
 exact bodyPost_ret (v:=v1) (by simp [results,Try.results118,go_sem]) rfl (WR.mk H1.out.1 H1.out.2)
end Go.Proofs.Ytfdldbfjeamlcaa.RwBox
namespace Go.Proofs.Ytfdldbfjeamlcaa.RwWants
set_option maxRecDepth 100000
set_option maxHeartbeats 4000000
open Go.Sort Go.RowKit Mem RecMem RecByte RecNum RecEach RecMath RecCod RecCods RecPort RecCommand RecCmdJ RecVal RecSame RecOwn RecRd RecRByte RecRNum RecREach RecRFlat RecRClass RecRL0 RecRListI RwNum RwNums RwList RwBox
theorem rwwants (a b c:Int) (p q r tn:Bool) (hw:∀ x ∈ [a,b,c],(Lit.int .i64 x).wf=true) (w:World) :
    Calls Try.prog 126 #[.agg #[.int .i64 a,.int .i64 b,.int .i64 c,.bool p,.bool q,.bool r,.bool tn]] w fun e w' => WR (numsB [a,b,c] ++ [tB p,tB q,tB r,tB tn]) w e w':=by
 have HN:=Lib.hid (rwnumsB [a,b,c] hw (by simp) 3 rfl #[.int .i64 a,.int .i64 b,.int .i64 c] rfl)
 have hlen:(numsB [a,b,c]).length + [tB p,tB q,tB r,tB tn].length≤140737488355328:=by rw [numsB_len];simp
 clear hw
 go_enter Try.func126,Try.ntmps126
 go_wp2_with fail
 refine (HN.out _ _ (by simp)).mono ?_
 have hK:=Blk.new w 25 #[.int .i64 a,.int .i64 b,.int .i64 c,.bool p,.bool q,.bool r,.bool tn]
 have HB0:=Lib.hid (below_alloc (o:=.cells #[.int .i64 a,.int .i64 b,.int .i64 c,.bool p,.bool q,.bool r,.bool tn] 25) (Below.refl _ w))
 have hz:(w.alloc (.cells #[.int .i64 a,.int .i64 b,.int .i64 c,.bool p,.bool q,.bool r,.bool tn] 25)).heap.size=w.heap.size+1:=by simp
 generalize w.alloc (.cells #[.int .i64 a,.int .i64 b,.int .i64 c,.bool p,.bool q,.bool r,.bool tn] 25)=W0 at *
 intro e w1 h
 obtain ⟨v1,rfl,hO1,hB1⟩:=h
 have S0:∀ W,Below W0.heap.size W0 W→(Below W0.heap.size W0 W∧W.cell? ⟨w.heap.size,3,none⟩=some (.bool p)∧W.cell? ⟨w.heap.size,4,none⟩=some (.bool q)∧W.cell? ⟨w.heap.size,5,none⟩=some (.bool r)∧W.cell? ⟨w.heap.size,6,none⟩=some (.bool tn)):=fun W hB =>
  have hk:=hK.below hB (by omega)
  ⟨hB,hk.cell 3,hk.cell 4,hk.cell 5,hk.cell 6⟩
 have H1:=Lib.hid (And.intro hO1 hB1)
 have K1:Below W0.heap.size W0 w1.drew:=hB1.drew
 have K2:Below W0.heap.size W0 (w1.alloc (.cells #[.int .u8 (tB p),.int .u8 (tB q),.int .u8 (tB r),.int .u8 (tB tn)] 5)).drew:=(below_alloc hB1).drew
 have hs1:W0.heap.size≤w1.heap.size:=hB1.size
 have hs2:W0.heap.size≤(w1.drew.alloc (.cells #[.int .u8 (tB p),.int .u8 (tB q),.int .u8 (tB r),.int .u8 (tB tn)] U8)).heap.size:=by simp;omega
 clear hO1 hB1 HN hK
 go_upto_region 2 with fail
 go_region_held3 (fun W=>Below W0.heap.size W0 W∧W.cell? ⟨w.heap.size,3,none⟩=some (.bool p)∧W.cell? ⟨w.heap.size,4,none⟩=some (.bool q)∧W.cell? ⟨w.heap.size,5,none⟩=some (.bool r)∧W.cell? ⟨w.heap.size,6,none⟩=some (.bool tn)) (first | with_reducible exact S0 _ K1 | with_reducible exact S0 _ K2 | (refine S0 _ ?_;assumption)) (first | (go_at_call 120;refine (rwtruth _ _).mono ?_;rintro e W' ⟨rfl,rfl⟩) | (refine step_cat rfl (.tmp 15) (.tmp 31) rfl W0.heap.size v1 _ (numsB [a,b,c]) [tB p,tB q,tB r,tB tn] rfl rfl (OwnT.up H1.out.1 (below_alloc (Below.refl _ w1).drew)) (TxtR.box w1.drew [tB p,tB q,tB r,tB tn] 4 rfl) hlen hs2 ?_;intro v3 w3 hO3 hB3;have K3:=(below_alloc K1).trans hB3;have H3:=Lib.hid (And.intro hO3 K3);clear hO3 hB3))
 go_wp2_with fail
 exact bodyPost_ret (v:=v3) (by simp [results,Try.results126,go_sem]) rfl (WR.mk (H3.out.1.mono (by omega)) (HB0.out.trans (H3.out.2.mono (by omega))))
end Go.Proofs.Ytfdldbfjeamlcaa.RwWants
namespace Go.Proofs.Ytfdldbfjeamlcaa.RwAsk
set_option maxRecDepth 100000
set_option maxHeartbeats 4000000
open Go.Sort Go.RowKit Mem RecMem RecByte RecNum RecEach RecMath RecCod RecCods RecPort RecCommand RecCmdJ RecVal RecSame RecOwn RecRd RecRByte RecRNum RecREach RecRFlat RecRClass RecRL0 RecRListI RwNum RwNums RwList RwBox RwWants
theorem rwasked (m:CV) (id st ca:Int) (Y:Option Addr) (cy:Nat) (hok:∀ x ∈ [m.us,m.cl,m.a,m.b,m.c,m.wa,m.pr],(Lit.int .i64 x).wf=true) (haf:∀ x ∈ m.af,(Lit.int .i64 x).wf=true) (hl:m.af.length≤10000) (hc:m.af.length≤cy) (w:World) (hY:IntsAt w Y m.af) :
    Calls Try.prog 117 #[.agg #[.int .i64 id,.int .i64 m.us,.int .i64 m.cl,.int .i64 m.a,.int .i64 m.b,.int .i64 m.c,.bool m.p,.bool m.q,.bool m.r,.bool m.tn,.int .i64 m.wa,.int .i64 m.pr,.bool m.he,.slice Y m.af.length cy,.int .u8 st,.int .i64 ca]] w fun e w' => WR (askB m) w e w':=by
 have HN1:=Lib.hid (rwnumsB [m.us,m.cl] (fun x hx=>hok x (by simp at hx ⊢;omega)) (by simp) 2 rfl #[.int .i64 m.us,.int .i64 m.cl] rfl)
 have HN2:=Lib.hid (rwwants m.a m.b m.c m.p m.q m.r m.tn (fun x hx=>hok x (by simp at hx ⊢;omega)))
 have HN3:=Lib.hid (rwnumsB [m.wa,m.pr] (fun x hx=>hok x (by simp at hx ⊢;omega)) (by simp) 2 rfl #[.int .i64 m.wa,.int .i64 m.pr] rfl)
 have HN5:=Lib.hid (fun (W:World) (hB:Below w.heap.size w W)=>rwlist m.af haf hl Y cy W (hY.up hB) hc)
 clear hok haf hY
 go_enter Try.func117,Try.ntmps117
 go_wp2_with fail
 have HK:=Lib.hid (Blk.new w 28 #[.int .i64 id,.int .i64 m.us,.int .i64 m.cl,.int .i64 m.a,.int .i64 m.b,.int .i64 m.c,.bool m.p,.bool m.q,.bool m.r,.bool m.tn,.int .i64 m.wa,.int .i64 m.pr,.bool m.he,.slice Y m.af.length cy,.int .u8 st,.int .i64 ca])
 have HB0:=Lib.hid (below_alloc (o:=.cells #[.int .i64 id,.int .i64 m.us,.int .i64 m.cl,.int .i64 m.a,.int .i64 m.b,.int .i64 m.c,.bool m.p,.bool m.q,.bool m.r,.bool m.tn,.int .i64 m.wa,.int .i64 m.pr,.bool m.he,.slice Y m.af.length cy,.int .u8 st,.int .i64 ca] 28) (Below.refl _ w))
 have hz:(w.alloc (.cells #[.int .i64 id,.int .i64 m.us,.int .i64 m.cl,.int .i64 m.a,.int .i64 m.b,.int .i64 m.c,.bool m.p,.bool m.q,.bool m.r,.bool m.tn,.int .i64 m.wa,.int .i64 m.pr,.bool m.he,.slice Y m.af.length cy,.int .u8 st,.int .i64 ca] 28)).heap.size=w.heap.size+1:=by simp
 generalize w.alloc (.cells #[.int .i64 id,.int .i64 m.us,.int .i64 m.cl,.int .i64 m.a,.int .i64 m.b,.int .i64 m.c,.bool m.p,.bool m.q,.bool m.r,.bool m.tn,.int .i64 m.wa,.int .i64 m.pr,.bool m.he,.slice Y m.af.length cy,.int .u8 st,.int .i64 ca] 28)=W0 at *
 refine (HN1.out _ _ hz).mono ?_
 intro e w1 h
 obtain ⟨v1,rfl,hO1,hB1⟩:=h
 have H1:=Lib.hid (And.intro hO1 hB1)
 have hs1:W0.heap.size≤w1.heap.size:=hB1.size
 clear hO1 hB1
 have R3:=Lib.hid (show w1.rangeAt w.heap.size 3 [.int .i64 m.a,.int .i64 m.b,.int .i64 m.c,.bool m.p,.bool m.q,.bool m.r,.bool m.tn] from range_part (n:=7) (HK.out.below H1.out.2 (by omega)) rfl)
 go_wp2_with (first | (refine wpList_load_mid rfl 25 _ rfl _ _ rfl _ _ R3.out Try.underlying25 rfl (by kernel_rfl) ?_))
 refine (HN2.out _).mono ?_
 intro e u1 h
 obtain ⟨x1,rfl,hO,hB⟩:=h
 have G1:=Lib.hid (And.intro (H1.out.1.up hB) (And.intro hO (H1.out.2.trans (hB.mono hs1))))
 have hg1:W0.heap.size≤u1.heap.size:=G1.out.2.2.size
 clear hO hB H1 R3
 have hl1:(numsB [m.us,m.cl]).length+((numsB [m.a,m.b,m.c] ++ [tB m.p,tB m.q,tB m.r,tB m.tn])).length≤140737488355328:=by simp only [List.length_append,numsB_len,nB_len,askB_len,List.length_cons,List.length_nil];omega
 go_wp2_with (first | (at_builtin;refine wpList_cat rfl (.tmp 10) (.tmp 13) rfl W0.heap.size v1 x1 (numsB [m.us,m.cl]) ((numsB [m.a,m.b,m.c] ++ [tB m.p,tB m.q,tB m.r,tB m.tn])) rfl rfl G1.out.1 G1.out.2.1.txt hl1 hg1 ?_;intro v2 w2 hO hB;have H2:=Lib.hid (And.intro hO (Below.trans G1.out.2.2 hB));have hs2:W0.heap.size≤w2.heap.size:=H2.out.2.size;clear hO hB;have c10:w2.cell? ⟨w.heap.size,10,none⟩=some (.int .i64 m.wa):=(HK.out.below H2.out.2 (by omega)).cell 10;have c11:w2.cell? ⟨w.heap.size,11,none⟩=some (.int .i64 m.pr):=(HK.out.below H2.out.2 (by omega)).cell 11))
 refine (HN3.out _ _ rfl).mono ?_
 intro e u2 h
 obtain ⟨x2,rfl,hO,hB⟩:=h
 have G2:=Lib.hid (And.intro (H2.out.1.up hB) (And.intro hO (H2.out.2.trans (hB.mono hs2))))
 have hg2:W0.heap.size≤u2.heap.size:=G2.out.2.2.size
 clear hO hB H2
 have hl2:(numsB [m.us,m.cl] ++ ((numsB [m.a,m.b,m.c] ++ [tB m.p,tB m.q,tB m.r,tB m.tn]))).length+(numsB [m.wa,m.pr]).length≤140737488355328:=by simp only [List.length_append,numsB_len,nB_len,askB_len,List.length_cons,List.length_nil];omega
 go_wp2_with (first | (at_builtin;refine wpList_cat rfl (.tmp 15) (.tmp 21) rfl W0.heap.size v2 x2 (numsB [m.us,m.cl] ++ ((numsB [m.a,m.b,m.c] ++ [tB m.p,tB m.q,tB m.r,tB m.tn]))) (numsB [m.wa,m.pr]) rfl rfl G2.out.1 G2.out.2.1.txt hl2 hg2 ?_;intro v3 w3 hO hB;have H3:=Lib.hid (And.intro hO (Below.trans G2.out.2.2 hB));have hs3:W0.heap.size≤w3.heap.size:=H3.out.2.size;clear hO hB;have c12:w3.cell? ⟨w.heap.size,12,none⟩=some (.bool m.he):=(HK.out.below H3.out.2 (by omega)).cell 12))
 refine (rwtruth _ _).mono ?_
 rintro e W93 ⟨rfl,e2⟩
 obtain rfl:=e2.symm
 have hl3:(numsB [m.us,m.cl] ++ ((numsB [m.a,m.b,m.c] ++ [tB m.p,tB m.q,tB m.r,tB m.tn])) ++ (numsB [m.wa,m.pr])).length+([tB m.he]).length≤140737488355328:=by simp only [List.length_append,numsB_len,nB_len,askB_len,List.length_cons,List.length_nil];omega
 have hg3:W0.heap.size≤(w3.alloc (.cells #[.int .u8 (tB m.he)] 5)).heap.size:=by simp;omega
 go_wp2_with (first | (at_builtin;refine wpList_cat rfl (.tmp 23) (.tmp 27) rfl W0.heap.size v3 _ (numsB [m.us,m.cl] ++ ((numsB [m.a,m.b,m.c] ++ [tB m.p,tB m.q,tB m.r,tB m.tn])) ++ (numsB [m.wa,m.pr])) ([tB m.he]) rfl rfl (OwnT.up H3.out.1 (below_alloc (Below.refl _ w3))) (TxtR.box w3 [tB m.he] 1 rfl) hl3 hg3 ?_;intro v4 w4 hO hB;have H4:=Lib.hid (And.intro hO (Below.trans (below_alloc2 hs3 H3.out.2 _) hB));have hs4:W0.heap.size≤w4.heap.size:=H4.out.2.size;clear hO hB;have c13:w4.cell? ⟨w.heap.size,13,none⟩=some (.slice Y m.af.length cy):=(HK.out.below H4.out.2 (by omega)).cell 13))
 refine (HN5.out _ (HB0.out.trans (H4.out.2.mono (by omega)))).mono ?_
 intro e u4 h
 obtain ⟨x4,rfl,hO,hB⟩:=h
 have G4:=Lib.hid (And.intro (H4.out.1.up hB) (And.intro hO (H4.out.2.trans (hB.mono hs4))))
 have hg4:W0.heap.size≤u4.heap.size:=G4.out.2.2.size
 clear hO hB H4
 have hl4:(numsB [m.us,m.cl] ++ ((numsB [m.a,m.b,m.c] ++ [tB m.p,tB m.q,tB m.r,tB m.tn])) ++ (numsB [m.wa,m.pr]) ++ ([tB m.he])).length+(nB m.af.length ++ numsB m.af).length≤140737488355328:=by simp only [List.length_append,numsB_len,nB_len,askB_len,List.length_cons,List.length_nil];omega
 go_wp2_with (first | (at_builtin;refine wpList_cat rfl (.tmp 29) (.tmp 32) rfl W0.heap.size v4 x4 (numsB [m.us,m.cl] ++ ((numsB [m.a,m.b,m.c] ++ [tB m.p,tB m.q,tB m.r,tB m.tn])) ++ (numsB [m.wa,m.pr]) ++ ([tB m.he])) (nB m.af.length ++ numsB m.af) rfl rfl G4.out.1 G4.out.2.1.txt hl4 hg4 ?_;intro v5 w5 hO hB;have H5:=Lib.hid (And.intro hO (Below.trans G4.out.2.2 hB));have hs5:W0.heap.size≤w5.heap.size:=H5.out.2.size;clear hO hB))
 have et:numsB [m.us,m.cl] ++ ((numsB [m.a,m.b,m.c] ++ [tB m.p,tB m.q,tB m.r,tB m.tn])) ++ (numsB [m.wa,m.pr]) ++ ([tB m.he]) ++ (nB m.af.length ++ numsB m.af)=askB m:=by simp [askB,numsB,List.append_assoc]
 have hO:=H5.out.1
 rw [et] at hO
 exact bodyPost_ret (v:=v5) (by simp [results,Try.results117,go_sem]) rfl (WR.mk (hO.mono (by omega)) (HB0.out.trans (H5.out.2.mono (by omega))))
end Go.Proofs.Ytfdldbfjeamlcaa.RwAsk
namespace Go.Proofs.Ytfdldbfjeamlcaa.RwCmdI
set_option maxRecDepth 100000
set_option maxHeartbeats 4000000
open Go.Sort Go.RowKit Mem RecMem RecByte RecNum RecEach RecMath RecCod RecCods RecPort RecCommand RecCmdJ RecVal RecSame RecOwn RecRd RecRByte RecRNum RecREach RecRFlat RecRClass RecRL0 RecRListI RwNum RwNums RwList RwBox RwWants RwAsk
theorem OwnT.box (w:World) (t:Bs) (g:Nat) (hg:w.heap.size=g) (hl:t.length≤maxLen:=by simp [maxLen]):OwnT (w.alloc (.cells (t.map (Value.int .u8)).toArray U8)) w.heap.size (.slice (some ⟨g,0,none⟩) t.length t.length) t:=by
 subst hg
 refine ⟨_,_,rfl,?_⟩
 have:=World.ownsRow_lit (base:=w.heap.size) (e:=U8) (size:=1) w (t.map (Value.int .u8)).toArray t.length (Nat.le_refl _) hl (by simp)
 simpa using this
theorem rwcmdI (m:CV) (Y:Option Addr) (cy:Nat) (hkd:m.kd=2∨m.kd=3∨m.kd=4∨m.kd=6) (hok:CWf m) (hl:m.af.length≤10000) (hc:m.af.length≤cy) (w:World) (hY:IntsAt w Y m.af) :
    Calls Try.prog 80 #[.agg (cL m Y cy).toArray] w fun e w' => WR (cmdB m) w e w':=by
 have hok1:=hok.1
 have HN1:=Lib.hid (rwnum m.ci (hok1 _ (by simp)))
 clear hok hok1 hY
 rcases hkd with hk | hk | hk | hk
 all_goals
  replace hk:=Lib.hid hk
  go_enter Try.func80,Try.ntmps80
  go_upto_region 2 with fail
  have HK:=Lib.hid (Blk.new w 34 (cL m Y cy).toArray)
  have HB0:=Lib.hid (below_alloc (o:=.cells (cL m Y cy).toArray 34) (Below.refl _ w))
  have hz:(w.alloc (.cells (cL m Y cy).toArray 34)).heap.size=w.heap.size+1:=by simp
  generalize w.alloc (.cells (cL m Y cy).toArray 34)=W0 at *
  have H1:Hid (OwnT (W0.alloc (.cells #[.int .u8 m.kd] 5)) W0.heap.size (.slice (some ⟨w.heap.size+1,0,none⟩) 1 1) [m.kd]∧Below W0.heap.size W0 (W0.alloc (.cells #[.int .u8 m.kd] 5))):=Lib.hid (And.intro (OwnT.box W0 [m.kd] _ hz) (below_alloc (Below.refl _ W0)))
  have hs1:W0.heap.size≤(W0.alloc (.cells #[.int .u8 m.kd] 5)).heap.size:=H1.out.2.size
  generalize W0.alloc (.cells #[.int .u8 m.kd] 5)=w1 at *
  generalize Value.slice (some ⟨w.heap.size+1,0,none⟩) 1 1=v1 at *
  have c0:w1.cell? ⟨w.heap.size,0,none⟩=some (.int .u8 m.kd):=(HK.out.below H1.out.2 (by omega)).cell 0
  rw [hk.out] at c0
  have c17:w1.cell? ⟨w.heap.size,17,none⟩=some (.int .i64 m.ci):=(HK.out.below H1.out.2 (by omega)).cell 17
  go_wp2_with (first | fail)
  refine (HN1.out _).mono ?_
  intro e u1 h
  obtain ⟨x1,rfl,hO,hB⟩:=h
  have G1:=Lib.hid (And.intro (H1.out.1.up hB) (And.intro hO (H1.out.2.trans (hB.mono hs1))))
  have hg1:W0.heap.size≤u1.heap.size:=G1.out.2.2.size
  clear hO hB H1
  have hl1:([m.kd]).length+(nB m.ci).length≤140737488355328:=by simp only [List.length_append,numsB_len,nB_len,askB_len,List.length_cons,List.length_nil];omega
  go_wp2_with (first | (at_builtin;refine wpList_cat rfl (.tmp 21) (.tmp 24) rfl W0.heap.size v1 x1 ([m.kd]) (nB m.ci) rfl rfl G1.out.1 G1.out.2.1.txt hl1 hg1 ?_;intro v2 w2 hO hB;have H2:=Lib.hid (And.intro hO (Below.trans G1.out.2.2 hB));have hs2:W0.heap.size≤w2.heap.size:=H2.out.2.size;clear hO hB))
  have et:[m.kd] ++ (nB m.ci)=cmdB m:=by
   unfold cmdB
   simp [hk.out,isJob,isId,isKeep,isWell,isN,numsB]
  have hO:=H2.out.1
  rw [et] at hO
  exact bodyPost_ret (v:=v2) (by simp [results,Try.results80,go_sem]) rfl (WR.mk (hO.mono (by omega)) (HB0.out.trans (H2.out.2.mono (by omega))))
end Go.Proofs.Ytfdldbfjeamlcaa.RwCmdI
namespace Go.Proofs.Ytfdldbfjeamlcaa.RwCmdJ
set_option maxRecDepth 100000
set_option maxHeartbeats 4000000
open Go.Sort Go.RowKit Mem RecMem RecByte RecNum RecEach RecMath RecCod RecCods RecPort RecCommand RecCmdJ RecVal RecSame RecOwn RecRd RecRByte RecRNum RecREach RecRFlat RecRClass RecRL0 RecRListI RwNum RwNums RwList RwBox RwWants RwAsk RwCmdI
theorem rwcmdJ (m:CV) (Y:Option Addr) (cy:Nat) (hkd:m.kd=1) (hok:CWf m) (hl:m.af.length≤10000) (hc:m.af.length≤cy) (w:World) (hY:IntsAt w Y m.af) :
    Calls Try.prog 80 #[.agg (cL m Y cy).toArray] w fun e w' => WR (cmdB m) w e w':=by
 have hok1:=hok.1
 have HN1:=Lib.hid (fun (W:World) (hB:Below w.heap.size w W)=>rwasked m m.id m.st m.ca Y cy (fun x hx=>hok1 x (by simp only [List.mem_cons,List.not_mem_nil,or_false] at hx;rcases hx with rfl | rfl | rfl | rfl | rfl | rfl | rfl <;> simp)) hok.2 hl hc W (hY.up hB))
 clear hok hok1 hY
 revert hkd
 intro hk
 all_goals
  replace hk:=Lib.hid hk
  go_enter Try.func80,Try.ntmps80
  go_upto_region 2 with fail
  have HK:=Lib.hid (Blk.new w 34 (cL m Y cy).toArray)
  have HB0:=Lib.hid (below_alloc (o:=.cells (cL m Y cy).toArray 34) (Below.refl _ w))
  have hz:(w.alloc (.cells (cL m Y cy).toArray 34)).heap.size=w.heap.size+1:=by simp
  generalize w.alloc (.cells (cL m Y cy).toArray 34)=W0 at *
  have H1:Hid (OwnT (W0.alloc (.cells #[.int .u8 m.kd] 5)) W0.heap.size (.slice (some ⟨w.heap.size+1,0,none⟩) 1 1) [m.kd]∧Below W0.heap.size W0 (W0.alloc (.cells #[.int .u8 m.kd] 5))):=Lib.hid (And.intro (OwnT.box W0 [m.kd] _ hz) (below_alloc (Below.refl _ W0)))
  have hs1:W0.heap.size≤(W0.alloc (.cells #[.int .u8 m.kd] 5)).heap.size:=H1.out.2.size
  generalize W0.alloc (.cells #[.int .u8 m.kd] 5)=w1 at *
  generalize Value.slice (some ⟨w.heap.size+1,0,none⟩) 1 1=v1 at *
  have c0:w1.cell? ⟨w.heap.size,0,none⟩=some (.int .u8 m.kd):=(HK.out.below H1.out.2 (by omega)).cell 0
  rw [hk.out] at c0
  have R1:=Lib.hid (show w1.rangeAt w.heap.size 1 [.int .i64 m.id,.int .i64 m.us,.int .i64 m.cl,.int .i64 m.a,.int .i64 m.b,.int .i64 m.c,.bool m.p,.bool m.q,.bool m.r,.bool m.tn,.int .i64 m.wa,.int .i64 m.pr,.bool m.he,.slice Y m.af.length cy,.int .u8 m.st,.int .i64 m.ca] from range_part (n:=16) (HK.out.below H1.out.2 (by omega)) rfl)
  go_wp2_with (first | (refine wpList_load_mid rfl 28 _ rfl _ _ rfl _ _ R1.out Try.underlying28 rfl (by kernel_rfl) ?_))
  refine (HN1.out _ (HB0.out.trans (H1.out.2.mono (by omega)))).mono ?_
  intro e u1 h
  obtain ⟨x1,rfl,hO,hB⟩:=h
  have G1:=Lib.hid (And.intro (H1.out.1.up hB) (And.intro hO (H1.out.2.trans (hB.mono hs1))))
  have hg1:W0.heap.size≤u1.heap.size:=G1.out.2.2.size
  clear hO hB H1 R1
  have hl1:([m.kd]).length+(askB m).length≤140737488355328:=by simp only [List.length_append,numsB_len,nB_len,askB_len,List.length_cons,List.length_nil];omega
  go_wp2_with (first | (at_builtin;refine wpList_cat rfl (.tmp 11) (.tmp 14) rfl W0.heap.size v1 x1 ([m.kd]) (askB m) rfl rfl G1.out.1 G1.out.2.1.txt hl1 hg1 ?_;intro v2 w2 hO hB;have H2:=Lib.hid (And.intro hO (Below.trans G1.out.2.2 hB));have hs2:W0.heap.size≤w2.heap.size:=H2.out.2.size;clear hO hB))
  have et:[m.kd] ++ (askB m)=cmdB m:=by
   unfold cmdB
   simp [hk.out,isJob,isId,isKeep,isWell,isN,numsB]
  have hO:=H2.out.1
  rw [et] at hO
  exact bodyPost_ret (v:=v2) (by simp [results,Try.results80,go_sem]) rfl (WR.mk (hO.mono (by omega)) (HB0.out.trans (H2.out.2.mono (by omega))))
theorem rwcmdK (m:CV) (Y:Option Addr) (cy:Nat) (hkd:m.kd=5) (hok:CWf m) (hl:m.af.length≤10000) (hc:m.af.length≤cy) (w:World) (hY:IntsAt w Y m.af) :
    Calls Try.prog 80 #[.agg (cL m Y cy).toArray] w fun e w' => WR (cmdB m) w e w':=by
 have hok1:=hok.1
 have HN1:=Lib.hid (rwbox m.b0 m.b1 m.b2 m.b3 m.b4 m.b5 (fun x hx=>hok1 x (by simp only [List.mem_cons,List.not_mem_nil,or_false] at hx;rcases hx with rfl | rfl | rfl | rfl | rfl | rfl <;> simp)))
 have HN2:=Lib.hid (rwnumsB [m.fr,m.to] (fun x hx=>hok1 x (by simp only [List.mem_cons,List.not_mem_nil,or_false] at hx;rcases hx with rfl | rfl <;> simp)) (by simp) 2 rfl #[.int .i64 m.fr,.int .i64 m.to] rfl)
 clear hok hok1 hY
 revert hkd
 intro hk
 all_goals
  replace hk:=Lib.hid hk
  go_enter Try.func80,Try.ntmps80
  go_upto_region 2 with fail
  have HK:=Lib.hid (Blk.new w 34 (cL m Y cy).toArray)
  have HB0:=Lib.hid (below_alloc (o:=.cells (cL m Y cy).toArray 34) (Below.refl _ w))
  have hz:(w.alloc (.cells (cL m Y cy).toArray 34)).heap.size=w.heap.size+1:=by simp
  generalize w.alloc (.cells (cL m Y cy).toArray 34)=W0 at *
  have H1:Hid (OwnT (W0.alloc (.cells #[.int .u8 m.kd] 5)) W0.heap.size (.slice (some ⟨w.heap.size+1,0,none⟩) 1 1) [m.kd]∧Below W0.heap.size W0 (W0.alloc (.cells #[.int .u8 m.kd] 5))):=Lib.hid (And.intro (OwnT.box W0 [m.kd] _ hz) (below_alloc (Below.refl _ W0)))
  have hs1:W0.heap.size≤(W0.alloc (.cells #[.int .u8 m.kd] 5)).heap.size:=H1.out.2.size
  generalize W0.alloc (.cells #[.int .u8 m.kd] 5)=w1 at *
  generalize Value.slice (some ⟨w.heap.size+1,0,none⟩) 1 1=v1 at *
  have c0:w1.cell? ⟨w.heap.size,0,none⟩=some (.int .u8 m.kd):=(HK.out.below H1.out.2 (by omega)).cell 0
  rw [hk.out] at c0
  have R18:=Lib.hid (show w1.rangeAt w.heap.size 18 [.int .i64 m.b0,.int .i64 m.b1,.int .i64 m.b2,.int .i64 m.b3,.int .i64 m.b4,.int .i64 m.b5] from range_part (n:=6) (HK.out.below H1.out.2 (by omega)) rfl)
  go_wp2_with (first | (refine wpList_load_mid rfl 30 _ rfl _ _ rfl _ _ R18.out Try.underlying30 rfl (by kernel_rfl) ?_))
  refine (HN1.out _).mono ?_
  intro e u1 h
  obtain ⟨x1,rfl,hO,hB⟩:=h
  have G1:=Lib.hid (And.intro (H1.out.1.up hB) (And.intro hO (H1.out.2.trans (hB.mono hs1))))
  have hg1:W0.heap.size≤u1.heap.size:=G1.out.2.2.size
  clear hO hB H1 R18
  have hl1:([m.kd]).length+(numsB [m.b0,m.b1,m.b2,m.b3,m.b4,m.b5]).length≤140737488355328:=by simp only [List.length_append,numsB_len,nB_len,askB_len,List.length_cons,List.length_nil];omega
  go_wp2_with (first | (at_builtin;refine wpList_cat rfl (.tmp 28) (.tmp 31) rfl W0.heap.size v1 x1 ([m.kd]) (numsB [m.b0,m.b1,m.b2,m.b3,m.b4,m.b5]) rfl rfl G1.out.1 G1.out.2.1.txt hl1 hg1 ?_;intro v2 w2 hO hB;have H2:=Lib.hid (And.intro hO (Below.trans G1.out.2.2 hB));have hs2:W0.heap.size≤w2.heap.size:=H2.out.2.size;clear hO hB;have c24:w2.cell? ⟨w.heap.size,24,none⟩=some (.int .i64 m.fr):=(HK.out.below H2.out.2 (by omega)).cell 24;have c25:w2.cell? ⟨w.heap.size,25,none⟩=some (.int .i64 m.to):=(HK.out.below H2.out.2 (by omega)).cell 25))
  refine (HN2.out _ _ rfl).mono ?_
  intro e u2 h
  obtain ⟨x2,rfl,hO,hB⟩:=h
  have G2:=Lib.hid (And.intro (H2.out.1.up hB) (And.intro hO (H2.out.2.trans (hB.mono hs2))))
  have hg2:W0.heap.size≤u2.heap.size:=G2.out.2.2.size
  clear hO hB H2
  have hl2:([m.kd] ++ (numsB [m.b0,m.b1,m.b2,m.b3,m.b4,m.b5])).length+(numsB [m.fr,m.to]).length≤140737488355328:=by simp only [List.length_append,numsB_len,nB_len,askB_len,List.length_cons,List.length_nil];omega
  go_wp2_with (first | (at_builtin;refine wpList_cat rfl (.tmp 33) (.tmp 41) rfl W0.heap.size v2 x2 ([m.kd] ++ (numsB [m.b0,m.b1,m.b2,m.b3,m.b4,m.b5])) (numsB [m.fr,m.to]) rfl rfl G2.out.1 G2.out.2.1.txt hl2 hg2 ?_;intro v3 w3 hO hB;have H3:=Lib.hid (And.intro hO (Below.trans G2.out.2.2 hB));have hs3:W0.heap.size≤w3.heap.size:=H3.out.2.size;clear hO hB))
  have et:[m.kd] ++ (numsB [m.b0,m.b1,m.b2,m.b3,m.b4,m.b5]) ++ (numsB [m.fr,m.to])=cmdB m:=by
   unfold cmdB
   simp [hk.out,isJob,isId,isKeep,isWell,isN,numsB]
  have hO:=H3.out.1
  rw [et] at hO
  exact bodyPost_ret (v:=v3) (by simp [results,Try.results80,go_sem]) rfl (WR.mk (hO.mono (by omega)) (HB0.out.trans (H3.out.2.mono (by omega))))
theorem rwcmdW (m:CV) (Y:Option Addr) (cy:Nat) (hkd:m.kd=8∨m.kd=9) (hok:CWf m) (hl:m.af.length≤10000) (hc:m.af.length≤cy) (w:World) (hY:IntsAt w Y m.af) :
    Calls Try.prog 80 #[.agg (cL m Y cy).toArray] w fun e w' => WR (cmdB m) w e w':=by
 have hok1:=hok.1
 have HN1:=Lib.hid (rwnum m.ci (hok1 _ (by simp)))
 clear hok hok1 hY
 rcases hkd with hk | hk
 all_goals
  replace hk:=Lib.hid hk
  go_enter Try.func80,Try.ntmps80
  go_upto_region 2 with fail
  have HK:=Lib.hid (Blk.new w 34 (cL m Y cy).toArray)
  have HB0:=Lib.hid (below_alloc (o:=.cells (cL m Y cy).toArray 34) (Below.refl _ w))
  have hz:(w.alloc (.cells (cL m Y cy).toArray 34)).heap.size=w.heap.size+1:=by simp
  generalize w.alloc (.cells (cL m Y cy).toArray 34)=W0 at *
  have H1:Hid (OwnT (W0.alloc (.cells #[.int .u8 m.kd] 5)) W0.heap.size (.slice (some ⟨w.heap.size+1,0,none⟩) 1 1) [m.kd]∧Below W0.heap.size W0 (W0.alloc (.cells #[.int .u8 m.kd] 5))):=Lib.hid (And.intro (OwnT.box W0 [m.kd] _ hz) (below_alloc (Below.refl _ W0)))
  have hs1:W0.heap.size≤(W0.alloc (.cells #[.int .u8 m.kd] 5)).heap.size:=H1.out.2.size
  generalize W0.alloc (.cells #[.int .u8 m.kd] 5)=w1 at *
  generalize Value.slice (some ⟨w.heap.size+1,0,none⟩) 1 1=v1 at *
  have c0:w1.cell? ⟨w.heap.size,0,none⟩=some (.int .u8 m.kd):=(HK.out.below H1.out.2 (by omega)).cell 0
  rw [hk.out] at c0
  have c17:w1.cell? ⟨w.heap.size,17,none⟩=some (.int .i64 m.ci):=(HK.out.below H1.out.2 (by omega)).cell 17
  go_wp2_with (first | fail)
  refine (HN1.out _).mono ?_
  intro e u1 h
  obtain ⟨x1,rfl,hO,hB⟩:=h
  have G1:=Lib.hid (And.intro (H1.out.1.up hB) (And.intro hO (H1.out.2.trans (hB.mono hs1))))
  have hg1:W0.heap.size≤u1.heap.size:=G1.out.2.2.size
  clear hO hB H1
  have hl1:([m.kd]).length+(nB m.ci).length≤140737488355328:=by simp only [List.length_append,numsB_len,nB_len,askB_len,List.length_cons,List.length_nil];omega
  go_wp2_with (first | (at_builtin;refine wpList_cat rfl (.tmp 46) (.tmp 49) rfl W0.heap.size v1 x1 ([m.kd]) (nB m.ci) rfl rfl G1.out.1 G1.out.2.1.txt hl1 hg1 ?_;intro v2 w2 hO hB;have H2:=Lib.hid (And.intro hO (Below.trans G1.out.2.2 hB));have hs2:W0.heap.size≤w2.heap.size:=H2.out.2.size;clear hO hB;have c27:w2.cell? ⟨w.heap.size,27,none⟩=some (.bool m.we):=(HK.out.below H2.out.2 (by omega)).cell 27))
  refine (rwtruth _ _).mono ?_
  rintro e W92 ⟨rfl,e2⟩
  obtain rfl:=e2.symm
  have hl2:([m.kd] ++ (nB m.ci)).length+([tB m.we]).length≤140737488355328:=by simp only [List.length_append,numsB_len,nB_len,askB_len,List.length_cons,List.length_nil];omega
  have hg2:W0.heap.size≤(w2.alloc (.cells #[.int .u8 (tB m.we)] 5)).heap.size:=by simp;omega
  go_wp2_with (first | (at_builtin;refine wpList_cat rfl (.tmp 51) (.tmp 55) rfl W0.heap.size v2 _ ([m.kd] ++ (nB m.ci)) ([tB m.we]) rfl rfl (OwnT.up H2.out.1 (below_alloc (Below.refl _ w2))) (TxtR.box w2 [tB m.we] 1 rfl) hl2 hg2 ?_;intro v3 w3 hO hB;have H3:=Lib.hid (And.intro hO (Below.trans (below_alloc2 hs2 H2.out.2 _) hB));have hs3:W0.heap.size≤w3.heap.size:=H3.out.2.size;clear hO hB))
  have et:[m.kd] ++ (nB m.ci) ++ ([tB m.we])=cmdB m:=by
   unfold cmdB
   simp [hk.out,isJob,isId,isKeep,isWell,isN,numsB]
  have hO:=H3.out.1
  rw [et] at hO
  exact bodyPost_ret (v:=v3) (by simp [results,Try.results80,go_sem]) rfl (WR.mk (hO.mono (by omega)) (HB0.out.trans (H3.out.2.mono (by omega))))
end Go.Proofs.Ytfdldbfjeamlcaa.RwCmdJ
namespace Go.Proofs.Ytfdldbfjeamlcaa.RwCmdN
set_option maxRecDepth 100000
set_option maxHeartbeats 4000000
open Go.Sort Go.RowKit Mem RecMem RecByte RecNum RecEach RecMath RecCod RecCods RecPort RecCommand RecCmdJ RecVal RecSame RecOwn RecRd RecRByte RecRNum RecREach RecRFlat RecRClass RecRL0 RecRListI RwNum RwNums RwList RwBox RwWants RwAsk RwCmdI RwCmdJ
theorem rwcmdN (m:CV) (Y:Option Addr) (cy:Nat) (hkd:m.kd=7∨m.kd=10∨m.kd=11∨m.kd=12∨m.kd=13∨m.kd=14∨m.kd=15) (hok:CWf m) (hl:m.af.length≤10000) (hc:m.af.length≤cy) (w:World) (hY:IntsAt w Y m.af) :
    Calls Try.prog 80 #[.agg (cL m Y cy).toArray] w fun e w' => WR (cmdB m) w e w':=by
 have hok1:=hok.1
 have HN1:=Lib.hid (rwnum m.n (hok1 _ (by simp)))
 clear hok hok1 hY
 rcases hkd with hk | hk | hk | hk | hk | hk | hk
 all_goals
  replace hk:=Lib.hid hk
  go_enter Try.func80,Try.ntmps80
  go_upto_region 2 with fail
  have HK:=Lib.hid (Blk.new w 34 (cL m Y cy).toArray)
  have HB0:=Lib.hid (below_alloc (o:=.cells (cL m Y cy).toArray 34) (Below.refl _ w))
  have hz:(w.alloc (.cells (cL m Y cy).toArray 34)).heap.size=w.heap.size+1:=by simp
  generalize w.alloc (.cells (cL m Y cy).toArray 34)=W0 at *
  have H1:Hid (OwnT (W0.alloc (.cells #[.int .u8 m.kd] 5)) W0.heap.size (.slice (some ⟨w.heap.size+1,0,none⟩) 1 1) [m.kd]∧Below W0.heap.size W0 (W0.alloc (.cells #[.int .u8 m.kd] 5))):=Lib.hid (And.intro (OwnT.box W0 [m.kd] _ hz) (below_alloc (Below.refl _ W0)))
  have hs1:W0.heap.size≤(W0.alloc (.cells #[.int .u8 m.kd] 5)).heap.size:=H1.out.2.size
  generalize W0.alloc (.cells #[.int .u8 m.kd] 5)=w1 at *
  generalize Value.slice (some ⟨w.heap.size+1,0,none⟩) 1 1=v1 at *
  have c0:w1.cell? ⟨w.heap.size,0,none⟩=some (.int .u8 m.kd):=(HK.out.below H1.out.2 (by omega)).cell 0
  rw [hk.out] at c0
  have c26:w1.cell? ⟨w.heap.size,26,none⟩=some (.int .i64 m.n):=(HK.out.below H1.out.2 (by omega)).cell 26
  go_wp2_with (first | fail)
  refine (HN1.out _).mono ?_
  intro e u1 h
  obtain ⟨x1,rfl,hO,hB⟩:=h
  have G1:=Lib.hid (And.intro (H1.out.1.up hB) (And.intro hO (H1.out.2.trans (hB.mono hs1))))
  have hg1:W0.heap.size≤u1.heap.size:=G1.out.2.2.size
  clear hO hB H1
  have hl1:([m.kd]).length+(nB m.n).length≤140737488355328:=by simp only [List.length_append,numsB_len,nB_len,askB_len,List.length_cons,List.length_nil];omega
  go_wp2_with (first | (at_builtin;refine wpList_cat rfl (.tmp 57) (.tmp 60) rfl W0.heap.size v1 x1 ([m.kd]) (nB m.n) rfl rfl G1.out.1 G1.out.2.1.txt hl1 hg1 ?_;intro v2 w2 hO hB;have H2:=Lib.hid (And.intro hO (Below.trans G1.out.2.2 hB));have hs2:W0.heap.size≤w2.heap.size:=H2.out.2.size;clear hO hB))
  have et:[m.kd] ++ (nB m.n)=cmdB m:=by
   unfold cmdB
   simp [hk.out,isJob,isId,isKeep,isWell,isN,numsB]
  have hO:=H2.out.1
  rw [et] at hO
  exact bodyPost_ret (v:=v2) (by simp [results,Try.results80,go_sem]) rfl (WR.mk (hO.mono (by omega)) (HB0.out.trans (H2.out.2.mono (by omega))))
end Go.Proofs.Ytfdldbfjeamlcaa.RwCmdN
namespace Go.Proofs.Ytfdldbfjeamlcaa.RwCmd
open Go.Sort Go.RowKit Mem RecMem RecByte RecNum RecEach RecMath RecCod RecCods RecPort RecCommand RecCmdJ RecVal RecSame RecOwn RecRd RecRByte RecRNum RecREach RecRFlat RecRClass RecRL0 RecRListI RwNum RwNums RwList RwBox RwWants RwAsk RwCmdI RwCmdJ RwCmdN
theorem rwcommand (m:CV) (Y:Option Addr) (cy:Nat) (h1:1≤m.kd) (h2:m.kd≤15) (hok:CWf m) (hl:m.af.length≤10000) (hc:m.af.length≤cy) (w:World) (hY:IntsAt w Y m.af) :
    Calls Try.prog 80 #[.agg (cL m Y cy).toArray] w fun e w' => WR (cmdB m) w e w':=by
 by_cases hJ:m.kd=1
 ·exact rwcmdJ m Y cy hJ hok hl hc w hY
 ·by_cases hK:m.kd=5
  ·exact rwcmdK m Y cy hK hok hl hc w hY
  ·by_cases hI:m.kd=2∨m.kd=3∨m.kd=4∨m.kd=6
   ·exact rwcmdI m Y cy hI hok hl hc w hY
   ·by_cases hW:m.kd=8∨m.kd=9
    ·exact rwcmdW m Y cy hW hok hl hc w hY
    ·exact rwcmdN m Y cy (by omega) hok hl hc w hY
end Go.Proofs.Ytfdldbfjeamlcaa.RwCmd
namespace Go.Proofs.Ytfdldbfjeamlcaa.RwState0
set_option maxRecDepth 100000
open Go.Sort Go.RowKit Mem RecMem RecByte RecNum RecEach RecMath RecCod RecCods RecPort RecCommand RecCmdJ RecVal RecSame RecOwn RecRd RecRByte RecRNum RecREach RecRFlat RecRClass RecRL0 RecRListI RwNum RwNums RwList RwBox RwWants RwAsk RecEqJ RecWAt
theorem wpList_catK {ops:Array Oper} {rest:List Oper} {o:Oper} {a:Act} {w:World} {Q:Exit→Act→World→Prop} (hgd:o.guard=none) (s x:Operand)
    (ho:o.op = .call { callee:=.builtin .append,args:=#[s,x],argTypes:=#[37,37] }) (F:Nat) (v vx:Value) (t u:Bs) (hs:a.eval s=v) (hx:a.eval x=vx)
    (h1:OwnT w F v t) (h2:TxtR w vx u) (hl:t.length+u.length≤140737488355328) (hF:F≤w.heap.size) {g:Nat} {T:TypeId} {cs:Array Value} (hK:Blk w g T cs) (hT:U8≠T)
    (h:∀ v' w',OwnT w' F v' (t ++ u)→Below F w w'→Blk w' g T cs→wpList Try.prog ops Q rest (a.put o.dst v') w'):wpList Try.prog ops Q (o :: rest) a w:=by
 obtain ⟨i0,hi0,hz0,hz1,hz2⟩:=info_parts u8_info
 obtain ⟨V,cv,rfl,h1⟩:=h1
 obtain ⟨A,c,B,rfl,h2⟩:=h2
 refine wpList_append_any w hgd s x 37 ho F U8 i0 (.int .u8 0) 1 1 us_info hi0 hz0 hz1 hz2 rfl (by decide) _ _ _ hs h1 B A u.length c (u.map (Value.int .u8)) hx h2 (cells_u8 u) (by simp only [maxLen];omega) (by omega) hF ?_
 intro v7 w7 hown hg hat
 obtain ⟨V7,c7,rfl⟩:=own_form2 hown
 refine h _ _ ⟨V7,c7,by rw [List.length_append],?_⟩ (below_grown h1 hg hF) (hK.grown hg fun e1=>own_blk_ne h1 hK hT e1.symm)
 rw [List.length_append,List.map_append]
 exact hown
theorem step_catK {ops:Array Oper} {o:Oper} {a:Act} {w:World} {K:Act→World→Prop} {Q:Exit→Act→World→Prop} {E:Prop} (hgd:o.guard=none) (s x:Operand)
    (ho:o.op = .call { callee:=.builtin .append,args:=#[s,x],argTypes:=#[37,37] }) (F:Nat) (v vx:Value) (t u:Bs) (hs:a.eval s=v) (hx:a.eval x=vx)
    (h1:OwnT w F v t) (h2:TxtR w vx u) (hl:t.length+u.length≤140737488355328) (hF:F≤w.heap.size) {g:Nat} {T:TypeId} {cs:Array Value} (hK:Blk w g T cs) (hT:U8≠T)
    (h:∀ v' w',OwnT w' F v' (t ++ u)→Below F w w'→Blk w' g T cs→K (a.put o.dst v') w') :
    if Region.wanted o (yielded ops a.tmps)=true then Oper.wp Try.prog o a w K Q else E:=by
 obtain ⟨i0,hi0,hz0,hz1,hz2⟩:=info_parts u8_info
 obtain ⟨V,cv,rfl,h1⟩:=h1
 obtain ⟨A,c,B,rfl,h2⟩:=h2
 refine step_append_any w hgd s x 37 ho F U8 i0 (.int .u8 0) 1 1 us_info hi0 hz0 hz1 hz2 rfl (by decide) _ _ _ hs h1 B A u.length c (u.map (Value.int .u8)) hx h2 (cells_u8 u) (by simp only [maxLen];omega) (by omega) hF ?_
 intro v7 w7 hown hg hat
 obtain ⟨V7,c7,rfl⟩:=own_form2 hown
 refine h _ _ ⟨V7,c7,by rw [List.length_append],?_⟩ (below_grown h1 hg hF) (hK.grown hg fun e1=>own_blk_ne h1 hK hT e1.symm)
 rw [List.length_append,List.map_append]
 exact hown
structure Sht (s:SV):Prop where
 C:s.cs.length≤1000
 J:s.js.length≤1000
 P:s.ps.length≤1000
 K:s.ks.length≤1000
 D:s.dn.length≤1000
 S:s.sh.length≤1000
 U:s.cu.length≤1000
 A:∀ j ∈ s.js,j.q.af.length≤1000
theorem flat_push {α:Type} {enc:α→Bs} {l:List α} {j:Nat} {x:α} {T P E:Bs} (hP:T ++ (l.take j).flatMap enc=P) (hg:l[j]? = some x) (hE:E=P ++ enc x):E=T ++ (l.take (j+1)).flatMap enc:=by
 subst hP hE
 rw [take_snoc hg]
 simp [List.append_assoc]
theorem flat_short {α:Type} {enc:α→Bs} {n:Nat} (h:∀ x,(enc x).length≤n) {T P:Bs} {l:List α} {j:Nat} (hj:j≤1000) (hP:T ++ (l.take j).flatMap enc=P):P.length≤T.length+1000*n:=by
 subst hP
 have h1:=flat_len h (l.take j)
 have h2:(l.take j).length≤1000:=by rw [List.length_take];omega
 have:=Nat.mul_le_mul_right n h2
 rw [List.length_append]
 omega
theorem all4 {a b c d:Int} (h1:W64 a) (h2:W64 b) (h3:W64 c) (h4:W64 d):∀ n ∈ [a,b,c,d],(Lit.int .i64 n).wf=true:=by
 simp only [List.forall_mem_cons];exact ⟨h1,h2,h3,h4,fun n hn=>by cases hn⟩
theorem all2 {a b:Int} (h1:W64 a) (h2:W64 b):∀ n ∈ [a,b],(Lit.int .i64 n).wf=true:=by
 simp only [List.forall_mem_cons];exact ⟨h1,h2,fun n hn=>by cases hn⟩
theorem all8 {a b c d e f g h:Int} (h1:W64 a) (h2:W64 b) (h3:W64 c) (h4:W64 d) (h5:W64 e) (h6:W64 f) (h7:W64 g) (h8:W64 h):∀ n ∈ [a,b,c,d,e,f,g,h],(Lit.int .i64 n).wf=true:=by
 simp only [List.forall_mem_cons];exact ⟨h1,h2,h3,h4,h5,h6,h7,h8,fun n hn=>by cases hn⟩
theorem all7 {P:Int→Prop} {a b c d e f g:Int} (h1:P a) (h2:P b) (h3:P c) (h4:P d) (h5:P e) (h6:P f) (h7:P g):∀ n ∈ [a,b,c,d,e,f,g],P n:=by
 simp only [List.forall_mem_cons];exact ⟨h1,h2,h3,h4,h5,h6,h7,fun n hn=>by cases hn⟩
theorem len64 {n:Nat} (h:n≤1000):W64 (n:Int):=by
 show (Lit.int .i64 (n:Int)).wf=true
 simp only [Lit.wf,IntKind.min,IntKind.max,IntKind.signed,IntKind.bits];simp;omega
theorem rwaskedV (x:JV) (Y:Option Addr) (cy:Nat) (hx:JWf x) (hl:x.q.af.length≤1000) (hc:x.q.af.length≤cy) (w:World) (hY:IntsAt w Y x.q.af) :
    Calls Try.prog 117 #[.agg (jL x Y cy).toArray] w fun e w' => WR (askE x.q) w e w':=by
 have e:askE x.q=askB (cvOf x):=by
  unfold askE listE
  rw [if_pos hl]
  simp [askB,cvOf,wantsE,numsB,List.append_assoc]
 rw [e]
 exact rwasked (cvOf x) x.id x.st x.ca Y cy (all7 hx.2.1.1 hx.2.1.2.1 hx.2.1.2.2.1 hx.2.1.2.2.2.1 hx.2.1.2.2.2.2.1 hx.2.1.2.2.2.2.2.1 hx.2.1.2.2.2.2.2.2.1) hx.2.1.2.2.2.2.2.2.2 (by show x.q.af.length≤10000;omega) hc w hY
end Go.Proofs.Ytfdldbfjeamlcaa.RwState0
namespace Go.Proofs.Ytfdldbfjeamlcaa.RwShort
set_option maxRecDepth 100000
set_option maxHeartbeats 4000000
open Go.Sort (grow)
open Go.RowKit Mem RecMem RecByte RecNum RecEach RecMath RecCommand RecCmdJ RecWr0 RecVal RecCod RecCods RecSame RecOwn RecRecC RecWAt RecWOk RecSameA RecAll RecGuard RecF1 RecF2 RecF3 RecRL0 RwNum RwState0 RecWrite0 
structure ShR (r:RV):Prop where
 F:r.c.af.length≤1000
 S:Sht r.s
def shB (r:RV):Bool:=(decide (r.c.af.length≤1000) && (decide (r.s.cs.length≤1000) && (decide (r.s.js.length≤1000) && (decide (r.s.ps.length≤1000) && (decide (r.s.ks.length≤1000) && (decide (r.s.dn.length≤1000) && (decide (r.s.sh.length≤1000) && (decide (r.s.cu.length≤1000) && r.s.js.all fun j=>decide (j.q.af.length≤1000)))))))))
theorem shB_iff {r:RV} : shB r=true↔ShR r:=by
 unfold shB
 simp only [Bool.and_eq_true,decide_eq_true_eq,List.all_eq_true]
 exact ⟨fun ⟨h1,h2,h3,h4,h5,h6,h7,h8,h9⟩=>⟨h1,⟨h2,h3,h4,h5,h6,h7,h8,h9⟩⟩,fun ⟨h1,⟨h2,h3,h4,h5,h6,h7,h8,h9⟩⟩=>⟨h1,h2,h3,h4,h5,h6,h7,h8,h9⟩⟩
theorem shB_false {r:RV} (h:ShR r→False):shB r=false:=by
 rcases hb:shB r with _ | _
 ·rfl
 ·exact (h (shB_iff.1 hb)).elim
theorem rwshort (r:RV) (x:SA) (Y:Option Addr) (cy:Nat) (F:RFacts r) (w:World) (h:RIs w r x Y cy) :
    Calls Try.prog 78 #[.agg (rL r x Y cy).toArray] w fun e w' => e = .returned (.bool (shB r))∧Below w.heap.size w w':=by
 have HI:=Lib.hid h.st
 have HT:=Lib.hid F.ht
 clear h F
 go_enter Try.func78,Try.ntmps78
 go_upto_region 1 with fail
 have KA:=Lib.hid (Blk.new w 51 (rL r x Y cy).toArray)
 have HB:=Lib.hid (below_alloc (o:=.cells (rL r x Y cy).toArray 51) (Below.refl w.heap.size w))
 generalize w.alloc (.cells (rL r x Y cy).toArray 51)=W0 at *
 have R1:=Lib.hid (show W0.rangeAt w.heap.size 1 (sL r.s x) from range_part (n:=16) KA.out rfl)
 have x1:=box_full (W:=W0) 49 Sq.zzS (vs:=(sL r.s x)) rfl
 go_upto_region 2 with (first | (refine wpList_load_mid rfl 49 _ rfl _ _ rfl _ _ R1.out Try.underlying49 rfl (by kernel_rfl) ?_) | (refine wpList_store_mid rfl 49 _ _ rfl W0.heap.size 0 (List.toArray (sL r.s x)) rfl rfl (there_of (Blk.new W0 49 Sq.zzS) (Nat.le_of_ble_eq_true rfl)) (by kernel_rfl) (by kernel_rfl) ?_;simp only [List.toList_toArray];generalize World.setCells _ _ _ _=W1 at *;(try simp only [Act.put])))
 have HB2:=Lib.hid (below_up HB.out x1.2)
 have KA2:=Lib.hid (KA.out.below x1.2 KA.out.lt)
 obtain ⟨g3,hg3⟩:∃ n,n=W0.heap.size:=⟨_,rfl⟩
 rw [← hg3] at x1
 rw [← hg3]
 have K3:=Lib.hid x1.1
 clear x1 R1 KA HB hg3
 have c31:W1.cell? ⟨w.heap.size,31,none⟩=some (.slice Y r.c.af.length cy):=KA2.out.cell 31
 have m7:W1.cell? ⟨g3,7,none⟩=some (.slice x.C r.s.cs.length x.cc):=K3.out.cell 7
 have m10:W1.cell? ⟨g3,10,none⟩=some (.slice x.J r.s.js.length x.cj):=K3.out.cell 10
 have m11:W1.cell? ⟨g3,11,none⟩=some (.slice x.P r.s.ps.length x.cp):=K3.out.cell 11
 have m12:W1.cell? ⟨g3,12,none⟩=some (.slice x.K r.s.ks.length x.ck):=K3.out.cell 12
 have m13:W1.cell? ⟨g3,13,none⟩=some (.slice x.D r.s.dn.length x.cd):=K3.out.cell 13
 have m14:W1.cell? ⟨g3,14,none⟩=some (.slice x.S r.s.sh.length x.cs):=K3.out.cell 14
 have m15:W1.cell? ⟨g3,15,none⟩=some (.slice x.U r.s.cu.length x.cu):=K3.out.cell 15
 have HI1:=Lib.hid (HI.out.up HB2.out)
 by_cases h0:1000 < (r.c.af.length:Int)
 ·have EV:=Lib.hid (shB_false (r:=r) fun h=>by have:=h.F;omega)
  go_wp2_with fail
  go_ret
  rw [EV.out]
  exact ⟨rfl,HB2.out⟩
 ·by_cases h1:1000 < (r.s.cs.length:Int)
  ·have EV:=Lib.hid (shB_false (r:=r) fun h=>by have:=h.S.C;omega)
   go_wp2_with fail
   go_ret
   rw [EV.out]
   exact ⟨rfl,HB2.out⟩
  ·by_cases h2:1000 < (r.s.js.length:Int)
   ·have EV:=Lib.hid (shB_false (r:=r) fun h=>by have:=h.S.J;omega)
    go_wp2_with fail
    go_ret
    rw [EV.out]
    exact ⟨rfl,HB2.out⟩
   ·by_cases h3:1000 < (r.s.ps.length:Int)
    ·have EV:=Lib.hid (shB_false (r:=r) fun h=>by have:=h.S.P;omega)
     go_wp2_with fail
     go_ret
     rw [EV.out]
     exact ⟨rfl,HB2.out⟩
    ·by_cases h4:1000 < (r.s.ks.length:Int)
     ·have EV:=Lib.hid (shB_false (r:=r) fun h=>by have:=h.S.K;omega)
      go_wp2_with fail
      go_ret
      rw [EV.out]
      exact ⟨rfl,HB2.out⟩
     ·by_cases h5:1000 < (r.s.dn.length:Int)
      ·have EV:=Lib.hid (shB_false (r:=r) fun h=>by have:=h.S.D;omega)
       go_wp2_with fail
       go_ret
       rw [EV.out]
       exact ⟨rfl,HB2.out⟩
      ·by_cases h6:1000 < (r.s.sh.length:Int)
       ·have EV:=Lib.hid (shB_false (r:=r) fun h=>by have:=h.S.S;omega)
        go_wp2_with fail
        go_ret
        rw [EV.out]
        exact ⟨rfl,HB2.out⟩
       ·by_cases h7:1000 < (r.s.cu.length:Int)
        ·have EV:=Lib.hid (shB_false (r:=r) fun h=>by have:=h.S.U;omega)
         go_wp2_with fail
         go_ret
         rw [EV.out]
         exact ⟨rfl,HB2.out⟩
        ·have HL:=Lib.hid (show ∀ h9:(∀ j ∈ r.s.js,j.q.af.length≤1000),shB r=true from fun h9=>shB_iff.2 ⟨by omega,⟨by omega,by omega,by omega,by omega,by omega,by omega,by omega,h9⟩⟩)
         go_wp2_with fail
         clear c31 m7 m11 m12 m13 m14 m15 KA2 m10 h0 h1 h3 h4 h5 h6 h7
         have hub:r.s.js.length≤9223372036854775807:=HT.out.J
         go_loopw [4] (fun i wr=>∃ (k:Nat),k≤r.s.js.length∧i = .int .i64 k∧Hid (∀ (m:Nat) (j:JV),m < k→r.s.js[m]? = some j→j.q.af.length≤1000)∧Hid (Below W1.heap.size W1 wr))
          (fun i _=>r.s.js.length - (intOf i).toNat)
         case atStart=>exact ⟨0,Nat.zero_le _,rfl,(fun m j h=>by omega),Below.refl _ _⟩
         case round =>
          obtain ⟨k,hk,rfl,hP,hB⟩:=hrel
          have m10:wr.cell? ⟨g3,10,none⟩=some (.slice x.J r.s.js.length x.cj):=(K3.out.below hB.out K3.out.lt).cell 10
          have HF:=Lib.hid (below_up HB2.out hB.out)
          by_cases hlt:k < r.s.js.length
          ·have hki:(k:Int) < (r.s.js.length:Int):=by omega
           have hki0:(0:Int)≤(k:Int):=by omega
           have hg:r.s.js[k]? = some r.s.js[k]:=List.getElem?_eq_getElem hlt
           generalize r.s.js[k]=v at hg
           obtain ⟨b,o,cs,e91,hb,_,r1,Yv,cv,rfl,_,_⟩:=SlcAt.up jStays HI1.out.J hB.out k v hg
           rw [e91] at m10
           have c13:=r1 13 _ rfl
           have HG:=Lib.hid hg
           have hvl:v.q.af.length≤9223372036854775807:=HT.out.A v (List.mem_of_getElem? hg)
           clear hg e91 r1
           by_cases hv:1000 < (v.q.af.length:Int)
           ·have EV:=Lib.hid (shB_false (r:=r) fun h=>by have:=h.S.A v (List.mem_of_getElem? HG.out);omega)
            go_wp2_with fail
            go_ret
            rw [EV.out]
            exact ⟨rfl,HF.out⟩
           ·have HV:=Lib.hid (show v.q.af.length≤1000 by omega)
            go_wp2_with fail
            go_roundw
            case rel=>exact ⟨k+1,by omega,by go_num,(fun m j hm hj=>by
             rcases Nat.lt_or_ge m k with h | h
             ·exact hP.out m j h hj
             ·obtain rfl:m=k:=by omega
              rw [HG.out] at hj;cases hj;exact HV.out),hB.out⟩
            case measure=>simp [intOf];omega
          ·have hki:¬ (k:Int) < (r.s.js.length:Int):=by omega
           have EV:=Lib.hid (HL.out fun j hj=>by
            obtain ⟨m,hm⟩:=List.getElem?_of_mem hj
            exact hP.out m j (by have:=(List.getElem?_eq_some_iff.1 hm).1;omega) hm)
           go_wp2_with fail
           go_ret
           rw [EV.out]
           exact ⟨rfl,HF.out⟩
end Go.Proofs.Ytfdldbfjeamlcaa.RwShort
namespace Go.Proofs.Ytfdldbfjeamlcaa.RwMay0
open Go.Sort (grow)
open Go.RowKit Mem RecMem RecByte RecNum RecEach RecMath RecCommand RecCmdJ RecWr0 RecVal RecCod RecCods RecSame RecOwn RecRecC RecWAt RecWOk RecSameA RecAll RecGuard RecF1 RecF2 RecF3 RecRL0 RwNum RwState0 RecWrite0 RwShort
theorem wpList_load_midG {P:Program} {ops:Array Oper} {rest:List Oper} {op:Oper} {a:Act} {w:World} {Q:Exit→Act→World→Prop} (hgd:Region.wanted op (yielded ops a.tmps)=true) (ty:TypeId) (x:Operand) (ho:op.op = .load ty x)
    (b o:Nat) (hx:a.eval x = .pointer (some ⟨b,o,none⟩)) (cs:List Value) (d:TypeDesc) (hc:w.rangeAt b o cs)
    (hu:P.underlying ty=some d) (hd:d.isRow=true) (hi:(P.info? ty).map (·.size)=some cs.length)
    (h:wpList P ops Q rest (a.put op.dst (.agg cs.toArray)) w):wpList P ops Q (op :: rest) a w:=
 wpList_step fun _ hK=>by simp only [hgd,if_true];exact wp_load_mid ty x ho b o hx cs d hc hu hd hi (hK _ _ h)
theorem may_state {r:RV} (F:RFacts r) (h0:0 < r.g) (h1:r.g≤2147483647) (hs:ShR r):okR r↔r.c=CV.z:=by
 constructor
 ·intro h
  exact (h.2.2 (by omega)).1
 ·intro h
  have hO:stateO r.s=true:=by
   unfold stateO listO yes jobO askO listO yes
   simp only [Bool.and_eq_true,decide_eq_true_eq,List.all_eq_true]
   refine ⟨⟨⟨⟨⟨⟨⟨hs.S.C,fun _ _=>trivial⟩,⟨hs.S.J,fun j hj=>⟨hs.S.A j hj,fun _ _=>trivial⟩⟩⟩,⟨hs.S.P,fun _ _=>trivial⟩⟩,⟨hs.S.K,fun _ _=>trivial⟩⟩,⟨hs.S.D,fun _ _=>trivial⟩⟩,⟨hs.S.S,fun _ _=>trivial⟩⟩,⟨hs.S.U,fun _ _=>trivial⟩⟩
  exact ⟨⟨by omega,h1⟩,fun e=>by omega,fun _=>⟨h,(state_ok F.hs).1 hO⟩⟩
theorem may_cmd {r:RV} (F:RFacts r) (h0:r.g=0) (hs:ShR r):okR r↔(1≤r.c.kd∧r.c.kd≤15)∧r.c=own r.c∧r.s=SV.z:=by
 have hk:mayK r.c.kd=true↔1≤r.c.kd∧r.c.kd≤15:=by
  rw [mayK_iff]
  unfold isJob isId isKeep isWell isN
  omega
 constructor
 ·intro h
  obtain ⟨⟨h1,h2,_,_⟩,h4⟩:=h.2.1 h0
  exact ⟨hk.1 h1,h2.symm,h4⟩
 ·rintro ⟨h1,h2,h3⟩
  exact ⟨⟨by omega,by omega⟩,fun _=>⟨⟨hk.2 h1,h2.symm,F.hc,hs.F⟩,h3⟩,fun e=>absurd h0 e⟩
theorem may_short {r:RV} (h:okR r):ShR r:=by
 obtain ⟨_,h0,h1⟩:=h
 obtain ⟨g,s,c⟩:=r
 by_cases e:g=0
 ·obtain ⟨⟨_,_,_,hl⟩,hs⟩:=h0 e
  simp only at hs
  subst hs
  exact ⟨hl,⟨Nat.zero_le _,Nat.zero_le _,Nat.zero_le _,Nat.zero_le _,Nat.zero_le _,Nat.zero_le _,Nat.zero_le _,fun j hj=>by cases hj⟩⟩
 ·obtain ⟨hc,hs⟩:=h1 e
  simp only at hc
  subst hc
  obtain ⟨_,b1,b2,b3,b4,b5,b6,b7,b8⟩:=state_wf hs
  exact ⟨Nat.zero_le _,⟨b1,b2,b3,b4,b5,b6,b7,b8⟩⟩
theorem below_drew1 (w:World):Below w.heap.size w w.drew:=(Below.refl _ w).drew
def MayE (r:RV) (e:Ending):Prop:=∃ B,e = .returned (.bool B)∧(B=true↔okR r)
theorem mayE_no {r:RV} (h:¬ okR r):MayE r (.returned (.bool false)):=⟨_,rfl,⟨fun e=>(by cases e),fun e=>absurd e h⟩⟩
end Go.Proofs.Ytfdldbfjeamlcaa.RwMay0
namespace Go.Proofs.Ytfdldbfjeamlcaa.RwState
set_option maxRecDepth 100000
set_option maxHeartbeats 4000000
open Go.Sort Go.RowKit Mem RecMem RecByte RecNum RecEach RecMath RecCod RecCods RecPort RecCommand RecCmdJ RecVal RecSame RecOwn RecRd RecRByte RecRNum RecREach RecRFlat RecRClass RecRL0 RecRListI RwNum RwNums RwList RwBox RwWants RwAsk RwCmdI RecEqJ RecWAt RwState0
theorem rwstate (s:SV) (x0:SA) (hw:SWf s) (hl:Sht s) (w:World) (hX:StAt w s x0) :
    Calls Try.prog 81 #[.agg (sL s x0).toArray] w fun e w' => WR (stateE s) w e w':=by
 have HW:=Lib.hid hw
 have HL:=Lib.hid hl
 have HN:=Lib.hid (rwnumsB [s.d0,s.d1,s.d2,s.bo,s.fr,s.tr,s.ag,(s.cs.length:Int)] (all8 HW.out.1.1 HW.out.1.2.1 HW.out.1.2.2.1 HW.out.1.2.2.2.1 HW.out.1.2.2.2.2.1 HW.out.1.2.2.2.2.2.1 HW.out.1.2.2.2.2.2.2.1 (len64 HL.out.C)) (by simp) 8 rfl #[.int .i64 s.d0,.int .i64 s.d1,.int .i64 s.d2,.int .i64 s.bo,.int .i64 s.fr,.int .i64 s.tr,.int .i64 s.ag,.int .i64 (s.cs.length:Int)] rfl)
 clear hw hl
 go_enter Try.func81,Try.ntmps81
 go_upto_region 1 with fail
 have KA:=Lib.hid (Blk.new w 49 (sL s x0).toArray)
 have HB:=Lib.hid (below_alloc (o:=.cells (sL s x0).toArray 49) (Below.refl w.heap.size w))
 generalize w.alloc (.cells (sL s x0).toArray 49)=W at *
 have R1:=Lib.hid (show W.rangeAt w.heap.size 0 [.int .i64 s.d0,.int .i64 s.d1,.int .i64 s.d2,.int .i64 s.bo,.int .i64 s.fr,.int .i64 s.tr,.int .i64 s.ag,.slice x0.C s.cs.length x0.cc] from range_part (n:=8) KA.out rfl)
 have x1:=box_full (W:=W) 44 Sq.zzG (vs:=[.int .i64 s.d0,.int .i64 s.d1,.int .i64 s.d2,.int .i64 s.bo,.int .i64 s.fr,.int .i64 s.tr,.int .i64 s.ag,.slice x0.C s.cs.length x0.cc]) rfl
 go_upto_region 2 with (first | (refine wpList_load_mid rfl 44 _ rfl _ _ rfl _ _ R1.out Try.underlying44 rfl (by kernel_rfl) ?_) | (refine wpList_store_mid rfl 44 _ _ rfl W.heap.size 0 (List.toArray [.int .i64 s.d0,.int .i64 s.d1,.int .i64 s.d2,.int .i64 s.bo,.int .i64 s.fr,.int .i64 s.tr,.int .i64 s.ag,.slice x0.C s.cs.length x0.cc]) rfl rfl (there_of (Blk.new W 44 Sq.zzG) (Nat.le_of_ble_eq_true rfl)) (by kernel_rfl) (by kernel_rfl) ?_;simp only [List.toList_toArray];generalize World.setCells _ _ _ _=W0 at *;(try simp only [Act.put])))
 have HB0:=Lib.hid (below_up HB.out x1.2)
 have KA:=Lib.hid (KA.out.below x1.2 KA.out.lt)
 have HX0:=Lib.hid (hX.up HB0.out)
 obtain ⟨g1,hg1⟩:∃ n,n=W.heap.size:=⟨_,rfl⟩
 rw [← hg1] at x1
 rw [← hg1]
 have KC:=Lib.hid x1.1
 have hz1:w.heap.size < W0.heap.size:=KA.out.lt
 have hz2:g1 < W0.heap.size:=KC.out.lt
 clear x1 R1 HB hg1 hX
 have c0:W0.cell? ⟨g1,0,none⟩=some (.int .i64 s.d0):=KC.out.cell 0
 have c1:W0.cell? ⟨g1,1,none⟩=some (.int .i64 s.d1):=KC.out.cell 1
 have c2:W0.cell? ⟨g1,2,none⟩=some (.int .i64 s.d2):=KC.out.cell 2
 have c3:W0.cell? ⟨g1,3,none⟩=some (.int .i64 s.bo):=KC.out.cell 3
 have c4:W0.cell? ⟨g1,4,none⟩=some (.int .i64 s.fr):=KC.out.cell 4
 have c5:W0.cell? ⟨g1,5,none⟩=some (.int .i64 s.tr):=KC.out.cell 5
 have c6:W0.cell? ⟨g1,6,none⟩=some (.int .i64 s.ag):=KC.out.cell 6
 have c7:W0.cell? ⟨g1,7,none⟩=some (.slice x0.C s.cs.length x0.cc):=KC.out.cell 7
 go_wp2_with fail
 refine (HN.out _ _ rfl).mono ?_
 intro e y1 h
 obtain ⟨v1,rfl,hO,hB⟩:=h
 have hs1:W0.heap.size≤y1.heap.size:=hB.size
 have hP1:(numsB [s.d0,s.d1,s.d2,s.bo,s.fr,s.tr,s.ag,(s.cs.length:Int)]).length≤100:=by rw [numsB_len];simp
 obtain ⟨P1,hP⟩:∃ P,P=numsB [s.d0,s.d1,s.d2,s.bo,s.fr,s.tr,s.ag,(s.cs.length:Int)]:=⟨_,rfl⟩
 rw [← hP] at hO hP1
 have EP1:=Lib.hid hP
 have HZ1:=Lib.hid (And.intro hO (And.intro hB (KA.out.below hB (by omega))))
 clear hP hO hB HN c0 c1 c2 c3 c4 c5 c6 c7
 go_wp2_with fail
 go_loopw [4,5,6] (fun b i _ wr=>∃ (k:Nat) (v0:Value),k≤s.cs.length∧i = .int .i64 k∧v0=b∧Hid (OwnT wr W0.heap.size v0 (P1 ++ (s.cs.take k).flatMap classE))∧Hid (Below W0.heap.size W0 wr))
  (fun b i _ _=>s.cs.length - (intOf i).toNat)
 case atStart=>exact ⟨0,_,Nat.zero_le _,rfl,rfl,Lib.hid (by rw [List.take_zero,List.flatMap_nil,List.append_nil];exact HZ1.out.1),Lib.hid HZ1.out.2.1⟩
 case round =>
  obtain ⟨k,v21,hk,rfl,rfl,hO,HBr⟩:=hrel
  have hsr:W0.heap.size≤wr.heap.size:=HBr.out.size
  have hk1:k≤1000:=by have:=HL.out.C;omega
  have hlm:s.cs.length≤9223372036854775807:=by have:=HL.out.C;omega
  clear HZ1
  have aL:wr.cell? ⟨g1,7,none⟩=some (.slice x0.C s.cs.length x0.cc):=(KC.out.below HBr.out (by omega)).cell 7
  by_cases hlt:k < s.cs.length
  ·have hg:s.cs[k]? = some s.cs[k]:=List.getElem?_eq_getElem hlt
   have hmem:s.cs[k] ∈ s.cs:=List.getElem_mem hlt
   generalize s.cs[k]=x at hg hmem
   have hki:(k:Int) < (s.cs.length:Int):=by omega
   have hki0:(0:Int)≤(k:Int):=by omega
   obtain ⟨P,hP⟩:∃ P,P1 ++ (s.cs.take k).flatMap classE=P:=⟨_,rfl⟩
   rw [hP] at hO
   have hPl:P.length≤200000000:=by have:=flat_short classE_len hk1 hP;omega
   have HP:=Lib.hid (And.intro hP hg)
   obtain ⟨yb,yo,cs,e,hyF,_,hyc0,hyr⟩:=HX0.out.C k x hg
   have hyc:=range_below hyc0 HBr.out
   obtain rfl:=hyr
   have hwx:=Lib.hid (HW.out.2.1 x hmem)
   skip
   have HR:=Lib.hid hyc
   have hx:=box_full (W:=wr) 154 #[.int .i64 0,.int .i64 0,.int .i64 0,.int .i64 0] (vs:=(kL x)) rfl
   clear hP hg hyc hyF hmem hyc0
   rw [e] at aL
   clear e
   go_upto_region 7 with (first | (refine wpList_load_mid rfl 154 _ rfl _ _ rfl _ _ HR.out Try.underlying154 rfl (by kernel_rfl) ?_) | (refine wpList_store_mid rfl 154 _ _ rfl wr.heap.size 0 (List.toArray (kL x)) rfl rfl (there_of (Blk.new _ 154 #[.int .i64 0,.int .i64 0,.int .i64 0,.int .i64 0]) (Nat.le_of_ble_eq_true rfl)) (by kernel_rfl) (by kernel_rfl) ?_;simp only [List.toList_toArray];generalize World.setCells _ _ _ _=w21 at *;(try simp only [Act.put])))
   have H21:=Lib.hid (And.intro (OwnT.up hO.out hx.2) (And.intro (HBr.out.trans (hx.2.mono hsr)) hx.1))
   obtain ⟨g,hgq⟩:∃ n,n=wr.heap.size:=⟨_,rfl⟩
   rw [← hgq] at H21
   rw [← hgq]
   clear hx hO HBr HR hgq aL
   have hs21:W0.heap.size≤w21.heap.size:=H21.out.2.1.size
   have HN:=Lib.hid (rwnumsB [x.pr,x.wa,x.no,x.ea] (all4 hwx.out.1 hwx.out.2.1 hwx.out.2.2.1 hwx.out.2.2.2) (by simp) 4 rfl (kL x).toArray rfl)
   have c0:w21.cell? ⟨g,0,none⟩=some (.int .i64 x.pr):=H21.out.2.2.cell 0
   have c1:w21.cell? ⟨g,1,none⟩=some (.int .i64 x.wa):=H21.out.2.2.cell 1
   have c2:w21.cell? ⟨g,2,none⟩=some (.int .i64 x.no):=H21.out.2.2.cell 2
   have c3:w21.cell? ⟨g,3,none⟩=some (.int .i64 x.ea):=H21.out.2.2.cell 3
   go_wp2_with (fail)
   refine (HN.out _ _ rfl).mono ?_
   intro e y21 h
   obtain ⟨x21,rfl,hO,hB⟩:=h
   have G21:=Lib.hid (And.intro (H21.out.1.up hB) (And.intro hO (And.intro (H21.out.2.1.trans (hB.mono hs21)) (H21.out.2.2.below hB H21.out.2.2.lt))))
   have hg21:W0.heap.size≤y21.heap.size:=G21.out.2.2.1.size
   clear hO hB H21 c0 c1 c2 c3
   have hl21:(P).length+(numsB [x.pr,x.wa,x.no,x.ea]).length≤140737488355328:=by simp only [List.length_append,numsB_len,nB_len,List.length_cons,List.length_nil];omega
   go_wp2_with (first | (at_builtin;refine wpList_catK rfl (.tmp 49) (.tmp 59) rfl W0.heap.size v21 x21 (P) (numsB [x.pr,x.wa,x.no,x.ea]) rfl rfl G21.out.1 G21.out.2.1.txt hl21 hg21 G21.out.2.2.2 (by decide) ?_;intro v22 w22 hO hB hK;have H22:=Lib.hid (And.intro hO (And.intro (Below.trans G21.out.2.2.1 hB) hK));have hs22:W0.heap.size≤w22.heap.size:=H22.out.2.1.size;clear hO hB hK))
   have et:P ++ (numsB [x.pr,x.wa,x.no,x.ea])=P ++ classE x:=by simp [classE,numsB,List.append_assoc]
   have hO:=H22.out.1
   rw [et,flat_push HP.out.1 HP.out.2 rfl] at hO
   exact ⟨⟨k+1,_,by omega,rfl,rfl,Lib.hid hO,Lib.hid H22.out.2.1⟩,by simp [intOf];omega⟩
  ·obtain rfl:k=s.cs.length:=by omega
   rw [List.take_length] at hO
   obtain ⟨Q1,hQ⟩:∃ P,P=P1 ++ s.cs.flatMap classE:=⟨_,rfl⟩
   rw [← hQ] at hO
   have hQ1:Q1.length≤1000000:=by subst hQ;rw [List.length_append];have:=flat_len classE_len s.cs;have:=Nat.mul_le_mul_right 32 HL.out.C;omega
   have EQ1:=Lib.hid hQ
   have H31:=Lib.hid (And.intro hO.out (And.intro HBr.out (KA.out.below HBr.out (by omega))))
   have hs31:W0.heap.size≤wr.heap.size:=hsr
   clear hQ hO hlt
   have HN:=Lib.hid (rwnumsB [s.nw,s.nx,(s.js.length:Int)] (all3 HW.out.1.2.2.2.2.2.2.2.1 HW.out.1.2.2.2.2.2.2.2.2 (len64 HL.out.J)) (by simp) 3 rfl #[.int .i64 s.nw,.int .i64 s.nx,.int .i64 (s.js.length:Int)] rfl)
   have c8:wr.cell? ⟨w.heap.size,8,none⟩=some (.int .i64 s.nw):=H31.out.2.2.cell 8
   have c9:wr.cell? ⟨w.heap.size,9,none⟩=some (.int .i64 s.nx):=H31.out.2.2.cell 9
   have c10:wr.cell? ⟨w.heap.size,10,none⟩=some (.slice x0.J s.js.length x0.cj):=H31.out.2.2.cell 10
   go_wp2_with (fail)
   refine (HN.out _ _ rfl).mono ?_
   intro e y31 h
   obtain ⟨x31,rfl,hO,hB⟩:=h
   have G31:=Lib.hid (And.intro (H31.out.1.up hB) (And.intro hO (And.intro (H31.out.2.1.trans (hB.mono hs31)) (H31.out.2.2.below hB H31.out.2.2.lt))))
   have hg31:W0.heap.size≤y31.heap.size:=G31.out.2.2.1.size
   clear hO hB H31 c8 c9 c10 HN
   have hl31:(Q1).length+(numsB [s.nw,s.nx,(s.js.length:Int)]).length≤140737488355328:=by simp only [List.length_append,numsB_len,nB_len,List.length_cons,List.length_nil];omega
   go_wp2_with (first | (at_builtin;refine wpList_catK rfl (.tmp 61) (.tmp 70) rfl W0.heap.size v21 x31 (Q1) (numsB [s.nw,s.nx,(s.js.length:Int)]) rfl rfl G31.out.1 G31.out.2.1.txt hl31 hg31 G31.out.2.2.2 (by decide) ?_;intro v32 w32 hO hB hK;have H32:=Lib.hid (And.intro hO (And.intro (Below.trans G31.out.2.2.1 hB) hK));have hs32:W0.heap.size≤w32.heap.size:=H32.out.2.1.size;clear hO hB hK))
   obtain ⟨P2,hP⟩:∃ P,P=Q1 ++ (numsB [s.nw,s.nx,(s.js.length:Int)]):=⟨_,rfl⟩
   have hP2:P2.length≤1100000:=by subst hP;simp only [List.length_append,numsB_len,nB_len,List.length_cons,List.length_nil];omega
   have HO32:=H32.out.1
   rw [← hP] at HO32
   have EP2:=Lib.hid hP
   have HZ32:=Lib.hid (And.intro HO32 H32.out.2)
   clear hP HO32 H32
   go_wp2_with fail
   go_loopw [4,7,8] (fun b i _ wr=>∃ (k:Nat) (v0:Value),k≤s.js.length∧i = .int .i64 k∧v0=b∧Hid (OwnT wr W0.heap.size v0 (P2 ++ (s.js.take k).flatMap jobE))∧Hid (Below W0.heap.size W0 wr))
    (fun b i _ _=>s.js.length - (intOf i).toNat)
   case atStart=>exact ⟨0,_,Nat.zero_le _,rfl,rfl,Lib.hid (by rw [List.take_zero,List.flatMap_nil,List.append_nil];exact HZ32.out.1),Lib.hid HZ32.out.2.1⟩
   case round =>
    obtain ⟨k,v41,hk,rfl,rfl,hO,HBr⟩:=hrel
    have hsr:W0.heap.size≤wr.heap.size:=HBr.out.size
    have hk1:k≤1000:=by have:=HL.out.J;omega
    have hlm:s.js.length≤9223372036854775807:=by have:=HL.out.J;omega
    clear HZ32
    have aL:wr.cell? ⟨w.heap.size,10,none⟩=some (.slice x0.J s.js.length x0.cj):=(KA.out.below HBr.out (by omega)).cell 10
    by_cases hlt:k < s.js.length
    ·have hg:s.js[k]? = some s.js[k]:=List.getElem?_eq_getElem hlt
     have hmem:s.js[k] ∈ s.js:=List.getElem_mem hlt
     generalize s.js[k]=x at hg hmem
     have hki:(k:Int) < (s.js.length:Int):=by omega
     have hki0:(0:Int)≤(k:Int):=by omega
     obtain ⟨P,hP⟩:∃ P,P2 ++ (s.js.take k).flatMap jobE=P:=⟨_,rfl⟩
     rw [hP] at hO
     have hPl:P.length≤200000000:=by have:=flat_short jobE_len hk1 hP;omega
     have HP:=Lib.hid (And.intro hP hg)
     obtain ⟨yb,yo,cs,e,hyF,_,hyc0,hyr⟩:=HX0.out.J k x hg
     have hyc:=range_below hyc0 HBr.out
     obtain ⟨Y,cy,rfl,hcy,hyi⟩:=hyr
     have hwx:=Lib.hid (HW.out.2.2.1 x hmem)
     have HA:=Lib.hid (fun (W:World) (hB:Below W0.heap.size W0 W)=>rwaskedV x Y cy hwx.out (HL.out.A x hmem) hcy W (hyi.up hB))
     clear hyi
     have HR:=Lib.hid hyc
     have hx:=box_full (W:=wr) 28 Sq.zzJ (vs:=(jL x Y cy)) rfl
     clear hP hg hyc hyF hmem hyc0
     rw [e] at aL
     clear e
     go_upto_region 13 with (first | (refine wpList_load_mid rfl 28 _ rfl _ _ rfl _ _ HR.out Try.underlying28 rfl (by kernel_rfl) ?_) | (refine wpList_store_mid rfl 28 _ _ rfl wr.heap.size 0 (List.toArray (jL x Y cy)) rfl rfl (there_of (Blk.new _ 28 Sq.zzJ) (Nat.le_of_ble_eq_true rfl)) (by kernel_rfl) (by kernel_rfl) ?_;simp only [List.toList_toArray];generalize World.setCells _ _ _ _=w41 at *;(try simp only [Act.put])))
     have H41:=Lib.hid (And.intro (OwnT.up hO.out hx.2) (And.intro (HBr.out.trans (hx.2.mono hsr)) hx.1))
     obtain ⟨g,hgq⟩:∃ n,n=wr.heap.size:=⟨_,rfl⟩
     rw [← hgq] at H41
     rw [← hgq]
     clear hx hO HBr HR hgq aL
     have hs41:W0.heap.size≤w41.heap.size:=H41.out.2.1.size
     have HN1:=Lib.hid (rwnum x.id hwx.out.1)
     have HN2:=Lib.hid (rwnum x.ca hwx.out.2.2.2)
     have c0:w41.cell? ⟨g,0,none⟩=some (.int .i64 x.id):=H41.out.2.2.cell 0
     go_wp2_with (fail)
     refine (HN1.out _).mono ?_
     intro e y41 h
     obtain ⟨x41,rfl,hO,hB⟩:=h
     have G41:=Lib.hid (And.intro (H41.out.1.up hB) (And.intro hO (And.intro (H41.out.2.1.trans (hB.mono hs41)) (H41.out.2.2.below hB H41.out.2.2.lt))))
     have hg41:W0.heap.size≤y41.heap.size:=G41.out.2.2.1.size
     clear hO hB H41 c0
     have hl41:(P).length+(nB x.id).length≤140737488355328:=by simp only [List.length_append,numsB_len,nB_len,List.length_cons,List.length_nil];omega
     go_wp2_with (first | (at_builtin;refine wpList_catK rfl (.tmp 84) (.tmp 87) rfl W0.heap.size v41 x41 (P) (nB x.id) rfl rfl G41.out.1 G41.out.2.1.txt hl41 hg41 G41.out.2.2.2 (by decide) ?_;intro v42 w42 hO hB hK;have H42:=Lib.hid (And.intro hO (And.intro (Below.trans G41.out.2.2.1 hB) hK));have hs42:W0.heap.size≤w42.heap.size:=H42.out.2.1.size;clear hO hB hK;have R0:=Lib.hid (show w42.rangeAt g 0 (jL x Y cy) from range_part (n:=16) H42.out.2.2 rfl)) | (refine wpList_load_mid rfl 28 _ rfl _ _ rfl _ _ R0.out Try.underlying28 rfl (by kernel_rfl) ?_))
     refine (HA.out _ H42.out.2.1).mono ?_
     intro e y42 h
     obtain ⟨x42,rfl,hO,hB⟩:=h
     have G42:=Lib.hid (And.intro (H42.out.1.up hB) (And.intro hO (And.intro (H42.out.2.1.trans (hB.mono hs42)) (H42.out.2.2.below hB H42.out.2.2.lt))))
     have hg42:W0.heap.size≤y42.heap.size:=G42.out.2.2.1.size
     clear hO hB H42 R0
     have hal9:=askE_len x.q
     have hl42:(P ++ (nB x.id)).length+(askE x.q).length≤140737488355328:=by simp only [List.length_append,numsB_len,nB_len,List.length_cons,List.length_nil];omega
     go_upto_region 15 with (first | (at_builtin;refine wpList_catK rfl (.tmp 89) (.tmp 91) rfl W0.heap.size v42 x42 (P ++ (nB x.id)) (askE x.q) rfl rfl G42.out.1 G42.out.2.1.txt hl42 hg42 G42.out.2.2.2 (by decide) ?_;intro v43 w43 hO hB hK;have H43:=Lib.hid (And.intro hO (And.intro (Below.trans G42.out.2.2.1 hB) hK));have hs43:W0.heap.size≤w43.heap.size:=H43.out.2.1.size;clear hO hB hK;have c14:w43.cell? ⟨g,14,none⟩=some (.int .u8 x.st):=H43.out.2.2.cell 14))
     have hl43:(P ++ (nB x.id) ++ (askE x.q)).length+([x.st]).length≤140737488355328:=by simp only [List.length_append,numsB_len,nB_len,List.length_cons,List.length_nil];omega
     have hg43:W0.heap.size≤(w43.alloc (.cells #[.int .u8 x.st] 5)).heap.size:=by simp;omega
     go_wp2_with (first | (at_builtin;refine wpList_catK rfl (.tmp 93) (.tmp 96) rfl W0.heap.size v43 _ (P ++ (nB x.id) ++ (askE x.q)) ([x.st]) rfl rfl (OwnT.up H43.out.1 (below_alloc (Below.refl _ w43))) (TxtR.box w43 [x.st] 1 rfl) hl43 hg43 (H43.out.2.2.alloc _) (by decide) ?_;intro v44 w44 hO hB hK;have H44:=Lib.hid (And.intro hO (And.intro (Below.trans (below_alloc2 hs43 H43.out.2.1 _) hB) hK));have hs44:W0.heap.size≤w44.heap.size:=H44.out.2.1.size;clear hO hB hK;have c15:w44.cell? ⟨g,15,none⟩=some (.int .i64 x.ca):=H44.out.2.2.cell 15))
     refine (HN2.out _).mono ?_
     intro e y44 h
     obtain ⟨x44,rfl,hO,hB⟩:=h
     have G44:=Lib.hid (And.intro (H44.out.1.up hB) (And.intro hO (And.intro (H44.out.2.1.trans (hB.mono hs44)) (H44.out.2.2.below hB H44.out.2.2.lt))))
     have hg44:W0.heap.size≤y44.heap.size:=G44.out.2.2.1.size
     clear hO hB H44 c15
     have hl44:(P ++ (nB x.id) ++ (askE x.q) ++ ([x.st])).length+(nB x.ca).length≤140737488355328:=by simp only [List.length_append,numsB_len,nB_len,List.length_cons,List.length_nil];omega
     go_wp2_with (first | (at_builtin;refine wpList_catK rfl (.tmp 98) (.tmp 101) rfl W0.heap.size v44 x44 (P ++ (nB x.id) ++ (askE x.q) ++ ([x.st])) (nB x.ca) rfl rfl G44.out.1 G44.out.2.1.txt hl44 hg44 G44.out.2.2.2 (by decide) ?_;intro v45 w45 hO hB hK;have H45:=Lib.hid (And.intro hO (And.intro (Below.trans G44.out.2.2.1 hB) hK));have hs45:W0.heap.size≤w45.heap.size:=H45.out.2.1.size;clear hO hB hK))
     have et:P ++ (nB x.id) ++ (askE x.q) ++ ([x.st]) ++ (nB x.ca)=P ++ jobE x:=by simp [jobE,List.append_assoc]
     have hO:=H45.out.1
     rw [et,flat_push HP.out.1 HP.out.2 rfl] at hO
     exact ⟨⟨k+1,_,by omega,rfl,rfl,Lib.hid hO,Lib.hid H45.out.2.1⟩,by simp [intOf];omega⟩
    ·obtain rfl:k=s.js.length:=by omega
     rw [List.take_length] at hO
     obtain ⟨Q2,hQ⟩:∃ P,P=P2 ++ s.js.flatMap jobE:=⟨_,rfl⟩
     rw [← hQ] at hO
     have hQ2:Q2.length≤12000000:=by subst hQ;rw [List.length_append];have:=flat_len jobE_len s.js;have:=Nat.mul_le_mul_right 10000 HL.out.J;omega
     have EQ2:=Lib.hid hQ
     have H51:=Lib.hid (And.intro hO.out (And.intro HBr.out (KA.out.below HBr.out (by omega))))
     have hs51:W0.heap.size≤wr.heap.size:=hsr
     clear hQ hO hlt
     have HN:=Lib.hid (rwnum (s.ps.length:Int) (len64 HL.out.P))
     have c11:wr.cell? ⟨w.heap.size,11,none⟩=some (.slice x0.P s.ps.length x0.cp):=H51.out.2.2.cell 11
     go_wp2_with (fail)
     refine (HN.out _).mono ?_
     intro e y51 h
     obtain ⟨x51,rfl,hO,hB⟩:=h
     have G51:=Lib.hid (And.intro (H51.out.1.up hB) (And.intro hO (And.intro (H51.out.2.1.trans (hB.mono hs51)) (H51.out.2.2.below hB H51.out.2.2.lt))))
     have hg51:W0.heap.size≤y51.heap.size:=G51.out.2.2.1.size
     clear hO hB H51 c11 HN
     have hl51:(Q2).length+(nB (s.ps.length:Int)).length≤140737488355328:=by simp only [List.length_append,numsB_len,nB_len,List.length_cons,List.length_nil];omega
     go_wp2_with (first | (at_builtin;refine wpList_catK rfl (.tmp 103) (.tmp 107) rfl W0.heap.size v41 x51 (Q2) (nB (s.ps.length:Int)) rfl rfl G51.out.1 G51.out.2.1.txt hl51 hg51 G51.out.2.2.2 (by decide) ?_;intro v52 w52 hO hB hK;have H52:=Lib.hid (And.intro hO (And.intro (Below.trans G51.out.2.2.1 hB) hK));have hs52:W0.heap.size≤w52.heap.size:=H52.out.2.1.size;clear hO hB hK))
     obtain ⟨P3,hP⟩:∃ P,P=Q2 ++ (nB (s.ps.length:Int)):=⟨_,rfl⟩
     have hP3:P3.length≤13000000:=by subst hP;simp only [List.length_append,numsB_len,nB_len,List.length_cons,List.length_nil];omega
     have HO52:=H52.out.1
     rw [← hP] at HO52
     have EP3:=Lib.hid hP
     have HZ52:=Lib.hid (And.intro HO52 H52.out.2)
     clear hP HO52 H52
     go_wp2_with fail
     go_loopw [4,9,10] (fun b i _ wr=>∃ (k:Nat) (v0:Value),k≤s.ps.length∧i = .int .i64 k∧v0=b∧Hid (OwnT wr W0.heap.size v0 (P3 ++ (s.ps.take k).flatMap partE))∧Hid (Below W0.heap.size W0 wr))
      (fun b i _ _=>s.ps.length - (intOf i).toNat)
     case atStart=>exact ⟨0,_,Nat.zero_le _,rfl,rfl,Lib.hid (by rw [List.take_zero,List.flatMap_nil,List.append_nil];exact HZ52.out.1),Lib.hid HZ52.out.2.1⟩
     case round =>
      obtain ⟨k,v61,hk,rfl,rfl,hO,HBr⟩:=hrel
      have hsr:W0.heap.size≤wr.heap.size:=HBr.out.size
      have hk1:k≤1000:=by have:=HL.out.P;omega
      have hlm:s.ps.length≤9223372036854775807:=by have:=HL.out.P;omega
      clear HZ52
      have aL:wr.cell? ⟨w.heap.size,11,none⟩=some (.slice x0.P s.ps.length x0.cp):=(KA.out.below HBr.out (by omega)).cell 11
      by_cases hlt:k < s.ps.length
      ·have hg:s.ps[k]? = some s.ps[k]:=List.getElem?_eq_getElem hlt
       have hmem:s.ps[k] ∈ s.ps:=List.getElem_mem hlt
       generalize s.ps[k]=x at hg hmem
       have hki:(k:Int) < (s.ps.length:Int):=by omega
       have hki0:(0:Int)≤(k:Int):=by omega
       obtain ⟨P,hP⟩:∃ P,P3 ++ (s.ps.take k).flatMap partE=P:=⟨_,rfl⟩
       rw [hP] at hO
       have hPl:P.length≤200000000:=by have:=flat_short partE_len hk1 hP;omega
       have HP:=Lib.hid (And.intro hP hg)
       obtain ⟨yb,yo,cs,e,hyF,_,hyc0,hyr⟩:=HX0.out.P k x hg
       have hyc:=range_below hyc0 HBr.out
       obtain rfl:=hyr
       have hwx:=Lib.hid (HW.out.2.2.2.1 x hmem)
       skip
       have HR:=Lib.hid hyc
       have hx:=box_full (W:=wr) 109 Sq.zzP (vs:=(pL x)) rfl
       clear hP hg hyc hyF hmem hyc0
       rw [e] at aL
       clear e
       go_upto_region 22 with (first | (refine wpList_load_mid rfl 109 _ rfl _ _ rfl _ _ HR.out Try.underlying109 rfl (by kernel_rfl) ?_) | (refine wpList_store_mid rfl 109 _ _ rfl wr.heap.size 0 (List.toArray (pL x)) rfl rfl (there_of (Blk.new _ 109 Sq.zzP) (Nat.le_of_ble_eq_true rfl)) (by kernel_rfl) (by kernel_rfl) ?_;simp only [List.toList_toArray];generalize World.setCells _ _ _ _=w61 at *;(try simp only [Act.put])))
       have H61:=Lib.hid (And.intro (OwnT.up hO.out hx.2) (And.intro (HBr.out.trans (hx.2.mono hsr)) hx.1))
       obtain ⟨g,hgq⟩:∃ n,n=wr.heap.size:=⟨_,rfl⟩
       rw [← hgq] at H61
       rw [← hgq]
       clear hx hO HBr HR hgq aL
       have hs61:W0.heap.size≤w61.heap.size:=H61.out.2.1.size
       have HN1:=Lib.hid (rwnum x.jb hwx.out.1)
       have HN2:=Lib.hid (rwbox x.b0 x.b1 x.b2 x.b3 x.b4 x.b5 (all6 hwx.out.2.1 hwx.out.2.2.1 hwx.out.2.2.2.1 hwx.out.2.2.2.2.1 hwx.out.2.2.2.2.2.1 hwx.out.2.2.2.2.2.2.1))
       have HN3:=Lib.hid (rwnumsB [x.tr,x.si] (all2 hwx.out.2.2.2.2.2.2.2.2.1 hwx.out.2.2.2.2.2.2.2.2.2) (by simp) 2 rfl #[.int .i64 x.tr,.int .i64 x.si] rfl)
       have c0:w61.cell? ⟨g,0,none⟩=some (.int .i64 x.jb):=H61.out.2.2.cell 0
       go_wp2_with (fail)
       refine (HN1.out _).mono ?_
       intro e y61 h
       obtain ⟨x61,rfl,hO,hB⟩:=h
       have G61:=Lib.hid (And.intro (H61.out.1.up hB) (And.intro hO (And.intro (H61.out.2.1.trans (hB.mono hs61)) (H61.out.2.2.below hB H61.out.2.2.lt))))
       have hg61:W0.heap.size≤y61.heap.size:=G61.out.2.2.1.size
       clear hO hB H61 c0
       have hl61:(P).length+(nB x.jb).length≤140737488355328:=by simp only [List.length_append,numsB_len,nB_len,List.length_cons,List.length_nil];omega
       go_wp2_with (first | (at_builtin;refine wpList_catK rfl (.tmp 121) (.tmp 124) rfl W0.heap.size v61 x61 (P) (nB x.jb) rfl rfl G61.out.1 G61.out.2.1.txt hl61 hg61 G61.out.2.2.2 (by decide) ?_;intro v62 w62 hO hB hK;have H62:=Lib.hid (And.intro hO (And.intro (Below.trans G61.out.2.2.1 hB) hK));have hs62:W0.heap.size≤w62.heap.size:=H62.out.2.1.size;clear hO hB hK;have R1:=Lib.hid (show w62.rangeAt g 1 [.int .i64 x.b0,.int .i64 x.b1,.int .i64 x.b2,.int .i64 x.b3,.int .i64 x.b4,.int .i64 x.b5] from range_part (n:=6) H62.out.2.2 rfl)) | (refine wpList_load_mid rfl 30 _ rfl _ _ rfl _ _ R1.out Try.underlying30 rfl (by kernel_rfl) ?_))
       refine (HN2.out _).mono ?_
       intro e y62 h
       obtain ⟨x62,rfl,hO,hB⟩:=h
       have G62:=Lib.hid (And.intro (H62.out.1.up hB) (And.intro hO (And.intro (H62.out.2.1.trans (hB.mono hs62)) (H62.out.2.2.below hB H62.out.2.2.lt))))
       have hg62:W0.heap.size≤y62.heap.size:=G62.out.2.2.1.size
       clear hO hB H62 R1
       have hl62:(P ++ (nB x.jb)).length+(numsB [x.b0,x.b1,x.b2,x.b3,x.b4,x.b5]).length≤140737488355328:=by simp only [List.length_append,numsB_len,nB_len,List.length_cons,List.length_nil];omega
       go_upto_region 24 with (first | (at_builtin;refine wpList_catK rfl (.tmp 126) (.tmp 130) rfl W0.heap.size v62 x62 (P ++ (nB x.jb)) (numsB [x.b0,x.b1,x.b2,x.b3,x.b4,x.b5]) rfl rfl G62.out.1 G62.out.2.1.txt hl62 hg62 G62.out.2.2.2 (by decide) ?_;intro v63 w63 hO hB hK;have H63:=Lib.hid (And.intro hO (And.intro (Below.trans G62.out.2.2.1 hB) hK));have hs63:W0.heap.size≤w63.heap.size:=H63.out.2.1.size;clear hO hB hK))
       have hl63:(P ++ (nB x.jb) ++ (numsB [x.b0,x.b1,x.b2,x.b3,x.b4,x.b5])).length+([tB x.p,tB x.q,tB x.r,x.ph]).length≤140737488355328:=by simp only [List.length_append,numsB_len,nB_len,List.length_cons,List.length_nil];omega
       have S0:∀ W,(Below W0.heap.size W0 W∧Blk W g 109 (pL x).toArray)→(Below W0.heap.size W0 W∧W.cell? ⟨g,7,none⟩=some (.bool x.p)∧W.cell? ⟨g,8,none⟩=some (.bool x.q)∧W.cell? ⟨g,9,none⟩=some (.bool x.r)∧W.cell? ⟨g,10,none⟩=some (.int .u8 x.ph)):=fun W h=>⟨h.1,h.2.cell 7,h.2.cell 8,h.2.cell 9,h.2.cell 10⟩
       have K1:(Below W0.heap.size W0 w63.drew∧Blk w63.drew g 109 (pL x).toArray):=⟨H63.out.2.1.drew,H63.out.2.2.drew⟩
       have K2:(Below W0.heap.size W0 (w63.drew.alloc (.cells #[.int .u8 (tB x.p),.int .u8 (tB x.q),.int .u8 (tB x.r),.int .u8 x.ph] 5))∧Blk (w63.drew.alloc (.cells #[.int .u8 (tB x.p),.int .u8 (tB x.q),.int .u8 (tB x.r),.int .u8 x.ph] 5)) g 109 (pL x).toArray):=⟨below_alloc2 (w:=w63.drew) hs63 H63.out.2.1.drew _,H63.out.2.2.drew.alloc _⟩
       have hs9:W0.heap.size≤(w63.drew.alloc (.cells #[.int .u8 (tB x.p),.int .u8 (tB x.q),.int .u8 (tB x.r),.int .u8 x.ph] U8)).heap.size:=by simp;omega
       go_region_held3 (fun W=>(Below W0.heap.size W0 W∧W.cell? ⟨g,7,none⟩=some (.bool x.p)∧W.cell? ⟨g,8,none⟩=some (.bool x.q)∧W.cell? ⟨g,9,none⟩=some (.bool x.r)∧W.cell? ⟨g,10,none⟩=some (.int .u8 x.ph))) (first | with_reducible exact S0 _ K1 | with_reducible exact S0 _ K2 | (refine S0 _ ?_;assumption)) (first | (go_at_call 120;refine (rwtruth _ _).mono ?_;rintro e W' ⟨rfl,e2⟩;obtain rfl:=e2.symm) | (refine step_catK rfl (.tmp 132) (.tmp 150) rfl W0.heap.size v63 _ (P ++ (nB x.jb) ++ (numsB [x.b0,x.b1,x.b2,x.b3,x.b4,x.b5])) [tB x.p,tB x.q,tB x.r,x.ph] rfl rfl (OwnT.up H63.out.1 (below_alloc (Below.refl _ w63).drew)) (TxtR.box w63.drew [tB x.p,tB x.q,tB x.r,x.ph] 4 rfl) hl63 hs9 K2.2 (by decide) ?_;intro v64 w64 hO hB hK;have K3:(Below W0.heap.size W0 w64∧Blk w64 g 109 (pL x).toArray):=⟨K2.1.trans hB,hK⟩;have H64:=Lib.hid (And.intro hO K3);have hs64:W0.heap.size≤w64.heap.size:=K3.1.size;clear hO hB hK))
       clear S0 K1 K2 hs9
       have c11:w64.cell? ⟨g,11,none⟩=some (.int .i64 x.tr):=H64.out.2.2.cell 11
       have c12:w64.cell? ⟨g,12,none⟩=some (.int .i64 x.si):=H64.out.2.2.cell 12
       go_wp2_with (fail)
       refine (HN3.out _ _ rfl).mono ?_
       intro e y64 h
       obtain ⟨x64,rfl,hO,hB⟩:=h
       have G64:=Lib.hid (And.intro (H64.out.1.up hB) (And.intro hO (And.intro (H64.out.2.1.trans (hB.mono hs64)) (H64.out.2.2.below hB H64.out.2.2.lt))))
       have hg64:W0.heap.size≤y64.heap.size:=G64.out.2.2.1.size
       clear hO hB H64 c11 c12
       have hl64:(P ++ (nB x.jb) ++ (numsB [x.b0,x.b1,x.b2,x.b3,x.b4,x.b5]) ++ ([tB x.p,tB x.q,tB x.r,x.ph])).length+(numsB [x.tr,x.si]).length≤140737488355328:=by simp only [List.length_append,numsB_len,nB_len,List.length_cons,List.length_nil];omega
       go_wp2_with (first | (at_builtin;refine wpList_catK rfl (.tmp 152) (.tmp 158) rfl W0.heap.size v64 x64 (P ++ (nB x.jb) ++ (numsB [x.b0,x.b1,x.b2,x.b3,x.b4,x.b5]) ++ ([tB x.p,tB x.q,tB x.r,x.ph])) (numsB [x.tr,x.si]) rfl rfl G64.out.1 G64.out.2.1.txt hl64 hg64 G64.out.2.2.2 (by decide) ?_;intro v65 w65 hO hB hK;have H65:=Lib.hid (And.intro hO (And.intro (Below.trans G64.out.2.2.1 hB) hK));have hs65:W0.heap.size≤w65.heap.size:=H65.out.2.1.size;clear hO hB hK))
       have et:P ++ (nB x.jb) ++ (numsB [x.b0,x.b1,x.b2,x.b3,x.b4,x.b5]) ++ ([tB x.p,tB x.q,tB x.r,x.ph]) ++ (numsB [x.tr,x.si])=P ++ partE x:=by simp [partE,placeE,numsB,List.append_assoc]
       have hO:=H65.out.1
       rw [et,flat_push HP.out.1 HP.out.2 rfl] at hO
       exact ⟨⟨k+1,_,by omega,rfl,rfl,Lib.hid hO,Lib.hid H65.out.2.1⟩,by simp [intOf];omega⟩
      ·obtain rfl:k=s.ps.length:=by omega
       rw [List.take_length] at hO
       obtain ⟨Q3,hQ⟩:∃ P,P=P3 ++ s.ps.flatMap partE:=⟨_,rfl⟩
       rw [← hQ] at hO
       have hQ3:Q3.length≤14000000:=by subst hQ;rw [List.length_append];have:=flat_len partE_len s.ps;have:=Nat.mul_le_mul_right 100 HL.out.P;omega
       have EQ3:=Lib.hid hQ
       have H71:=Lib.hid (And.intro hO.out (And.intro HBr.out (KA.out.below HBr.out (by omega))))
       have hs71:W0.heap.size≤wr.heap.size:=hsr
       clear hQ hO hlt
       have HN:=Lib.hid (rwnum (s.ks.length:Int) (len64 HL.out.K))
       have c12:wr.cell? ⟨w.heap.size,12,none⟩=some (.slice x0.K s.ks.length x0.ck):=H71.out.2.2.cell 12
       go_wp2_with (fail)
       refine (HN.out _).mono ?_
       intro e y71 h
       obtain ⟨x71,rfl,hO,hB⟩:=h
       have G71:=Lib.hid (And.intro (H71.out.1.up hB) (And.intro hO (And.intro (H71.out.2.1.trans (hB.mono hs71)) (H71.out.2.2.below hB H71.out.2.2.lt))))
       have hg71:W0.heap.size≤y71.heap.size:=G71.out.2.2.1.size
       clear hO hB H71 c12 HN
       have hl71:(Q3).length+(nB (s.ks.length:Int)).length≤140737488355328:=by simp only [List.length_append,numsB_len,nB_len,List.length_cons,List.length_nil];omega
       go_wp2_with (first | (at_builtin;refine wpList_catK rfl (.tmp 160) (.tmp 164) rfl W0.heap.size v61 x71 (Q3) (nB (s.ks.length:Int)) rfl rfl G71.out.1 G71.out.2.1.txt hl71 hg71 G71.out.2.2.2 (by decide) ?_;intro v72 w72 hO hB hK;have H72:=Lib.hid (And.intro hO (And.intro (Below.trans G71.out.2.2.1 hB) hK));have hs72:W0.heap.size≤w72.heap.size:=H72.out.2.1.size;clear hO hB hK))
       obtain ⟨P4,hP⟩:∃ P,P=Q3 ++ (nB (s.ks.length:Int)):=⟨_,rfl⟩
       have hP4:P4.length≤14100000:=by subst hP;simp only [List.length_append,numsB_len,nB_len,List.length_cons,List.length_nil];omega
       have HO72:=H72.out.1
       rw [← hP] at HO72
       have EP4:=Lib.hid hP
       have HZ72:=Lib.hid (And.intro HO72 H72.out.2)
       clear hP HO72 H72
       go_wp2_with fail
       go_loopw [4,11,12] (fun b i _ wr=>∃ (k:Nat) (v0:Value),k≤s.ks.length∧i = .int .i64 k∧v0=b∧Hid (OwnT wr W0.heap.size v0 (P4 ++ (s.ks.take k).flatMap keepE))∧Hid (Below W0.heap.size W0 wr))
        (fun b i _ _=>s.ks.length - (intOf i).toNat)
       case atStart=>exact ⟨0,_,Nat.zero_le _,rfl,rfl,Lib.hid (by rw [List.take_zero,List.flatMap_nil,List.append_nil];exact HZ72.out.1),Lib.hid HZ72.out.2.1⟩
       case round =>
        obtain ⟨k,v81,hk,rfl,rfl,hO,HBr⟩:=hrel
        have hsr:W0.heap.size≤wr.heap.size:=HBr.out.size
        have hk1:k≤1000:=by have:=HL.out.K;omega
        have hlm:s.ks.length≤9223372036854775807:=by have:=HL.out.K;omega
        clear HZ72
        have aL:wr.cell? ⟨w.heap.size,12,none⟩=some (.slice x0.K s.ks.length x0.ck):=(KA.out.below HBr.out (by omega)).cell 12
        by_cases hlt:k < s.ks.length
        ·have hg:s.ks[k]? = some s.ks[k]:=List.getElem?_eq_getElem hlt
         have hmem:s.ks[k] ∈ s.ks:=List.getElem_mem hlt
         generalize s.ks[k]=x at hg hmem
         have hki:(k:Int) < (s.ks.length:Int):=by omega
         have hki0:(0:Int)≤(k:Int):=by omega
         obtain ⟨P,hP⟩:∃ P,P4 ++ (s.ks.take k).flatMap keepE=P:=⟨_,rfl⟩
         rw [hP] at hO
         have hPl:P.length≤200000000:=by have:=flat_short keepE_len hk1 hP;omega
         have HP:=Lib.hid (And.intro hP hg)
         obtain ⟨yb,yo,cs,e,hyF,_,hyc0,hyr⟩:=HX0.out.K k x hg
         have hyc:=range_below hyc0 HBr.out
         obtain rfl:=hyr
         have hwx:=Lib.hid (HW.out.2.2.2.2.1 x hmem)
         skip
         have HR:=Lib.hid hyc
         have hx:=box_full (W:=wr) 112 Sq.zzE (vs:=(eL x)) rfl
         clear hP hg hyc hyF hmem hyc0
         rw [e] at aL
         clear e
         go_upto_region 31 with (first | (refine wpList_load_mid rfl 112 _ rfl _ _ rfl _ _ HR.out Try.underlying112 rfl (by kernel_rfl) ?_) | (refine wpList_store_mid rfl 112 _ _ rfl wr.heap.size 0 (List.toArray (eL x)) rfl rfl (there_of (Blk.new _ 112 Sq.zzE) (Nat.le_of_ble_eq_true rfl)) (by kernel_rfl) (by kernel_rfl) ?_;simp only [List.toList_toArray];generalize World.setCells _ _ _ _=w81 at *;(try simp only [Act.put])))
         have H81:=Lib.hid (And.intro (OwnT.up hO.out hx.2) (And.intro (HBr.out.trans (hx.2.mono hsr)) hx.1))
         obtain ⟨g,hgq⟩:∃ n,n=wr.heap.size:=⟨_,rfl⟩
         rw [← hgq] at H81
         rw [← hgq]
         clear hx hO HBr HR hgq aL
         have hs81:W0.heap.size≤w81.heap.size:=H81.out.2.1.size
         have HN1:=Lib.hid (rwnum x.id hwx.out.1)
         have HN2:=Lib.hid (rwbox x.b0 x.b1 x.b2 x.b3 x.b4 x.b5 (all6 hwx.out.2.1 hwx.out.2.2.1 hwx.out.2.2.2.1 hwx.out.2.2.2.2.1 hwx.out.2.2.2.2.2.1 hwx.out.2.2.2.2.2.2.1))
         have HN3:=Lib.hid (rwnumsB [x.fr,x.to] (all2 hwx.out.2.2.2.2.2.2.2.1 hwx.out.2.2.2.2.2.2.2.2) (by simp) 2 rfl #[.int .i64 x.fr,.int .i64 x.to] rfl)
         have c0:w81.cell? ⟨g,0,none⟩=some (.int .i64 x.id):=H81.out.2.2.cell 0
         go_wp2_with (fail)
         refine (HN1.out _).mono ?_
         intro e y81 h
         obtain ⟨x81,rfl,hO,hB⟩:=h
         have G81:=Lib.hid (And.intro (H81.out.1.up hB) (And.intro hO (And.intro (H81.out.2.1.trans (hB.mono hs81)) (H81.out.2.2.below hB H81.out.2.2.lt))))
         have hg81:W0.heap.size≤y81.heap.size:=G81.out.2.2.1.size
         clear hO hB H81 c0
         have hl81:(P).length+(nB x.id).length≤140737488355328:=by simp only [List.length_append,numsB_len,nB_len,List.length_cons,List.length_nil];omega
         go_wp2_with (first | (at_builtin;refine wpList_catK rfl (.tmp 178) (.tmp 181) rfl W0.heap.size v81 x81 (P) (nB x.id) rfl rfl G81.out.1 G81.out.2.1.txt hl81 hg81 G81.out.2.2.2 (by decide) ?_;intro v82 w82 hO hB hK;have H82:=Lib.hid (And.intro hO (And.intro (Below.trans G81.out.2.2.1 hB) hK));have hs82:W0.heap.size≤w82.heap.size:=H82.out.2.1.size;clear hO hB hK;have R1:=Lib.hid (show w82.rangeAt g 1 [.int .i64 x.b0,.int .i64 x.b1,.int .i64 x.b2,.int .i64 x.b3,.int .i64 x.b4,.int .i64 x.b5] from range_part (n:=6) H82.out.2.2 rfl)) | (refine wpList_load_mid rfl 30 _ rfl _ _ rfl _ _ R1.out Try.underlying30 rfl (by kernel_rfl) ?_))
         refine (HN2.out _).mono ?_
         intro e y82 h
         obtain ⟨x82,rfl,hO,hB⟩:=h
         have G82:=Lib.hid (And.intro (H82.out.1.up hB) (And.intro hO (And.intro (H82.out.2.1.trans (hB.mono hs82)) (H82.out.2.2.below hB H82.out.2.2.lt))))
         have hg82:W0.heap.size≤y82.heap.size:=G82.out.2.2.1.size
         clear hO hB H82 R1
         have hl82:(P ++ (nB x.id)).length+(numsB [x.b0,x.b1,x.b2,x.b3,x.b4,x.b5]).length≤140737488355328:=by simp only [List.length_append,numsB_len,nB_len,List.length_cons,List.length_nil];omega
         go_wp2_with (first | (at_builtin;refine wpList_catK rfl (.tmp 183) (.tmp 186) rfl W0.heap.size v82 x82 (P ++ (nB x.id)) (numsB [x.b0,x.b1,x.b2,x.b3,x.b4,x.b5]) rfl rfl G82.out.1 G82.out.2.1.txt hl82 hg82 G82.out.2.2.2 (by decide) ?_;intro v83 w83 hO hB hK;have H83:=Lib.hid (And.intro hO (And.intro (Below.trans G82.out.2.2.1 hB) hK));have hs83:W0.heap.size≤w83.heap.size:=H83.out.2.1.size;clear hO hB hK;have c7:w83.cell? ⟨g,7,none⟩=some (.int .i64 x.fr):=H83.out.2.2.cell 7;have c8:w83.cell? ⟨g,8,none⟩=some (.int .i64 x.to):=H83.out.2.2.cell 8))
         refine (HN3.out _ _ rfl).mono ?_
         intro e y83 h
         obtain ⟨x83,rfl,hO,hB⟩:=h
         have G83:=Lib.hid (And.intro (H83.out.1.up hB) (And.intro hO (And.intro (H83.out.2.1.trans (hB.mono hs83)) (H83.out.2.2.below hB H83.out.2.2.lt))))
         have hg83:W0.heap.size≤y83.heap.size:=G83.out.2.2.1.size
         clear hO hB H83 c7 c8
         have hl83:(P ++ (nB x.id) ++ (numsB [x.b0,x.b1,x.b2,x.b3,x.b4,x.b5])).length+(numsB [x.fr,x.to]).length≤140737488355328:=by simp only [List.length_append,numsB_len,nB_len,List.length_cons,List.length_nil];omega
         go_wp2_with (first | (at_builtin;refine wpList_catK rfl (.tmp 188) (.tmp 196) rfl W0.heap.size v83 x83 (P ++ (nB x.id) ++ (numsB [x.b0,x.b1,x.b2,x.b3,x.b4,x.b5])) (numsB [x.fr,x.to]) rfl rfl G83.out.1 G83.out.2.1.txt hl83 hg83 G83.out.2.2.2 (by decide) ?_;intro v84 w84 hO hB hK;have H84:=Lib.hid (And.intro hO (And.intro (Below.trans G83.out.2.2.1 hB) hK));have hs84:W0.heap.size≤w84.heap.size:=H84.out.2.1.size;clear hO hB hK))
         have et:P ++ (nB x.id) ++ (numsB [x.b0,x.b1,x.b2,x.b3,x.b4,x.b5]) ++ (numsB [x.fr,x.to])=P ++ keepE x:=by simp [keepE,numsB,List.append_assoc]
         have hO:=H84.out.1
         rw [et,flat_push HP.out.1 HP.out.2 rfl] at hO
         exact ⟨⟨k+1,_,by omega,rfl,rfl,Lib.hid hO,Lib.hid H84.out.2.1⟩,by simp [intOf];omega⟩
        ·obtain rfl:k=s.ks.length:=by omega
         rw [List.take_length] at hO
         obtain ⟨Q4,hQ⟩:∃ P,P=P4 ++ s.ks.flatMap keepE:=⟨_,rfl⟩
         rw [← hQ] at hO
         have hQ4:Q4.length≤15000000:=by subst hQ;rw [List.length_append];have:=flat_len keepE_len s.ks;have:=Nat.mul_le_mul_right 100 HL.out.K;omega
         have EQ4:=Lib.hid hQ
         have H91:=Lib.hid (And.intro hO.out (And.intro HBr.out (KA.out.below HBr.out (by omega))))
         have hs91:W0.heap.size≤wr.heap.size:=hsr
         clear hQ hO hlt
         have HD:=Lib.hid (fun (W:World) (hB:Below W0.heap.size W0 W)=>rwlist s.dn HW.out.2.2.2.2.2.1 (by have:=HL.out.D;omega) x0.D x0.cd W (HX0.out.D.up hB) HX0.out.cd)
         have HS:=Lib.hid (fun (W:World) (hB:Below W0.heap.size W0 W)=>rwlist s.sh HW.out.2.2.2.2.2.2.1 (by have:=HL.out.S;omega) x0.S x0.cs W (HX0.out.S.up hB) HX0.out.cs)
         have HU:=Lib.hid (fun (W:World) (hB:Below W0.heap.size W0 W)=>rwlist s.cu HW.out.2.2.2.2.2.2.2 (by have:=HL.out.U;omega) x0.U x0.cu W (HX0.out.U.up hB) HX0.out.cu)
         have hb1:=HL.out.D
         have hb2:=HL.out.S
         have hb3:=HL.out.U
         have c13:wr.cell? ⟨w.heap.size,13,none⟩=some (.slice x0.D s.dn.length x0.cd):=H91.out.2.2.cell 13
         go_wp2_with (fail)
         refine (HD.out _ H91.out.2.1).mono ?_
         intro e y91 h
         obtain ⟨x91,rfl,hO,hB⟩:=h
         have G91:=Lib.hid (And.intro (H91.out.1.up hB) (And.intro hO (And.intro (H91.out.2.1.trans (hB.mono hs91)) (H91.out.2.2.below hB H91.out.2.2.lt))))
         have hg91:W0.heap.size≤y91.heap.size:=G91.out.2.2.1.size
         clear hO hB H91 c13
         have hl91:(Q4).length+(nB s.dn.length ++ numsB s.dn).length≤140737488355328:=by simp only [List.length_append,numsB_len,nB_len,List.length_cons,List.length_nil];omega
         go_wp2_with (first | (at_builtin;refine wpList_catK rfl (.tmp 198) (.tmp 201) rfl W0.heap.size v81 x91 (Q4) (nB s.dn.length ++ numsB s.dn) rfl rfl G91.out.1 G91.out.2.1.txt hl91 hg91 G91.out.2.2.2 (by decide) ?_;intro v92 w92 hO hB hK;have H92:=Lib.hid (And.intro hO (And.intro (Below.trans G91.out.2.2.1 hB) hK));have hs92:W0.heap.size≤w92.heap.size:=H92.out.2.1.size;clear hO hB hK;have c14:w92.cell? ⟨w.heap.size,14,none⟩=some (.slice x0.S s.sh.length x0.cs):=H92.out.2.2.cell 14))
         refine (HS.out _ H92.out.2.1).mono ?_
         intro e y92 h
         obtain ⟨x92,rfl,hO,hB⟩:=h
         have G92:=Lib.hid (And.intro (H92.out.1.up hB) (And.intro hO (And.intro (H92.out.2.1.trans (hB.mono hs92)) (H92.out.2.2.below hB H92.out.2.2.lt))))
         have hg92:W0.heap.size≤y92.heap.size:=G92.out.2.2.1.size
         clear hO hB H92 c14
         have hl92:(Q4 ++ (nB s.dn.length ++ numsB s.dn)).length+(nB s.sh.length ++ numsB s.sh).length≤140737488355328:=by simp only [List.length_append,numsB_len,nB_len,List.length_cons,List.length_nil];omega
         go_wp2_with (first | (at_builtin;refine wpList_catK rfl (.tmp 203) (.tmp 206) rfl W0.heap.size v92 x92 (Q4 ++ (nB s.dn.length ++ numsB s.dn)) (nB s.sh.length ++ numsB s.sh) rfl rfl G92.out.1 G92.out.2.1.txt hl92 hg92 G92.out.2.2.2 (by decide) ?_;intro v93 w93 hO hB hK;have H93:=Lib.hid (And.intro hO (And.intro (Below.trans G92.out.2.2.1 hB) hK));have hs93:W0.heap.size≤w93.heap.size:=H93.out.2.1.size;clear hO hB hK;have c15:w93.cell? ⟨w.heap.size,15,none⟩=some (.slice x0.U s.cu.length x0.cu):=H93.out.2.2.cell 15))
         refine (HU.out _ H93.out.2.1).mono ?_
         intro e y93 h
         obtain ⟨x93,rfl,hO,hB⟩:=h
         have G93:=Lib.hid (And.intro (H93.out.1.up hB) (And.intro hO (And.intro (H93.out.2.1.trans (hB.mono hs93)) (H93.out.2.2.below hB H93.out.2.2.lt))))
         have hg93:W0.heap.size≤y93.heap.size:=G93.out.2.2.1.size
         clear hO hB H93 c15
         have hl93:(Q4 ++ (nB s.dn.length ++ numsB s.dn) ++ (nB s.sh.length ++ numsB s.sh)).length+(nB s.cu.length ++ numsB s.cu).length≤140737488355328:=by simp only [List.length_append,numsB_len,nB_len,List.length_cons,List.length_nil];omega
         go_wp2_with (first | (at_builtin;refine wpList_catK rfl (.tmp 208) (.tmp 211) rfl W0.heap.size v93 x93 (Q4 ++ (nB s.dn.length ++ numsB s.dn) ++ (nB s.sh.length ++ numsB s.sh)) (nB s.cu.length ++ numsB s.cu) rfl rfl G93.out.1 G93.out.2.1.txt hl93 hg93 G93.out.2.2.2 (by decide) ?_;intro v94 w94 hO hB hK;have H94:=Lib.hid (And.intro hO (And.intro (Below.trans G93.out.2.2.1 hB) hK));have hs94:W0.heap.size≤w94.heap.size:=H94.out.2.1.size;clear hO hB hK))
         have eT:Q4 ++ (nB s.dn.length ++ numsB s.dn) ++ (nB s.sh.length ++ numsB s.sh) ++ (nB s.cu.length ++ numsB s.cu)=stateE s:=by
          unfold stateE listE
          rw [if_pos HL.out.C,if_pos HL.out.J,if_pos HL.out.P,if_pos HL.out.K,if_pos HL.out.D,if_pos HL.out.S,if_pos HL.out.U]
          rw [EQ4.out,EP4.out,EQ3.out,EP3.out,EQ2.out,EP2.out,EQ1.out,EP1.out]
          simp [numsB,List.append_assoc]
         have hO:=H94.out.1
         rw [eT] at hO
         go_wp2_with fail
         exact bodyPost_ret (v:=v94) (by simp [results,Try.results81,go_sem]) rfl (WR.mk (hO.mono (by omega)) (HB0.out.trans (H94.out.2.1.mono (by omega))))
end Go.Proofs.Ytfdldbfjeamlcaa.RwState
namespace Go.Proofs.Ytfdldbfjeamlcaa.RwBytes
set_option maxRecDepth 100000
set_option maxHeartbeats 20000000
open Go.Sort (grow)
open Go.RowKit Mem RecMem RecByte RecNum RecEach RecMath RecCommand RecCmdJ RecWr0 RecVal RecCod RecCods RecSame RecOwn RecRecC RecWAt RecWOk RecSameA RecAll RecGuard RecF1 RecF2 RecF3 RecRL0 RwNum RwState0 RecWrite0 RwShort RwMay0 RwState RwCmd RwNums
theorem cmdB_len (c:CV):(cmdB c).length≤1+8*20+8*(c.af.length+1):=by
 unfold cmdB askB
 split
 ·simp only [List.length_cons,List.length_append,nB_len,numsB_len,List.length_nil];omega
 ·repeat' split
  all_goals (simp only [List.length_cons,List.length_append,nB_len,numsB_len,List.length_nil];omega)
theorem rwbytes (r:RV) (x:SA) (Y:Option Addr) (cy:Nat) (F:RFacts r) (w:World) (h:RIs w r x Y cy) (hok:okR r) :
    Calls Try.prog 53 #[.agg (rL r x Y cy).toArray] w fun e w' => WR (recB r) w e w':=by
 have HF:=Lib.hid F
 have HI:=Lib.hid h
 have HSh:=Lib.hid (may_short hok)
 have HN:=Lib.hid (rwnum r.g F.hg)
 have HOK:=Lib.hid hok
 clear h F hok
 go_enter Try.func53,Try.ntmps53
 go_upto_region 1 with fail
 have KA:=Lib.hid (Blk.new w 51 (rL r x Y cy).toArray)
 have HB:=Lib.hid (below_alloc (o:=.cells (rL r x Y cy).toArray 51) (Below.refl w.heap.size w))
 generalize w.alloc (.cells (rL r x Y cy).toArray 51)=W0 at *
 have HI1:=Lib.hid (HI.out.up HB.out)
 have k0:W0.cell? ⟨w.heap.size,0,none⟩=some (.int .i64 r.g):=KA.out.cell 0
 by_cases h0:r.g=0
 ·have ET:=Lib.hid (show recB r=nB r.g ++ cmdB r.c by unfold recB;rw [if_pos h0])
  have hk:=((may_cmd HF.out h0 HSh.out).1 HOK.out).1
  obtain ⟨TB,hTB⟩:∃ t,t=cmdB r.c:=⟨_,rfl⟩
  have HC:=Lib.hid (show ∀ (W:World),Below W0.heap.size W0 W→Calls Try.prog 80 #[.agg (cL r.c Y cy).toArray] W fun e w' => WR TB W e w' from fun W hB=>by
   rw [hTB]
   exact rwcommand r.c Y cy hk.1 hk.2 HF.out.hc (by have:=HSh.out.F;omega) HI1.out.cap W (HI1.out.af.up hB))
  rw [← hTB] at ET
  have hlT:(nB r.g).length+TB.length≤140737488355328:=by
   rw [hTB,nB_len]
   have h1:=cmdB_len r.c
   have h2:=HSh.out.F
   omega
  have HG:=Lib.hid h0
  rw [HG.out] at k0
  have HN:=Lib.hid (show ∀ W:World,Calls Try.prog 79 #[.int .i64 0] W fun e w' => WR (nB r.g) W e w' from fun W=>by have:=HN.out W;rw [HG.out] at this ⊢;exact this)
  clear hTB hk h0
  go_upto_region 2 with fail
  clear k0
  refine wp_region_held_drew (S:=(fun W=>Below W0.heap.size W0 W)) (by kernel_rfl) ?_ (fun hHeld=>?_)
  ·exact (Below.refl _ W0).drew
  refine' wpAnyH_take (i:=1) (v:=?v58) rfl (by kernel_rfl) (by kernel_rfl) (by kernel_rfl) (fun _ _ _ h=>h) (Or.inl ⟨by rfl,?y58⟩) (by assumption) ?r58
  case y58=>(intro W hSw;(try dsimp only at hSw);go_simp;try with_reducible rfl)
  (try simp only [Act.put,List.getElem_toArray,List.getElem_cons_zero,List.getElem_cons_succ,List.setIfInBounds_toArray,List.set_cons_zero,List.set_cons_succ])
  refine' wpAnyH_take (i:=2) (v:=_) rfl (by kernel_rfl) (by kernel_rfl) (by kernel_rfl) (fun _ _ _ h=>h) (yieldsIf_load_mid (by rfl) _ _ rfl _ _ rfl (cL r.c Y cy) _ (fun W hSw=>range_part (n:=28) (KA.out.below hSw KA.out.lt) rfl) Try.underlying34 rfl (by kernel_rfl)) (by assumption) ?r59
  (try simp only [Act.put,List.getElem_toArray,List.getElem_cons_zero,List.getElem_cons_succ,List.setIfInBounds_toArray,List.set_cons_zero,List.set_cons_succ])
  refine wpAnyH_ready (rs:=[0]) (by kernel_rfl) (by simp) ?_
  refine AllReadyH.cons (i:=0) rfl (fun K hK=>?_) ?_
  ·go_simp
   refine (HN.out _).mono ?_
   rintro e w1 ⟨v0,rfl,hO1,hB1⟩
   have H1:=Lib.hid (And.intro hO1 (below_up (below_drew1 W0) hB1))
   have hs1:W0.heap.size≤w1.heap.size:=H1.out.2.size
   clear hO1 hB1
   (try dsimp only)
   refine hK.out _ _ ?_ (fun hHeld=>?_)
   ·exact H1.out.2
   clear hK K
   (try simp only [Act.put,List.getElem_toArray,List.getElem_cons_zero,List.getElem_cons_succ,List.setIfInBounds_toArray,List.set_cons_zero,List.set_cons_succ])
   refine wpAnyH_ready (rs:=[3]) (by kernel_rfl) (by simp) ?_
   refine AllReadyH.cons (i:=3) rfl (fun K hK=>?_) ?_
   ·go_simp
    refine (HC.out _ H1.out.2).mono ?_
    rintro e w2 ⟨v3,rfl,hO2,hB2⟩
    have H2:=Lib.hid (And.intro (H1.out.1.up hB2) (And.intro hO2 (below_up H1.out.2 hB2)))
    have hs2:W0.heap.size≤w2.heap.size:=H2.out.2.2.size
    clear hO2 hB2
    (try dsimp only)
    refine hK.out _ _ ?_ (fun hHeld=>?_)
    ·exact H2.out.2.2
    clear hK K
    (try simp only [Act.put,List.getElem_toArray,List.getElem_cons_zero,List.getElem_cons_succ,List.setIfInBounds_toArray,List.set_cons_zero,List.set_cons_succ])
    refine wpAnyH_ready (rs:=[4]) (by kernel_rfl) (by simp) ?_
    refine AllReadyH.cons (i:=4) rfl (fun K hK=>?_) ?_
    ·refine step_cat rfl (.tmp 6) (.tmp 9) rfl W0.heap.size v0 v3 (nB r.g) TB rfl rfl H2.out.1 (H2.out.2.1.mono hs1).txt hlT hs2 ?_
     intro v9 w9 hO9 hB9
     have H9:=Lib.hid (And.intro (hO9.mono HB.out.size) (HB.out.trans ((H2.out.2.2.trans hB9).mono HB.out.size)))
     have hS9:Below W0.heap.size W0 w9:=H2.out.2.2.trans hB9
     clear hO9 hB9
     refine hK.out _ _ ?_ (fun hHeld=>?_)
     ·exact hS9
     clear hK K
     (try simp only [Act.put,List.getElem_toArray,List.getElem_cons_zero,List.getElem_cons_succ,List.setIfInBounds_toArray,List.set_cons_zero,List.set_cons_succ])
     refine' wpAnyH_take (i:=5) (v:=?v60) rfl (by kernel_rfl) (by kernel_rfl) (by kernel_rfl) (fun _ _ _ h=>h) (Or.inl ⟨by rfl,?y60⟩) (by assumption) ?r60
     case y60=>(intro W hSw;(try dsimp only at hSw);go_simp;try with_reducible rfl)
     (try simp only [Act.put,List.getElem_toArray,List.getElem_cons_zero,List.getElem_cons_succ,List.setIfInBounds_toArray,List.set_cons_zero,List.set_cons_succ])
     refine wpAnyH_done (by kernel_rfl) ?_ _
     go_wp2_with fail
     exact bodyPost_ret (v:=v9) (by simp [results,Try.results53,go_sem]) rfl (WR.mk (by rw [ET.out];exact H9.out.1) H9.out.2)
    exact AllReadyH.nil
   exact AllReadyH.nil
  exact AllReadyH.nil
 ·have ET:=Lib.hid (show recB r=nB r.g ++ stateE r.s by unfold recB;rw [if_neg h0,state_encE ((state_ok HF.out.hs).2 (HOK.out.2.2 h0).2)])
  obtain ⟨TB,hTB⟩:∃ t,t=stateE r.s:=⟨_,rfl⟩
  have HC:=Lib.hid (show ∀ (W:World),Below W0.heap.size W0 W→Calls Try.prog 81 #[.agg (sL r.s x).toArray] W fun e w' => WR TB W e w' from fun W hB=>by
   rw [hTB]
   exact rwstate r.s x HF.out.hs HSh.out.S W (HI1.out.st.up hB))
  rw [← hTB] at ET
  have hlT:(nB r.g).length+TB.length≤140737488355328:=by
   rw [hTB,nB_len]
   have h1:=stateE_len r.s
   omega
  have hg:(r.g == 0)=false:=by rw [beq_eq_false_iff_ne];exact h0
  clear hTB h0
  go_upto_region 3 with fail
  clear k0 hg
  refine wp_region_held_drew (S:=(fun W=>Below W0.heap.size W0 W)) (by kernel_rfl) ?_ (fun hHeld=>?_)
  ·exact (Below.refl _ W0).drew
  refine' wpAnyH_take (i:=0) (v:=?v61) rfl (by kernel_rfl) (by kernel_rfl) (by kernel_rfl) (fun _ _ _ h=>h) (Or.inl ⟨by rfl,?y61⟩) (by assumption) ?r61
  case y61=>(intro W hSw;(try dsimp only at hSw);go_simp;try with_reducible rfl)
  (try simp only [Act.put,List.getElem_toArray,List.getElem_cons_zero,List.getElem_cons_succ,List.setIfInBounds_toArray,List.set_cons_zero,List.set_cons_succ])
  refine' wpAnyH_take (i:=3) (v:=?v62) rfl (by kernel_rfl) (by kernel_rfl) (by kernel_rfl) (fun _ _ _ h=>h) (Or.inl ⟨by rfl,?y62⟩) (by assumption) ?r62
  case y62=>(intro W hSw;(try dsimp only at hSw);go_simp;try with_reducible rfl)
  (try simp only [Act.put,List.getElem_toArray,List.getElem_cons_zero,List.getElem_cons_succ,List.setIfInBounds_toArray,List.set_cons_zero,List.set_cons_succ])
  refine' wpAnyH_take (i:=1) (v:=?v63) rfl (by kernel_rfl) (by kernel_rfl) (by kernel_rfl) (fun _ _ _ h=>h) (Or.inl ⟨by rfl,?y63⟩) (by assumption) ?r63
  case y63=>(intro W hSw;(try dsimp only at hSw);have q0:=(KA.out.below hSw KA.out.lt).cell 0;go_simp;try with_reducible rfl)
  (try simp only [Act.put,List.getElem_toArray,List.getElem_cons_zero,List.getElem_cons_succ,List.setIfInBounds_toArray,List.set_cons_zero,List.set_cons_succ])
  refine' wpAnyH_take (i:=4) (v:=_) rfl (by kernel_rfl) (by kernel_rfl) (by kernel_rfl) (fun _ _ _ h=>h) (yieldsIf_load_mid (by rfl) _ _ rfl _ _ rfl (sL r.s x) _ (fun W hSw=>range_part (n:=16) (KA.out.below hSw KA.out.lt) rfl) Try.underlying49 rfl (by kernel_rfl)) (by assumption) ?r64
  (try simp only [Act.put,List.getElem_toArray,List.getElem_cons_zero,List.getElem_cons_succ,List.setIfInBounds_toArray,List.set_cons_zero,List.set_cons_succ])
  refine wpAnyH_ready (rs:=[2]) (by kernel_rfl) (by simp) ?_
  refine AllReadyH.cons (i:=2) rfl (fun K hK=>?_) ?_
  ·go_simp
   refine (HN.out _).mono ?_
   rintro e w1 ⟨v2,rfl,hO1,hB1⟩
   have H1:=Lib.hid (And.intro hO1 (below_up (below_drew1 W0) hB1))
   have hs1:W0.heap.size≤w1.heap.size:=H1.out.2.size
   clear hO1 hB1
   (try dsimp only)
   refine hK.out _ _ ?_ (fun hHeld=>?_)
   ·exact H1.out.2
   clear hK K
   (try simp only [Act.put,List.getElem_toArray,List.getElem_cons_zero,List.getElem_cons_succ,List.setIfInBounds_toArray,List.set_cons_zero,List.set_cons_succ])
   refine wpAnyH_ready (rs:=[5]) (by kernel_rfl) (by simp) ?_
   refine AllReadyH.cons (i:=5) rfl (fun K hK=>?_) ?_
   ·go_simp
    refine (HC.out _ H1.out.2).mono ?_
    rintro e w2 ⟨v5,rfl,hO2,hB2⟩
    have H2:=Lib.hid (And.intro (H1.out.1.up hB2) (And.intro hO2 (below_up H1.out.2 hB2)))
    have hs2:W0.heap.size≤w2.heap.size:=H2.out.2.2.size
    clear hO2 hB2
    (try dsimp only)
    refine hK.out _ _ ?_ (fun hHeld=>?_)
    ·exact H2.out.2.2
    clear hK K
    (try simp only [Act.put,List.getElem_toArray,List.getElem_cons_zero,List.getElem_cons_succ,List.setIfInBounds_toArray,List.set_cons_zero,List.set_cons_succ])
    refine wpAnyH_ready (rs:=[6]) (by kernel_rfl) (by simp) ?_
    refine AllReadyH.cons (i:=6) rfl (fun K hK=>?_) ?_
    ·refine step_cat rfl (.tmp 13) (.tmp 16) rfl W0.heap.size v2 v5 (nB r.g) TB rfl rfl H2.out.1 (H2.out.2.1.mono hs1).txt hlT hs2 ?_
     intro v9 w9 hO9 hB9
     have H9:=Lib.hid (And.intro (hO9.mono HB.out.size) (HB.out.trans ((H2.out.2.2.trans hB9).mono HB.out.size)))
     have hS9:Below W0.heap.size W0 w9:=H2.out.2.2.trans hB9
     clear hO9 hB9
     refine hK.out _ _ ?_ (fun hHeld=>?_)
     ·exact hS9
     clear hK K
     (try simp only [Act.put,List.getElem_toArray,List.getElem_cons_zero,List.getElem_cons_succ,List.setIfInBounds_toArray,List.set_cons_zero,List.set_cons_succ])
     refine' wpAnyH_take (i:=7) (v:=?v65) rfl (by kernel_rfl) (by kernel_rfl) (by kernel_rfl) (fun _ _ _ h=>h) (Or.inl ⟨by rfl,?y65⟩) (by assumption) ?r65
     case y65=>(intro W hSw;(try dsimp only at hSw);go_simp;try with_reducible rfl)
     (try simp only [Act.put,List.getElem_toArray,List.getElem_cons_zero,List.getElem_cons_succ,List.setIfInBounds_toArray,List.set_cons_zero,List.set_cons_succ])
     refine wpAnyH_done (by kernel_rfl) ?_ _
     go_wp2_with fail
     exact bodyPost_ret (v:=v9) (by simp [results,Try.results53,go_sem]) rfl (WR.mk (by rw [ET.out];exact H9.out.1) H9.out.2)
    exact AllReadyH.nil
   exact AllReadyH.nil
  exact AllReadyH.nil
end Go.Proofs.Ytfdldbfjeamlcaa.RwBytes
