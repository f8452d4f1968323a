/- Several texts joined: rec.Read. -/
import Derived.Deep.DeepCutAuto
import Derived.Defers
import Derived.Recover
import Derived.Laws.Pointers
import Derived.Laws.Rows
import Derived.Test.YtfdldbfjeamlcaaPG14
import Derived.Test.YtfdldbfjeamlcaaPG13
import Derived.BigQuiet
import Derived.Deep.QuietTactic
import Derived.Deep.MidRow
import Derived.Lib.QuietBelow
import Derived.Lib.SliceRun
import Derived.Test.YtfdldbfjeamlcaaPG10
import Derived.Test.YtfdldbfjeamlcaaPG1
import Derived.Test.YtfdldbfjeamlcaaPG6
import Derived.Test.YtfdldbfjeamlcaaPG12
set_option linter.unusedVariables false
set_option linter.unusedSimpArgs false
namespace Go.Proofs.Ytfdldbfjeamlcaa.RecRead
set_option maxRecDepth 100000
set_option maxHeartbeats 3000000
open Go.RowKit Mem RecMem RecByte RecNum RecEach RecMath RecCod RecCods RecPort RecCommand RecCmdJ RecVal RecSame RecOwn RecRd RecRByte RecRNum RecREach RecRFlat RecRClass RecRL0 RecRListI RecRAsk RecRJob RecRList RecRListE RecRListP RecRListJ RecRState RecRCmd RecRRec
abbrev zA:Array Value:=recA CV.z none 0
theorem FrR.sets {gp b:Nat} {w:World} : ∀ {vs:List Value} {w':World} {i:Nat},FrR gp b w w'→FrR gp b w (World.setCells w' gp i vs)
 | [],w',i,h=>h
 | v :: vs,w',i,h=>FrR.sets (vs:=vs) (h.set_ (p:=⟨gp,i,none⟩) (.inl rfl) v)
theorem catch1 (g h:Nat) (cs:Array Value) (T2:TypeId) (v1:Value) (older:List PanicEntry) (w:World) (hg:Blk w g 51 cs) (hcs:cs.size=45) (hh:Blk w h T2 #[v1]) (hne:g≠h) :
    CallsD Try.prog 51 #[.pointer (some ⟨g,0,none⟩),.pointer (some ⟨h,0,none⟩)] (.panicking ({ v:=.iface 115 (.agg #[]),recovered:=false } :: older)) w fun e u' w' =>
     e = .returned (.tuple #[])∧u' = .panicking ({ v:=.iface 115 (.agg #[]),recovered:=true } :: older)∧Blk w' g 51 zA∧Blk w' h T2 #[.int .i64 8]∧FrR g h w w':=by
 refine callsD_of_wpS Try.func51 rfl fun c₀ cs₀ hu=>?_
 apply wpS_seq
 apply wpS_region
 simp [wpOpsS,go_sem,recoverD,hu,Try.ntmps51,Exit.thenS]
 refine wpS_of_wp ?_
 have hta:∀ W:World,(Instr.typeAssert (.iface 115 (.agg #[])) 20 115 true).run Try.prog W = .ok (.tuple #[.agg #[],.bool true]) W:=fun W=>by kernel_rfl
 change Code.wp Try.prog _ _ ⟨#[.pointer (some ⟨g,0,none⟩),.pointer (some ⟨h,0,none⟩),.iface 115 (.agg #[]),undef,undef,.iface 115 (.agg #[]),undef,undef,undef,undef,undef,undef,undef,undef,undef,undef,undef],[]⟩ w
 go_upto_region 5 with fail
 have kg:=hg.alloc (.cells #[] 115)
 have kh:=hh.alloc (.cells #[] 115)
 have kf:=(FrR.refl g h w).alloc (.cells #[] 115)
 clear hg hh hta
 generalize w.alloc (.cells #[] 115)=W0 at *
 have k1:Blk (World.setCells W0 g 0 [.int .i64 0,.int .i64 0,.int .i64 0,.int .i64 0,.int .i64 0,.int .i64 0,.int .i64 0,.int .i64 0,.slice none 0 0,.int .i64 0,.int .i64 0,.slice none 0 0,.slice none 0 0,.slice none 0 0,.slice none 0 0,.slice none 0 0,.slice none 0 0,.int .u8 0,.int .i64 0,.int .i64 0,.int .i64 0,.int .i64 0,.int .i64 0,.int .i64 0,.bool false,.bool false,.bool false,.bool false,.int .i64 0,.int .i64 0,.bool false,.slice none 0 0,.int .u8 0,.int .i64 0,.int .i64 0,.int .i64 0,.int .i64 0,.int .i64 0,.int .i64 0,.int .i64 0,.int .i64 0,.int .i64 0,.int .i64 0,.int .i64 0,.bool false]) g 51 (List.toArray [.int .i64 0,.int .i64 0,.int .i64 0,.int .i64 0,.int .i64 0,.int .i64 0,.int .i64 0,.int .i64 0,.slice none 0 0,.int .i64 0,.int .i64 0,.slice none 0 0,.slice none 0 0,.slice none 0 0,.slice none 0 0,.slice none 0 0,.slice none 0 0,.int .u8 0,.int .i64 0,.int .i64 0,.int .i64 0,.int .i64 0,.int .i64 0,.int .i64 0,.bool false,.bool false,.bool false,.bool false,.int .i64 0,.int .i64 0,.bool false,.slice none 0 0,.int .u8 0,.int .i64 0,.int .i64 0,.int .i64 0,.int .i64 0,.int .i64 0,.int .i64 0,.int .i64 0,.int .i64 0,.int .i64 0,.int .i64 0,.int .i64 0,.bool false]):=blk_all kg (setA_full (by rw [hcs];rfl))
 have k2:Blk (World.setCells W0 g 0 [.int .i64 0,.int .i64 0,.int .i64 0,.int .i64 0,.int .i64 0,.int .i64 0,.int .i64 0,.int .i64 0,.slice none 0 0,.int .i64 0,.int .i64 0,.slice none 0 0,.slice none 0 0,.slice none 0 0,.slice none 0 0,.slice none 0 0,.slice none 0 0,.int .u8 0,.int .i64 0,.int .i64 0,.int .i64 0,.int .i64 0,.int .i64 0,.int .i64 0,.bool false,.bool false,.bool false,.bool false,.int .i64 0,.int .i64 0,.bool false,.slice none 0 0,.int .u8 0,.int .i64 0,.int .i64 0,.int .i64 0,.int .i64 0,.int .i64 0,.int .i64 0,.int .i64 0,.int .i64 0,.int .i64 0,.int .i64 0,.int .i64 0,.bool false]) h T2 #[v1]:=blk_sets_far hne.symm kh
 have k3:FrR g h w (World.setCells W0 g 0 [.int .i64 0,.int .i64 0,.int .i64 0,.int .i64 0,.int .i64 0,.int .i64 0,.int .i64 0,.int .i64 0,.slice none 0 0,.int .i64 0,.int .i64 0,.slice none 0 0,.slice none 0 0,.slice none 0 0,.slice none 0 0,.slice none 0 0,.slice none 0 0,.int .u8 0,.int .i64 0,.int .i64 0,.int .i64 0,.int .i64 0,.int .i64 0,.int .i64 0,.bool false,.bool false,.bool false,.bool false,.int .i64 0,.int .i64 0,.bool false,.slice none 0 0,.int .u8 0,.int .i64 0,.int .i64 0,.int .i64 0,.int .i64 0,.int .i64 0,.int .i64 0,.int .i64 0,.int .i64 0,.int .i64 0,.int .i64 0,.int .i64 0,.bool false]):=FrR.sets kf
 go_wp2_with (first | (refine wpList_store_mid rfl 51 _ _ rfl g 0 (List.toArray [.int .i64 0,.int .i64 0,.int .i64 0,.int .i64 0,.int .i64 0,.int .i64 0,.int .i64 0,.int .i64 0,.slice none 0 0,.int .i64 0,.int .i64 0,.slice none 0 0,.slice none 0 0,.slice none 0 0,.slice none 0 0,.slice none 0 0,.slice none 0 0,.int .u8 0,.int .i64 0,.int .i64 0,.int .i64 0,.int .i64 0,.int .i64 0,.int .i64 0,.bool false,.bool false,.bool false,.bool false,.int .i64 0,.int .i64 0,.bool false,.slice none 0 0,.int .u8 0,.int .i64 0,.int .i64 0,.int .i64 0,.int .i64 0,.int .i64 0,.int .i64 0,.int .i64 0,.int .i64 0,.int .i64 0,.int .i64 0,.int .i64 0,.bool false]) rfl rfl (there_of kg (by rw [hcs];exact Nat.le_of_ble_eq_true rfl)) (by kernel_rfl) (by kernel_rfl) ?_;simp only [List.toList_toArray];generalize World.setCells _ _ _ _=W3 at *;have ch:W3.cell? ⟨h,0,none⟩=some v1:=k2.cell 0;have fh:=k2.frozen 0;have hK:=Lib.hid (And.intro k1 (And.intro k2 k3));clear k1 k2 k3 kg kh kf;(try simp only [Act.put])))
 exact ⟨rfl,_,rfl,_,results_none rfl _ _ _,rfl,rfl,hK.out.1.far (p:=⟨h,0,none⟩) hne _,hK.out.2.1.set_ 0 _,hK.out.2.2.set_ (p:=⟨h,0,none⟩) (.inr (.inl rfl)) _⟩
theorem catch0 (g h:Nat) (w:World) :
    CallsD Try.prog 51 #[.pointer (some ⟨g,0,none⟩),.pointer (some ⟨h,0,none⟩)] .returning w fun e u' w' => e = .returned (.tuple #[])∧u' = .returning∧w' = w:=by
 refine callsD_of_wpS Try.func51 rfl fun c₀ cs₀ hu=>?_
 apply wpS_seq
 apply wpS_region
 simp [wpOpsS,go_sem,recoverD,hu,Try.ntmps51,Exit.thenS]
 refine wpS_of_wp ?_
 change Code.wp Try.prog _ _ ⟨#[.pointer (some ⟨g,0,none⟩),.pointer (some ⟨h,0,none⟩),.nilIface,undef,undef,.nilIface,undef,undef,undef,undef,undef,undef,undef,undef,undef,undef,undef],[]⟩ w
 go_wp2_with fail
 refine ⟨rfl,.returning,?_,_,results_none rfl _ _ _,rfl,rfl,rfl⟩
 cases c₀
 simp only at hu
 subst hu
 rfl
theorem loadVar_int {P:Program} {w:World} {ty:TypeId} {k:IntKind} {a:Addr} {v:Value} (hu:P.underlying ty=some (.int k)) (hc:w.cell? a=some v):(loadVar ty a).run P w = .ok v w:=by
 simp [loadVar,isAgg,run_underlying hu,go_sem,hc]
theorem results_two {P:Program} {fn:Func} {p q:Tmp} {ty ty2:TypeId} {k:IntKind} (h:fn.results=#[.cell p ty,.cell q ty2]) (tmps:Array Value) (w:World) (g g2:Nat) (t:TypeId) (cs:Array Value) (fr:Nat × Nat) (d:TypeDesc) (v:Value)
    (hp:tmps.getD p undef = .pointer (some ⟨g,0,none⟩)) (hq:tmps.getD q undef = .pointer (some ⟨g2,0,none⟩)) (hg:w.heap[g]? = some (.cells cs t fr)) (hc:w.cell? ⟨g2,0,none⟩=some v)
    (hu:P.underlying ty=some d) (hd:(match d with | .struct _ | .array _ _=>true | _=>false)=true) (hi:(P.info? ty).map (·.size)=some cs.size) (hu2:P.underlying ty2=some (.int k)) :
    (results fn tmps).run P w = .ok (.tuple #[.agg cs,v]) w:=by
 have hp':tmps[p]?.getD undef = .pointer (some ⟨g,0,none⟩):=by simpa using hp
 have hq':tmps[q]?.getD undef = .pointer (some ⟨g2,0,none⟩):=by simpa using hq
 simp [results,h,hp',hq',asAddr,run_loadVar_row w g t ty cs fr d hg hu hd hi,loadVar_int hu2 hc]
def TxtAt (w:World) (X:Option Addr) (t:Bs):Prop:=∀ i x,t[i]? = some x→∃ tb o,X=some ⟨tb,o,none⟩∧tb < w.heap.size∧w.cell? ⟨tb,o+i,none⟩=some (.int .u8 x)
theorem TxtAt.up {w w':World} {X:Option Addr} {t:Bs} (h:TxtAt w X t) (hB:Below w.heap.size w w'):TxtAt w' X t:=fun i x hi=>by
 obtain ⟨tb,o,e,h1,h2⟩:=h i x hi
 exact ⟨tb,o,e,Nat.lt_of_lt_of_le h1 hB.size,keep_cell h2 hB⟩
def readV (t:Bs):RV × Int:=
 if 65536 < t.length then (RV.z,4) else match recDec t with
  | some (r,[])=>(r,0)
  | _=>(RV.z,8)
theorem readV_long {t:Bs} (h:65536 < t.length):readV t=(RV.z,4):=by unfold readV;rw [if_pos h]
theorem readV_none {t:Bs} (h:¬ 65536 < t.length) (hd:recDec t=none):readV t=(RV.z,8):=by unfold readV;rw [if_neg h,hd]
theorem readV_more {t u:Bs} {r:RV} {x:Int} (h:¬ 65536 < t.length) (hd:recDec t=some (r,x :: u)):readV t=(RV.z,8):=by unfold readV;rw [if_neg h,hd]
theorem readV_ok {t:Bs} {r:RV} (h:¬ 65536 < t.length) (hd:recDec t=some (r,[])):readV t=(r,0):=by unfold readV;rw [if_neg h,hd]
def One {α:Type} (R:Rep α):Prop:=∀ (w:World) (F:Nat) (x:α) (vs:List Value),R.At w F x vs→∀ u ∈ vs,u.oneCell' = true
theorem one_flat {α:Type} {n:Nat} {L:α→List Value} {h:∀ x,(L x).length=n} (hL:∀ x,∀ u ∈ L x,u.oneCell' = true):One (flatR n L h):=fun w F x vs e=>by
 have e2:vs=L x:=e
 subst e2
 exact hL x
theorem one_pair {α β:Type} {R:Rep α} {S:Rep β} (h:One R) (k:One S):One (R.pair S):=by
 rintro w F x vs ⟨a,b,rfl,h1,h2⟩ u hu
 rcases List.mem_append.1 hu with e | e
 ·exact h _ _ _ _ h1 u e
 ·exact k _ _ _ _ h2 u e
theorem one_iso {α β:Type} {R:Rep α} {g:β→α} (h:One R):One (R.iso g):=fun w F x vs h1=>h w F (g x) vs h1
theorem one_list {α:Type} {R:Rep α} {e:TypeId} : One (listR R e):=by
 rintro w F l vs ⟨V,c,xs,rfl,_⟩ u hu
 simp at hu
 subst hu
 rfl
theorem one_num:One numR:=one_flat fun x u hu=>by simp at hu;subst hu;rfl
theorem one_state:One stateR:=one_iso (one_pair (one_pair (one_pair (one_pair (one_pair (one_pair (one_pair (one_pair (one_pair (one_pair (one_pair (one_pair (one_pair (one_flat fun x u hu=>by simp at hu;rcases hu with rfl | rfl | rfl <;> rfl) one_num) one_num) one_num) one_num) one_list) one_num) one_num) one_list) one_list) one_list) one_list) one_list) one_list)
theorem one_cmd:One cmdR:=by
 rintro w F c vs ⟨Y,cy,rfl,_⟩ u hu
 simp only [List.mem_cons,List.not_mem_nil,or_false] at hu
 rcases hu with rfl | rfl | rfl | rfl | rfl | rfl | rfl | rfl | rfl | rfl | rfl | rfl | rfl | rfl | rfl | rfl | rfl | rfl | rfl | rfl | rfl | rfl | rfl | rfl | rfl | rfl | rfl | rfl <;> rfl
theorem one_rec:One recR:=by
 rintro w F r vs ⟨s,c,rfl,h1,h2⟩ u hu
 rcases List.mem_append.1 hu with e | e
 ·simp at e;subst e;rfl
 ·rcases List.mem_append.1 e with e | e
  ·exact one_state _ _ _ _ h1 u e
  ·exact one_cmd _ _ _ _ h2 u e
def RdPost (t:Bs) (w:World) (e:Ending) (w':World):Prop:=∃ vs:List Value,e = .returned (.tuple #[.agg vs.toArray,.int .i64 (readV t).2])∧recR.At w' w.heap.size (readV t).1 vs∧Below w.heap.size w w'
theorem recR_nil {w:World} {F:Nat} : recR.At w F RV.z zA.toList:=⟨[.int .i64 0,.int .i64 0,.int .i64 0,.int .i64 0,.int .i64 0,.int .i64 0,.int .i64 0,.slice none 0 0,.int .i64 0,.int .i64 0,.slice none 0 0,.slice none 0 0,.slice none 0 0,.slice none 0 0,.slice none 0 0,.slice none 0 0],[.int .u8 0,.int .i64 0,.int .i64 0,.int .i64 0,.int .i64 0,.int .i64 0,.int .i64 0,.bool false,.bool false,.bool false,.bool false,.int .i64 0,.int .i64 0,.bool false,.slice none 0 0,.int .u8 0,.int .i64 0,.int .i64 0,.int .i64 0,.int .i64 0,.int .i64 0,.int .i64 0,.int .i64 0,.int .i64 0,.int .i64 0,.int .i64 0,.int .i64 0,.bool false],rfl,stateR_nil,cmdR_nil rfl⟩
theorem rread (X:Option Addr) (t:Bs) (c:Nat) (w:World) (hX:TxtAt w X t) (ho:Oct t) (hc:t.length≤c) (hm:c≤maxLen) :
    Calls Try.prog 19 #[.slice X t.length c] w fun e w' => RdPost t w e w':=by
 have HX:=Lib.hid (And.intro hX (And.intro ho (And.intro hc hm)))
 have hm2:=hm
 simp only [maxLen] at hm2
 have hlm:t.length≤9223372036854775807:=by omega
 clear hX ho hc hm hm2
 have hmf:∀ (fn:Fn) (first cap:Array Value) (w:World),(Instr.makeFunc fn first cap).run Try.prog w = .ok (.func fn first cap) w:=fun _ _ _ _=>rfl
 go_enter_defers Try.func19,Try.ntmps19
 go_upto_region 1 with fail
 have K0:=Lib.hid ((Blk.new w 51 (List.toArray [.int .i64 0,.int .i64 0,.int .i64 0,.int .i64 0,.int .i64 0,.int .i64 0,.int .i64 0,.int .i64 0,.slice none 0 0,.int .i64 0,.int .i64 0,.slice none 0 0,.slice none 0 0,.slice none 0 0,.slice none 0 0,.slice none 0 0,.slice none 0 0,.int .u8 0,.int .i64 0,.int .i64 0,.int .i64 0,.int .i64 0,.int .i64 0,.int .i64 0,.bool false,.bool false,.bool false,.bool false,.int .i64 0,.int .i64 0,.bool false,.slice none 0 0,.int .u8 0,.int .i64 0,.int .i64 0,.int .i64 0,.int .i64 0,.int .i64 0,.int .i64 0,.int .i64 0,.int .i64 0,.int .i64 0,.int .i64 0,.int .i64 0,.bool false])).alloc (.cells #[.int .i64 0] 38))
 have K1:=Lib.hid (blk1 w 38 #[.int .i64 0] (o:=.cells (List.toArray [.int .i64 0,.int .i64 0,.int .i64 0,.int .i64 0,.int .i64 0,.int .i64 0,.int .i64 0,.int .i64 0,.slice none 0 0,.int .i64 0,.int .i64 0,.slice none 0 0,.slice none 0 0,.slice none 0 0,.slice none 0 0,.slice none 0 0,.slice none 0 0,.int .u8 0,.int .i64 0,.int .i64 0,.int .i64 0,.int .i64 0,.int .i64 0,.int .i64 0,.bool false,.bool false,.bool false,.bool false,.int .i64 0,.int .i64 0,.bool false,.slice none 0 0,.int .u8 0,.int .i64 0,.int .i64 0,.int .i64 0,.int .i64 0,.int .i64 0,.int .i64 0,.int .i64 0,.int .i64 0,.int .i64 0,.int .i64 0,.int .i64 0,.bool false]) 51))
 have HB:=Lib.hid (below_alloc (o:=.cells #[.int .i64 0] 38) (below_alloc (o:=.cells (List.toArray [.int .i64 0,.int .i64 0,.int .i64 0,.int .i64 0,.int .i64 0,.int .i64 0,.int .i64 0,.int .i64 0,.slice none 0 0,.int .i64 0,.int .i64 0,.slice none 0 0,.slice none 0 0,.slice none 0 0,.slice none 0 0,.slice none 0 0,.slice none 0 0,.int .u8 0,.int .i64 0,.int .i64 0,.int .i64 0,.int .i64 0,.int .i64 0,.int .i64 0,.bool false,.bool false,.bool false,.bool false,.int .i64 0,.int .i64 0,.bool false,.slice none 0 0,.int .u8 0,.int .i64 0,.int .i64 0,.int .i64 0,.int .i64 0,.int .i64 0,.int .i64 0,.int .i64 0,.int .i64 0,.int .i64 0,.int .i64 0,.int .i64 0,.bool false]) 51) (Below.refl w.heap.size w)))
 have hsz:((w.alloc (.cells (List.toArray [.int .i64 0,.int .i64 0,.int .i64 0,.int .i64 0,.int .i64 0,.int .i64 0,.int .i64 0,.int .i64 0,.slice none 0 0,.int .i64 0,.int .i64 0,.slice none 0 0,.slice none 0 0,.slice none 0 0,.slice none 0 0,.slice none 0 0,.slice none 0 0,.int .u8 0,.int .i64 0,.int .i64 0,.int .i64 0,.int .i64 0,.int .i64 0,.int .i64 0,.bool false,.bool false,.bool false,.bool false,.int .i64 0,.int .i64 0,.bool false,.slice none 0 0,.int .u8 0,.int .i64 0,.int .i64 0,.int .i64 0,.int .i64 0,.int .i64 0,.int .i64 0,.int .i64 0,.int .i64 0,.int .i64 0,.int .i64 0,.int .i64 0,.bool false]) 51)).alloc (.cells #[.int .i64 0] 38)).heap.size=w.heap.size+2:=by simp
 generalize (w.alloc (.cells (List.toArray [.int .i64 0,.int .i64 0,.int .i64 0,.int .i64 0,.int .i64 0,.int .i64 0,.int .i64 0,.int .i64 0,.slice none 0 0,.int .i64 0,.int .i64 0,.slice none 0 0,.slice none 0 0,.slice none 0 0,.slice none 0 0,.slice none 0 0,.slice none 0 0,.int .u8 0,.int .i64 0,.int .i64 0,.int .i64 0,.int .i64 0,.int .i64 0,.int .i64 0,.bool false,.bool false,.bool false,.bool false,.int .i64 0,.int .i64 0,.bool false,.slice none 0 0,.int .u8 0,.int .i64 0,.int .i64 0,.int .i64 0,.int .i64 0,.int .i64 0,.int .i64 0,.int .i64 0,.int .i64 0,.int .i64 0,.int .i64 0,.int .i64 0,.bool false]) 51)).alloc (.cells #[.int .i64 0] 38)=W0 at *
 have HSZ:=Lib.hid hsz
 clear hsz
 by_cases hlen:65536 < t.length
 ·have hl2:(65536:Int) < (t.length:Int):=by omega
  have HL:=Lib.hid hlen
  clear hlen
  have HR:=Lib.hid (show W0.rangeAt w.heap.size 0 [.int .i64 0,.int .i64 0,.int .i64 0,.int .i64 0,.int .i64 0,.int .i64 0,.int .i64 0,.int .i64 0,.slice none 0 0,.int .i64 0,.int .i64 0,.slice none 0 0,.slice none 0 0,.slice none 0 0,.slice none 0 0,.slice none 0 0,.slice none 0 0,.int .u8 0,.int .i64 0,.int .i64 0,.int .i64 0,.int .i64 0,.int .i64 0,.int .i64 0,.bool false,.bool false,.bool false,.bool false,.int .i64 0,.int .i64 0,.bool false,.slice none 0 0,.int .u8 0,.int .i64 0,.int .i64 0,.int .i64 0,.int .i64 0,.int .i64 0,.int .i64 0,.int .i64 0,.int .i64 0,.int .i64 0,.int .i64 0,.int .i64 0,.bool false] from range_part (n:=45) K0.out rfl)
  have k1:Blk (World.setCells W0 w.heap.size 0 [.int .i64 0,.int .i64 0,.int .i64 0,.int .i64 0,.int .i64 0,.int .i64 0,.int .i64 0,.int .i64 0,.slice none 0 0,.int .i64 0,.int .i64 0,.slice none 0 0,.slice none 0 0,.slice none 0 0,.slice none 0 0,.slice none 0 0,.slice none 0 0,.int .u8 0,.int .i64 0,.int .i64 0,.int .i64 0,.int .i64 0,.int .i64 0,.int .i64 0,.bool false,.bool false,.bool false,.bool false,.int .i64 0,.int .i64 0,.bool false,.slice none 0 0,.int .u8 0,.int .i64 0,.int .i64 0,.int .i64 0,.int .i64 0,.int .i64 0,.int .i64 0,.int .i64 0,.int .i64 0,.int .i64 0,.int .i64 0,.int .i64 0,.bool false]) w.heap.size 51 (List.toArray [.int .i64 0,.int .i64 0,.int .i64 0,.int .i64 0,.int .i64 0,.int .i64 0,.int .i64 0,.int .i64 0,.slice none 0 0,.int .i64 0,.int .i64 0,.slice none 0 0,.slice none 0 0,.slice none 0 0,.slice none 0 0,.slice none 0 0,.slice none 0 0,.int .u8 0,.int .i64 0,.int .i64 0,.int .i64 0,.int .i64 0,.int .i64 0,.int .i64 0,.bool false,.bool false,.bool false,.bool false,.int .i64 0,.int .i64 0,.bool false,.slice none 0 0,.int .u8 0,.int .i64 0,.int .i64 0,.int .i64 0,.int .i64 0,.int .i64 0,.int .i64 0,.int .i64 0,.int .i64 0,.int .i64 0,.int .i64 0,.int .i64 0,.bool false]):=blk_all K0.out (setA_full rfl)
  have k2:Blk (World.setCells W0 w.heap.size 0 [.int .i64 0,.int .i64 0,.int .i64 0,.int .i64 0,.int .i64 0,.int .i64 0,.int .i64 0,.int .i64 0,.slice none 0 0,.int .i64 0,.int .i64 0,.slice none 0 0,.slice none 0 0,.slice none 0 0,.slice none 0 0,.slice none 0 0,.slice none 0 0,.int .u8 0,.int .i64 0,.int .i64 0,.int .i64 0,.int .i64 0,.int .i64 0,.int .i64 0,.bool false,.bool false,.bool false,.bool false,.int .i64 0,.int .i64 0,.bool false,.slice none 0 0,.int .u8 0,.int .i64 0,.int .i64 0,.int .i64 0,.int .i64 0,.int .i64 0,.int .i64 0,.int .i64 0,.int .i64 0,.int .i64 0,.int .i64 0,.int .i64 0,.bool false]) (w.heap.size+1) 38 #[.int .i64 0]:=blk_sets_far (by omega) K1.out
  have k3:Below w.heap.size w (World.setCells W0 w.heap.size 0 [.int .i64 0,.int .i64 0,.int .i64 0,.int .i64 0,.int .i64 0,.int .i64 0,.int .i64 0,.int .i64 0,.slice none 0 0,.int .i64 0,.int .i64 0,.slice none 0 0,.slice none 0 0,.slice none 0 0,.slice none 0 0,.slice none 0 0,.slice none 0 0,.int .u8 0,.int .i64 0,.int .i64 0,.int .i64 0,.int .i64 0,.int .i64 0,.int .i64 0,.bool false,.bool false,.bool false,.bool false,.int .i64 0,.int .i64 0,.bool false,.slice none 0 0,.int .u8 0,.int .i64 0,.int .i64 0,.int .i64 0,.int .i64 0,.int .i64 0,.int .i64 0,.int .i64 0,.int .i64 0,.int .i64 0,.int .i64 0,.int .i64 0,.bool false]):=below_sets (Nat.le_refl _) HB.out
  go_wp2_with (first | (refine wpList_load_mid rfl 51 _ rfl _ _ rfl _ _ HR.out Try.underlying51 rfl (by kernel_rfl) ?_) | (refine wpList_store_mid rfl 51 _ _ rfl w.heap.size 0 (List.toArray [.int .i64 0,.int .i64 0,.int .i64 0,.int .i64 0,.int .i64 0,.int .i64 0,.int .i64 0,.int .i64 0,.slice none 0 0,.int .i64 0,.int .i64 0,.slice none 0 0,.slice none 0 0,.slice none 0 0,.slice none 0 0,.slice none 0 0,.slice none 0 0,.int .u8 0,.int .i64 0,.int .i64 0,.int .i64 0,.int .i64 0,.int .i64 0,.int .i64 0,.bool false,.bool false,.bool false,.bool false,.int .i64 0,.int .i64 0,.bool false,.slice none 0 0,.int .u8 0,.int .i64 0,.int .i64 0,.int .i64 0,.int .i64 0,.int .i64 0,.int .i64 0,.int .i64 0,.int .i64 0,.int .i64 0,.int .i64 0,.int .i64 0,.bool false]) rfl rfl (there_of K0.out (Nat.le_of_ble_eq_true rfl)) (by kernel_rfl) (by kernel_rfl) ?_;simp only [List.toList_toArray];generalize World.setCells _ _ _ _=W3 at *;have ch:W3.cell? ⟨w.heap.size+1,0,none⟩=some (.int .i64 0):=k2.cell 0;have fh:=k2.frozen 0;have hK:=Lib.hid (And.intro k1 (And.intro k2 k3));clear k1 k2 k3;(try simp only [Act.put])))
  have h3:=hK.out
  refine ⟨_,results_two rfl _ _ w.heap.size (w.heap.size+1) 51 zA (0,0) _ (.int .i64 4) rfl rfl (h3.1.far (p:=⟨w.heap.size+1,0,none⟩) (by simp) _) ((h3.2.1.set_ 0 (.int .i64 4)).cell 0) Try.underlying51 rfl (by kernel_rfl) Try.underlying38,zA.toList,?_,?_,?_⟩
  ·rw [readV_long HL.out]
  ·rw [readV_long HL.out];exact recR_nil
  ·exact h3.2.2.setCell (by simp) _
 ·have hl2:(t.length:Int)≤65536:=by omega
  have HL:=Lib.hid hlen
  clear hlen
  have hp:PR w.heap.size (W0.alloc (.cells #[.slice X t.length c,.bool true,.bool false] PT)) W0.heap.size X t c false:=⟨Blk.new _ _ _,HX.out.2.2.1,HX.out.2.2.2,HX.out.2.1,by have:=HSZ.out;omega,fun i x hi=>by
   obtain ⟨tb,o,e,h1,h2⟩:=HX.out.1 i x hi
   exact ⟨tb,o,e,h1,cell_over _ (keep_cell h2 HB.out)⟩⟩
  have HC:=Lib.hid (rrecord w.heap.size W0.heap.size X t c w.heap.size 0 51 (List.toArray [.int .i64 0,.int .i64 0,.int .i64 0,.int .i64 0,.int .i64 0,.int .i64 0,.int .i64 0,.int .i64 0,.slice none 0 0,.int .i64 0,.int .i64 0,.slice none 0 0,.slice none 0 0,.slice none 0 0,.slice none 0 0,.slice none 0 0,.slice none 0 0,.int .u8 0,.int .i64 0,.int .i64 0,.int .i64 0,.int .i64 0,.int .i64 0,.int .i64 0,.bool false,.bool false,.bool false,.bool false,.int .i64 0,.int .i64 0,.bool false,.slice none 0 0,.int .u8 0,.int .i64 0,.int .i64 0,.int .i64 0,.int .i64 0,.int .i64 0,.int .i64 0,.int .i64 0,.int .i64 0,.int .i64 0,.int .i64 0,.int .i64 0,.bool false]) _ hp (K0.out.alloc _) (fun i v hi=>by simpa using hi) (Nat.le_refl _) (by have:=HSZ.out;omega))
  clear hp
  go_wp2_with fail
  refine HC.out.mono ?_
  rintro e w2 (⟨rfl,hd,hf⟩ | ⟨⟨r2,rfl⟩,X2,c2,t2,od2,x,vs,hP,hK,hM⟩)
  ·obtain ⟨cs',he',hk'⟩:=hf.shape _ _ _ (K0.out.alloc (.cells #[.slice X t.length c,.bool true,.bool false] PT))
   have HD:=Lib.hid (And.intro (readV_none HL.out (hd rfl)) (And.intro hk' (And.intro (hf.blk (K1.out.alloc (.cells #[.slice X t.length c,.bool true,.bool false] PT)) (by have:=HSZ.out;omega) (by omega)) (And.intro ((below_alloc (o:=.cells #[.slice X t.length c,.bool true,.bool false] PT) HB.out).trans (hf.below (by have:=HSZ.out;omega) (Nat.le_refl _) (by have:=HSZ.out;simp;omega))) he'))))
   clear hd hf HC hk'
   go_wp2_with fail
   refine leaves_cons (f:=51) (args:=#[.pointer (some ⟨w.heap.size,0,none⟩),.pointer (some ⟨w.heap.size+1,0,none⟩)]) (by simp) (by simp [go_sem]) ?_
   refine (catch1 w.heap.size (w.heap.size+1) cs' 38 (.int .i64 0) [] _ HD.out.2.1 HD.out.2.2.2.2 HD.out.2.2.1 (by omega)).mono ?_
   rintro e u' w3 ⟨rfl,rfl,k1,k2,k3⟩
   change Leaves Try.prog _ _ _ [] .returning w3
   refine ⟨_,results_two rfl _ _ w.heap.size (w.heap.size+1) 51 zA (0,0) _ (.int .i64 8) rfl rfl k1 (Blk.cell k2 0) Try.underlying51 rfl (by kernel_rfl) Try.underlying38,zA.toList,?_,?_,?_⟩
   ·rw [HD.out.1]
   ·rw [HD.out.1];exact recR_nil
   ·exact HD.out.2.2.2.1.trans (k3.below (Nat.le_refl _) (by omega) HD.out.2.2.2.1.size)
  ·have hP0:=hP
   have hl:=recR.len hM.at_
   rw [setA_full (by rw [hl];rfl)] at hK
   have kh:Blk w2 (w.heap.size+1) 38 #[.int .i64 0]:=hM.fr.blk (K1.out.alloc (.cells #[.slice X t.length c,.bool true,.bool false] PT)) (by have:=HSZ.out;omega) (by omega)
   have hB2:Below w.heap.size w w2:=(below_alloc (o:=.cells #[.slice X t.length c,.bool true,.bool false] PT) HB.out).trans (hM.fr.below (by have:=HSZ.out;omega) (Nat.le_refl _) (by have:=HSZ.out;simp;omega))
   have p2:w2.cell? ⟨W0.heap.size,2,none⟩=some (.bool od2):=hP.blk.cell 2
   have p0:w2.cell? ⟨W0.heap.size,0,none⟩=some (.slice X2 t2.length c2):=hP.blk.cell 0
   have HO:=Lib.hid (one_rec _ _ _ _ hM.at_)
   have HVS:=Lib.hid (show (List.toArray vs).size=45 from (by rw [List.size_toArray];exact hl))
   have HM:=Lib.hid (And.intro hM (And.intro hK (And.intro kh (And.intro hB2 hl))))
   clear hP hP0 hK hM kh hB2 HC hl
   -- where the answer is an error
   have bad:∀ (hr:readV t=(RV.z,8)) (W:World),Blk W w.heap.size 51 zA→Blk W (w.heap.size+1) 38 #[.int .i64 8]→Below w.heap.size w W→∀ tm:Array Value,tm.getD 2 undef = .pointer (some ⟨w.heap.size,0,none⟩)→tm.getD 3 undef = .pointer (some ⟨w.heap.size+1,0,none⟩)→Leaves Try.prog Try.f19 tm (fun e w' => RdPost t w e w') [] .returning W:=fun hr W h1 h2 h3 tm e1 e2=>by
    refine ⟨_,results_two rfl _ _ w.heap.size (w.heap.size+1) 51 zA (0,0) _ (.int .i64 8) e1 e2 h1 (Blk.cell h2 0) Try.underlying51 rfl (by kernel_rfl) Try.underlying38,zA.toList,?_,?_,h3⟩
    ·rw [hr]
    ·rw [hr];exact recR_nil
   have BAD:=Lib.hid bad
   clear bad
   have hcase:(od2=true∧readV t=(RV.z,8))∨(od2=false∧(∃ y u,t2=y :: u)∧readV t=(RV.z,8))∨(od2=false∧t2=[]∧readV t=(x,0)):=by
    cases od2 with
    | true=>exact .inl ⟨rfl,readV_none HL.out (HM.out.1.bad rfl rfl)⟩
    | false =>
     have hdec:=(HM.out.1.ok rfl).2
     cases t2 with
     | nil=>exact .inr (.inr ⟨rfl,rfl,readV_ok HL.out hdec⟩)
     | cons y u=>exact .inr (.inl ⟨rfl,⟨y,u,rfl⟩,readV_more HL.out hdec⟩)
   rcases hcase with ⟨rfl,hr⟩ | ⟨rfl,⟨y,u,rfl⟩,hr⟩ | ⟨rfl,rfl,hr⟩
   ·have HR:=Lib.hid (BAD.out hr)
    clear hr BAD p0
    have k1:Blk (World.setCells w2 w.heap.size 0 [.int .i64 0,.int .i64 0,.int .i64 0,.int .i64 0,.int .i64 0,.int .i64 0,.int .i64 0,.int .i64 0,.slice none 0 0,.int .i64 0,.int .i64 0,.slice none 0 0,.slice none 0 0,.slice none 0 0,.slice none 0 0,.slice none 0 0,.slice none 0 0,.int .u8 0,.int .i64 0,.int .i64 0,.int .i64 0,.int .i64 0,.int .i64 0,.int .i64 0,.bool false,.bool false,.bool false,.bool false,.int .i64 0,.int .i64 0,.bool false,.slice none 0 0,.int .u8 0,.int .i64 0,.int .i64 0,.int .i64 0,.int .i64 0,.int .i64 0,.int .i64 0,.int .i64 0,.int .i64 0,.int .i64 0,.int .i64 0,.int .i64 0,.bool false]) w.heap.size 51 (List.toArray [.int .i64 0,.int .i64 0,.int .i64 0,.int .i64 0,.int .i64 0,.int .i64 0,.int .i64 0,.int .i64 0,.slice none 0 0,.int .i64 0,.int .i64 0,.slice none 0 0,.slice none 0 0,.slice none 0 0,.slice none 0 0,.slice none 0 0,.slice none 0 0,.int .u8 0,.int .i64 0,.int .i64 0,.int .i64 0,.int .i64 0,.int .i64 0,.int .i64 0,.bool false,.bool false,.bool false,.bool false,.int .i64 0,.int .i64 0,.bool false,.slice none 0 0,.int .u8 0,.int .i64 0,.int .i64 0,.int .i64 0,.int .i64 0,.int .i64 0,.int .i64 0,.int .i64 0,.int .i64 0,.int .i64 0,.int .i64 0,.int .i64 0,.bool false]):=blk_all HM.out.2.1 (setA_full (by rw [List.size_toArray,HM.out.2.2.2.2];rfl))
    have k2:Blk (World.setCells w2 w.heap.size 0 [.int .i64 0,.int .i64 0,.int .i64 0,.int .i64 0,.int .i64 0,.int .i64 0,.int .i64 0,.int .i64 0,.slice none 0 0,.int .i64 0,.int .i64 0,.slice none 0 0,.slice none 0 0,.slice none 0 0,.slice none 0 0,.slice none 0 0,.slice none 0 0,.int .u8 0,.int .i64 0,.int .i64 0,.int .i64 0,.int .i64 0,.int .i64 0,.int .i64 0,.bool false,.bool false,.bool false,.bool false,.int .i64 0,.int .i64 0,.bool false,.slice none 0 0,.int .u8 0,.int .i64 0,.int .i64 0,.int .i64 0,.int .i64 0,.int .i64 0,.int .i64 0,.int .i64 0,.int .i64 0,.int .i64 0,.int .i64 0,.int .i64 0,.bool false]) (w.heap.size+1) 38 #[.int .i64 0]:=blk_sets_far (by omega) HM.out.2.2.1
    have k3:Below w.heap.size w (World.setCells w2 w.heap.size 0 [.int .i64 0,.int .i64 0,.int .i64 0,.int .i64 0,.int .i64 0,.int .i64 0,.int .i64 0,.int .i64 0,.slice none 0 0,.int .i64 0,.int .i64 0,.slice none 0 0,.slice none 0 0,.slice none 0 0,.slice none 0 0,.slice none 0 0,.slice none 0 0,.int .u8 0,.int .i64 0,.int .i64 0,.int .i64 0,.int .i64 0,.int .i64 0,.int .i64 0,.bool false,.bool false,.bool false,.bool false,.int .i64 0,.int .i64 0,.bool false,.slice none 0 0,.int .u8 0,.int .i64 0,.int .i64 0,.int .i64 0,.int .i64 0,.int .i64 0,.int .i64 0,.int .i64 0,.int .i64 0,.int .i64 0,.int .i64 0,.int .i64 0,.bool false]):=below_sets (Nat.le_refl _) HM.out.2.2.2.1
    go_upto_region 7 with fail
    go_wp2_with (first | (refine wpList_store_mid rfl 51 _ _ rfl w.heap.size 0 (List.toArray [.int .i64 0,.int .i64 0,.int .i64 0,.int .i64 0,.int .i64 0,.int .i64 0,.int .i64 0,.int .i64 0,.slice none 0 0,.int .i64 0,.int .i64 0,.slice none 0 0,.slice none 0 0,.slice none 0 0,.slice none 0 0,.slice none 0 0,.slice none 0 0,.int .u8 0,.int .i64 0,.int .i64 0,.int .i64 0,.int .i64 0,.int .i64 0,.int .i64 0,.bool false,.bool false,.bool false,.bool false,.int .i64 0,.int .i64 0,.bool false,.slice none 0 0,.int .u8 0,.int .i64 0,.int .i64 0,.int .i64 0,.int .i64 0,.int .i64 0,.int .i64 0,.int .i64 0,.int .i64 0,.int .i64 0,.int .i64 0,.int .i64 0,.bool false]) rfl rfl (there_of HM.out.2.1 (by rw [HVS.out];exact Nat.le_of_ble_eq_true rfl)) (by kernel_rfl) (by kernel_rfl) ?_;simp only [List.toList_toArray];generalize World.setCells _ _ _ _=W3 at *;have ch:W3.cell? ⟨w.heap.size+1,0,none⟩=some (.int .i64 0):=k2.cell 0;have fh:=k2.frozen 0;have hK:=Lib.hid (And.intro k1 (And.intro k2 k3));clear k1 k2 k3;(try simp only [Act.put])))
    refine leaves_cons (f:=51) (args:=#[.pointer (some ⟨w.heap.size,0,none⟩),.pointer (some ⟨w.heap.size+1,0,none⟩)]) (by simp) (by simp [go_sem]) ?_
    refine (catch0 w.heap.size (w.heap.size+1) _).mono ?_
    rintro e u' w3 ⟨rfl,rfl,rfl⟩
    exact HR.out _ (hK.out.1.far (p:=⟨w.heap.size+1,0,none⟩) (by simp) _) (hK.out.2.1.set_ 0 _) (hK.out.2.2.setCell (by simp) _) _ rfl rfl
   ·have HR:=Lib.hid (BAD.out hr)
    have p0':w2.cell? ⟨W0.heap.size,0,none⟩=some (.slice X2 (u.length+1) c2):=p0
    have hk0:(0:Int) < (u.length:Int)+1:=by omega
    clear hr BAD p0
    have k1:Blk (World.setCells w2 w.heap.size 0 [.int .i64 0,.int .i64 0,.int .i64 0,.int .i64 0,.int .i64 0,.int .i64 0,.int .i64 0,.int .i64 0,.slice none 0 0,.int .i64 0,.int .i64 0,.slice none 0 0,.slice none 0 0,.slice none 0 0,.slice none 0 0,.slice none 0 0,.slice none 0 0,.int .u8 0,.int .i64 0,.int .i64 0,.int .i64 0,.int .i64 0,.int .i64 0,.int .i64 0,.bool false,.bool false,.bool false,.bool false,.int .i64 0,.int .i64 0,.bool false,.slice none 0 0,.int .u8 0,.int .i64 0,.int .i64 0,.int .i64 0,.int .i64 0,.int .i64 0,.int .i64 0,.int .i64 0,.int .i64 0,.int .i64 0,.int .i64 0,.int .i64 0,.bool false]) w.heap.size 51 (List.toArray [.int .i64 0,.int .i64 0,.int .i64 0,.int .i64 0,.int .i64 0,.int .i64 0,.int .i64 0,.int .i64 0,.slice none 0 0,.int .i64 0,.int .i64 0,.slice none 0 0,.slice none 0 0,.slice none 0 0,.slice none 0 0,.slice none 0 0,.slice none 0 0,.int .u8 0,.int .i64 0,.int .i64 0,.int .i64 0,.int .i64 0,.int .i64 0,.int .i64 0,.bool false,.bool false,.bool false,.bool false,.int .i64 0,.int .i64 0,.bool false,.slice none 0 0,.int .u8 0,.int .i64 0,.int .i64 0,.int .i64 0,.int .i64 0,.int .i64 0,.int .i64 0,.int .i64 0,.int .i64 0,.int .i64 0,.int .i64 0,.int .i64 0,.bool false]):=blk_all HM.out.2.1 (setA_full (by rw [List.size_toArray,HM.out.2.2.2.2];rfl))
    have k2:Blk (World.setCells w2 w.heap.size 0 [.int .i64 0,.int .i64 0,.int .i64 0,.int .i64 0,.int .i64 0,.int .i64 0,.int .i64 0,.int .i64 0,.slice none 0 0,.int .i64 0,.int .i64 0,.slice none 0 0,.slice none 0 0,.slice none 0 0,.slice none 0 0,.slice none 0 0,.slice none 0 0,.int .u8 0,.int .i64 0,.int .i64 0,.int .i64 0,.int .i64 0,.int .i64 0,.int .i64 0,.bool false,.bool false,.bool false,.bool false,.int .i64 0,.int .i64 0,.bool false,.slice none 0 0,.int .u8 0,.int .i64 0,.int .i64 0,.int .i64 0,.int .i64 0,.int .i64 0,.int .i64 0,.int .i64 0,.int .i64 0,.int .i64 0,.int .i64 0,.int .i64 0,.bool false]) (w.heap.size+1) 38 #[.int .i64 0]:=blk_sets_far (by omega) HM.out.2.2.1
    have k3:Below w.heap.size w (World.setCells w2 w.heap.size 0 [.int .i64 0,.int .i64 0,.int .i64 0,.int .i64 0,.int .i64 0,.int .i64 0,.int .i64 0,.int .i64 0,.slice none 0 0,.int .i64 0,.int .i64 0,.slice none 0 0,.slice none 0 0,.slice none 0 0,.slice none 0 0,.slice none 0 0,.slice none 0 0,.int .u8 0,.int .i64 0,.int .i64 0,.int .i64 0,.int .i64 0,.int .i64 0,.int .i64 0,.bool false,.bool false,.bool false,.bool false,.int .i64 0,.int .i64 0,.bool false,.slice none 0 0,.int .u8 0,.int .i64 0,.int .i64 0,.int .i64 0,.int .i64 0,.int .i64 0,.int .i64 0,.int .i64 0,.int .i64 0,.int .i64 0,.int .i64 0,.int .i64 0,.bool false]):=below_sets (Nat.le_refl _) HM.out.2.2.2.1
    go_upto_region 7 with fail
    go_wp2_with (first | (refine wpList_store_mid rfl 51 _ _ rfl w.heap.size 0 (List.toArray [.int .i64 0,.int .i64 0,.int .i64 0,.int .i64 0,.int .i64 0,.int .i64 0,.int .i64 0,.int .i64 0,.slice none 0 0,.int .i64 0,.int .i64 0,.slice none 0 0,.slice none 0 0,.slice none 0 0,.slice none 0 0,.slice none 0 0,.slice none 0 0,.int .u8 0,.int .i64 0,.int .i64 0,.int .i64 0,.int .i64 0,.int .i64 0,.int .i64 0,.bool false,.bool false,.bool false,.bool false,.int .i64 0,.int .i64 0,.bool false,.slice none 0 0,.int .u8 0,.int .i64 0,.int .i64 0,.int .i64 0,.int .i64 0,.int .i64 0,.int .i64 0,.int .i64 0,.int .i64 0,.int .i64 0,.int .i64 0,.int .i64 0,.bool false]) rfl rfl (there_of HM.out.2.1 (by rw [HVS.out];exact Nat.le_of_ble_eq_true rfl)) (by kernel_rfl) (by kernel_rfl) ?_;simp only [List.toList_toArray];generalize World.setCells _ _ _ _=W3 at *;have ch:W3.cell? ⟨w.heap.size+1,0,none⟩=some (.int .i64 0):=k2.cell 0;have fh:=k2.frozen 0;have hK:=Lib.hid (And.intro k1 (And.intro k2 k3));clear k1 k2 k3;(try simp only [Act.put])))
    refine leaves_cons (f:=51) (args:=#[.pointer (some ⟨w.heap.size,0,none⟩),.pointer (some ⟨w.heap.size+1,0,none⟩)]) (by simp) (by simp [go_sem]) ?_
    refine (catch0 w.heap.size (w.heap.size+1) _).mono ?_
    rintro e u' w3 ⟨rfl,rfl,rfl⟩
    exact HR.out _ (hK.out.1.far (p:=⟨w.heap.size+1,0,none⟩) (by simp) _) (hK.out.2.1.set_ 0 _) (hK.out.2.2.setCell (by simp) _) _ rfl rfl
   ·have HR:=Lib.hid hr
    clear hr BAD
    have hr9:w2.rangeAt w.heap.size 0 vs:=range_part (n:=45) HM.out.2.1 (by rw [List.drop_zero,List.toList_toArray,List.take_of_length_le (by rw [HM.out.2.2.2.2];exact Nat.le_refl _)])
    have HRG:=Lib.hid hr9
    have k1:Blk (World.setCells w2 w.heap.size 0 vs) w.heap.size 51 (List.toArray vs):=blk_all HM.out.2.1 (setA_full (by simp))
    have k2:Blk (World.setCells w2 w.heap.size 0 vs) (w.heap.size+1) 38 #[.int .i64 0]:=blk_sets_far (by omega) HM.out.2.2.1
    have k3:FrR w.heap.size (w.heap.size+1) w2 (World.setCells w2 w.heap.size 0 vs):=FrR.sets (FrR.refl _ _ _)
    have p0':w2.cell? ⟨W0.heap.size,0,none⟩=some (.slice X2 0 c2):=p0
    clear hr9 p0
    have HI45:=Lib.hid (show (Try.prog.info? 51).map (·.size)=some vs.length from (by rw [show vs.length=45 from HM.out.2.2.2.2];kernel_rfl))
    go_upto_region 8 with fail
    go_wp2_with (first | (refine wpList_load_mid rfl 51 _ rfl _ _ rfl vs _ HRG.out Try.underlying51 rfl HI45.out ?_) | (refine wpList_store_mid rfl 51 _ _ rfl w.heap.size 0 (List.toArray vs) rfl rfl (there_of HM.out.2.1 (by rw [HVS.out];exact Nat.le_of_ble_eq_true rfl)) (by rw [HVS.out];kernel_rfl) (all_oneCell_toArray HO.out) ?_;simp only [List.toList_toArray];generalize World.setCells _ _ _ _=W3 at *;have ch:W3.cell? ⟨w.heap.size+1,0,none⟩=some (.int .i64 0):=k2.cell 0;have fh:=k2.frozen 0;have hK:=Lib.hid (And.intro k1 (And.intro k2 k3));clear k1 k2 k3;(try simp only [Act.put])))
    refine leaves_cons (f:=51) (args:=#[.pointer (some ⟨w.heap.size,0,none⟩),.pointer (some ⟨w.heap.size+1,0,none⟩)]) (by simp) (by simp [go_sem]) ?_
    refine (catch0 w.heap.size (w.heap.size+1) _).mono ?_
    rintro e u' w3 ⟨rfl,rfl,rfl⟩
    change Leaves Try.prog _ _ _ [] .returning _
    have hfin:FrR w.heap.size (w.heap.size+1) w2 (W3.setCell ⟨w.heap.size+1,0,none⟩ (.int .i64 0)):=hK.out.2.2.set_ (p:=⟨w.heap.size+1,0,none⟩) (.inr (.inl rfl)) _
    refine ⟨_,results_two rfl _ _ w.heap.size (w.heap.size+1) 51 (List.toArray vs) (0,0) _ (.int .i64 0) rfl rfl (hK.out.1.far (p:=⟨w.heap.size+1,0,none⟩) (by simp) _) (Blk.cell (hK.out.2.1.set_ 0 (.int .i64 0)) 0) Try.underlying51 rfl (by rw [HVS.out];kernel_rfl) Try.underlying38,vs,?_,?_,?_⟩
    ·rw [HR.out]
    ·rw [HR.out]
     refine recR.mono (recR.keep HM.out.1.at_ (fun k h1 h2=>hfin.block k h2 ?_ ?_) hfin.size) ?_
     ·have:=HSZ.out;simp at h1;omega
     ·have:=HSZ.out;simp at h1;omega
     ·have:=HSZ.out;simp;omega
    ·exact HM.out.2.2.2.1.trans (hfin.below (Nat.le_refl _) (by omega) HM.out.2.2.2.1.size)
end Go.Proofs.Ytfdldbfjeamlcaa.RecRead
namespace Go.Proofs.Ytfdldbfjeamlcaa.RecAt
open Go.RowKit Mem RecMem RecByte RecNum RecEach RecMath RecCod RecCods RecPort RecCommand RecCmdJ RecVal RecSame RecOwn RecRd RecRByte RecRNum RecREach RecRFlat RecRClass RecRL0 RecRListI RecRAsk RecRJob RecRList RecRListE RecRListP RecRListJ RecRState RecRCmd RecRRec RecRead
theorem slc_of_list {α:Type} {R:Rep α} {e:TypeId} {w:World} {F:Nat} {l:List α} {vs:List Value} (rep:World→α→List Value→Prop) (hrep:∀ x cs,R.At w F x cs→rep w x cs) (h:(listR R e).At w F l vs) :
    ∃ V c,vs=[.slice V l.length c]∧l.length≤c∧c≤maxLen∧SlcAt R.n rep w V l:=by
 obtain ⟨V,c,xs,rfl,ho,hx⟩:=h
 rcases ho.2 with ⟨e1,e2⟩ | ⟨g,cap,cur,e1,e2,e3,e4,e5,e6,e7⟩
 ·obtain rfl:l=[]:=List.eq_nil_of_length_eq_zero e2
  refine ⟨V,c,rfl,by simp,?_,SlcAt.nil⟩
  injection e1 with _ _ e1
  subst e1
  simp [maxLen]
 ·injection e1 with e1 _ e8
  subst e1 e8
  refine ⟨_,c,rfl,e4,e5,fun i x hi=>?_⟩
  have hil:i < l.length:=(List.getElem?_eq_some_iff.1 hi).1
  have hr:=hx i x hi
  refine ⟨g,0,_,rfl,(Array.getElem?_eq_some_iff.1 e3).1,R.len hr,fun j v hj=>?_,hrep _ _ hr⟩
  have hjn:j < R.n:=by rw [← R.len hr];exact (List.getElem?_eq_some_iff.1 hj).1
  rw [List.getElem?_take_of_lt hjn,List.getElem?_drop,← e7] at hj
  have hlt:i*R.n+j < l.length*R.n:=by
   have:(i+1)*R.n≤l.length*R.n:=Nat.mul_le_mul_right _ hil
   rw [Nat.add_mul,Nat.one_mul] at this
   omega
  rw [List.getElem?_take_of_lt hlt] at hj
  rw [cell_of_row w g (0+i*R.n+j) cur e (0,0) e3,Nat.zero_add]
  simpa using hj
theorem ints_of_af {w:World} {F:Nat} {l:List Int} {V:Option Addr} {n c:Nat} (h:afR.At w F l [.slice V n c]):n=l.length∧l.length≤c∧c≤maxLen∧IntsAt w V l:=by
 obtain ⟨V2,c2,e,h1,h2,h3⟩:=slc_of_list (fun w x cs=>cs=[.int .i64 x]) (fun x cs h=>h) h
 injection e with e _
 injection e with e1 e2 e3
 subst e1 e2 e3
 refine ⟨rfl,h1,h2,fun i v hi=>?_⟩
 obtain ⟨b,o,cs,e,g1,g2,g3,g4⟩:=h3 i v hi
 subst g4
 refine ⟨b,o,e,g1,?_⟩
 have:=g3 0 _ rfl
 rwa [Nat.add_zero,show numR.n=1 from rfl,Nat.mul_one] at this
theorem jrep_of {w:World} {F:Nat} {x:JV} {cs:List Value} (h:jobR.At w F x cs):jRep w x cs:=by
 obtain ⟨v1,v2,rfl,⟨v3,v4,rfl,⟨v5,v6,rfl,h5,h6⟩,h4⟩,h2⟩:=h
 obtain ⟨V,c,rfl,hA⟩:=ask_form h6
 have e7:v5=[.int .i64 _]:=h5
 have e8:v4=[.int .u8 _]:=h4
 have e9:v2=[.int .i64 _]:=h2
 subst e7 e8 e9
 obtain ⟨_,g1,_,g2⟩:=ints_of_af hA
 exact ⟨V,c,rfl,g1,g2⟩
theorem state_at {w:World} {F:Nat} {s:SV} {vs:List Value} (h:stateR.At w F s vs):∃ x,vs=sL s x∧StAt w s x:=by
 obtain ⟨a1,b1,rfl,⟨a2,b2,rfl,⟨a3,b3,rfl,⟨a4,b4,rfl,⟨a5,b5,rfl,⟨a6,b6,rfl,⟨a7,b7,rfl,⟨a8,b8,rfl,⟨a9,b9,rfl,⟨a10,b10,rfl,⟨a11,b11,rfl,⟨a12,b12,rfl,⟨a13,b13,rfl,g14,g13⟩,g12⟩,g11⟩,g10⟩,g9⟩,g8⟩,g7⟩,g6⟩,g5⟩,g4⟩,g3⟩,g2⟩,g1⟩:=h
 have e14:a13=n3L _:=g14
 have e13:b13=[.int .i64 _]:=g13
 have e12:b12=[.int .i64 _]:=g12
 have e11:b11=[.int .i64 _]:=g11
 have e10:b10=[.int .i64 _]:=g10
 have e8:b8=[.int .i64 _]:=g8
 have e7:b7=[.int .i64 _]:=g7
 subst e14 e13 e12 e11 e10 e8 e7
 obtain ⟨VC,cC,rfl,lC,mC,hC⟩:=slc_of_list kRep (fun x cs h=>h) g9
 obtain ⟨VJ,cJ,rfl,lJ,mJ,hJ⟩:=slc_of_list jRep (fun x cs h=>jrep_of h) g6
 obtain ⟨VP,cP,rfl,lP,mP,hP⟩:=slc_of_list pRep (fun x cs h=>h) g5
 obtain ⟨VK,cK,rfl,lK,mK,hK⟩:=slc_of_list eRep (fun x cs h=>h) g4
 obtain ⟨VD,cD,xD,rfl,hD⟩:=g3
 obtain ⟨VS,cS,xS,rfl,hS⟩:=g2
 obtain ⟨VU,cU,xU,rfl,hU⟩:=g1
 have iD:=ints_of_af (w:=w) (F:=F) (l:=s.dn) (V:=VD) (n:=s.dn.length) (c:=cD) ⟨VD,cD,xD,rfl,hD⟩
 have iS:=ints_of_af (w:=w) (F:=F) (l:=s.sh) (V:=VS) (n:=s.sh.length) (c:=cS) ⟨VS,cS,xS,rfl,hS⟩
 have iU:=ints_of_af (w:=w) (F:=F) (l:=s.cu) (V:=VU) (n:=s.cu.length) (c:=cU) ⟨VU,cU,xU,rfl,hU⟩
 exact ⟨⟨VC,cC,VJ,cJ,VP,cP,VK,cK,VD,cD,VS,cS,VU,cU⟩,rfl,⟨hC,hJ,hP,hK,iD.2.2.2,iS.2.2.2,iU.2.2.2,lC,lJ,lP,lK,iD.2.1,iS.2.1,iU.2.1⟩⟩
theorem rec_at {w:World} {F:Nat} {r:RV} {vs:List Value} (h:recR.At w F r vs):∃ x Y cy,vs=rL r x Y cy∧StAt w r.s x∧r.c.af.length≤cy∧cy≤maxLen∧IntsAt w Y r.c.af:=by
 obtain ⟨s,c,rfl,h1,Y,cy,rfl,h2⟩:=h
 obtain ⟨x,rfl,hx⟩:=state_at h1
 obtain ⟨_,g1,g2,g3⟩:=ints_of_af h2
 exact ⟨x,Y,cy,rfl,hx,g1,g2,g3⟩
end Go.Proofs.Ytfdldbfjeamlcaa.RecAt
namespace Go.Proofs.Ytfdldbfjeamlcaa.RecAll
open Go.RowKit Mem RecMem RecByte RecNum RecEach RecMath RecCod RecCods RecPort RecCommand RecCmdJ RecVal RecSame RecWr0 RecWrite RecOwn RecRecC RecWAt RecWOk RecSameA RecWrite0 RecWriteC RecWriteL RecWriteS RecRd RecRRec RecRead RecAt
structure RFacts (r:RV):Prop where
 hs:SWf r.s
 hc:CWf r.c
 hg:W64 r.g
 ht:RTop r
 hL:r.c.af.length≤17592186044416
structure RIs (w:World) (r:RV) (x:SA) (Y:Option Addr) (cy:Nat):Prop where
 st:StAt w r.s x
 af:IntsAt w Y r.c.af
 cap:r.c.af.length≤cy
theorem RIs.up {w w':World} {r:RV} {x:SA} {Y:Option Addr} {cy:Nat} (h:RIs w r x Y cy) (hB:Below w.heap.size w w'):RIs w' r x Y cy:=⟨h.st.up hB,h.af.up hB,h.cap⟩
theorem RIs.z {w:World} : RIs w RV.z SA.z none 0:=⟨StAt.z,IntsAt.nil,Nat.le_refl _⟩
theorem z_facts:RFacts RV.z:=⟨z_wf,zc_wf,z64,⟨Nat.zero_le _,Nat.zero_le _,Nat.zero_le _,Nat.zero_le _,Nat.zero_le _,Nat.zero_le _,Nat.zero_le _,(fun j hj=>by cases hj),Nat.zero_le _⟩,Nat.zero_le _⟩
theorem u8_of {x:Int} (h:0≤x∧x < 256):W8 x:=by
 show (Lit.int .u8 x).wf=true
 simp [Lit.wf,IntKind.min,IntKind.max,IntKind.signed,IntKind.bits]
 omega
theorem class_wf {x:KV} (h:classC.ok x):KWf x:=⟨h.1.1.1,h.1.1.2,h.1.2,h.2⟩
theorem ask_wf {x:QV} (h:askC.ok x):QWf x∧x.af.length≤1000:=by
 obtain ⟨⟨⟨⟨⟨⟨x2,x3⟩,⟨⟨⟨⟨x4,x5⟩,x6⟩,_⟩,_⟩⟩,x7⟩,x8⟩,_⟩,hl,hw⟩:=h
 exact ⟨⟨x2,x3,x4,x5,x6,x7,x8,hw⟩,hl⟩
theorem job_wf {x:JV} (h:jobC.ok x):JWf x∧x.q.af.length≤1000:=by
 obtain ⟨⟨⟨h1,h2⟩,h3⟩,h4⟩:=h
 exact ⟨⟨h1,(ask_wf h2).1,u8_of h3,h4⟩,(ask_wf h2).2⟩
theorem part_wf {x:PV} (h:partC.ok x):PWf x:=by
 obtain ⟨⟨⟨⟨h1,⟨⟨⟨⟨h2,h3⟩,h4⟩,⟨⟨h5,h6⟩,h7⟩⟩,_⟩⟩,h8⟩,h9⟩,h10⟩:=h
 exact ⟨h1,h2,h3,h4,h5,h6,h7,u8_of h8,h9,h10⟩
theorem keep_wf {x:EV} (h:keepC.ok x):EWf x:=by
 obtain ⟨⟨h1,⟨⟨⟨h2,h3⟩,h4⟩,⟨⟨h5,h6⟩,h7⟩⟩⟩,⟨h8,h9⟩⟩:=h
 exact ⟨h1,h2,h3,h4,h5,h6,h7,h8,h9⟩
theorem state_wf {s:SV} (h:stateC.ok s):SWf s∧s.cs.length≤1000∧s.js.length≤1000∧s.ps.length≤1000∧s.ks.length≤1000∧s.dn.length≤1000∧s.sh.length≤1000∧s.cu.length≤1000∧∀ j ∈ s.js,j.q.af.length≤1000:=by
 obtain ⟨⟨⟨⟨⟨⟨⟨⟨⟨⟨⟨⟨⟨⟨⟨w1,w2⟩,w3⟩,w4⟩,w5⟩,w6⟩,w7⟩,h1⟩,w8⟩,w9⟩,h2⟩,h3⟩,h4⟩,h5⟩,h6⟩,h7⟩:=h
 exact ⟨⟨⟨w1,w2,w3,w4,w5,w6,w7,w8,w9⟩,fun x hx=>class_wf (h1.2 x hx),fun x hx=>(job_wf (h2.2 x hx)).1,fun x hx=>part_wf (h3.2 x hx),fun x hx=>keep_wf (h4.2 x hx),h5.2,h6.2,h7.2⟩,
  h1.1,h2.1,h3.1,h4.1,h5.1,h6.1,h7.1,fun x hx=>(job_wf (h2.2 x hx)).2⟩
theorem ok_facts {r:RV} (h:okR r):RFacts r:=by
 obtain ⟨hg,h0,h1⟩:=h
 have hw:W64 r.g:=i64_mk (by omega)
 by_cases e:r.g=0
 ·obtain ⟨⟨_,_,hc,hl⟩,hs⟩:=h0 e
  obtain ⟨g,s,c⟩:=r
  simp only at hs hc hl
  subst hs
  exact ⟨z_wf,hc,hw,⟨Nat.zero_le _,Nat.zero_le _,Nat.zero_le _,Nat.zero_le _,Nat.zero_le _,Nat.zero_le _,Nat.zero_le _,(fun j hj=>by cases hj),by show c.af.length≤_;omega⟩,by show c.af.length≤_;omega⟩
 ·obtain ⟨hc,hs⟩:=h1 e
  obtain ⟨g,s,c⟩:=r
  simp only at hc hs
  subst hc
  obtain ⟨a,b1,b2,b3,b4,b5,b6,b7,b8⟩:=state_wf hs
  exact ⟨a,zc_wf,hw,⟨by show s.cs.length≤_;omega,by show s.js.length≤_;omega,by show s.ps.length≤_;omega,by show s.ks.length≤_;omega,by show s.dn.length≤_;omega,by show s.sh.length≤_;omega,by show s.cu.length≤_;omega,(fun j hj=>by have:=b8 j hj;omega),Nat.zero_le _⟩,Nat.zero_le _⟩
structure WV (r:RV) (v:Int):Prop where
 ok:v=0↔okR r∧(recB r).length≤65536
 any:v=0∨v=4∨v=8
 bad:v=8↔¬ okR r
theorem write_any (r:RV) (x:SA) (Y:Option Addr) (cy:Nat) (F:RFacts r) (w:World) (h:RIs w r x Y cy):Calls Try.prog 17 #[.agg (rL r x Y cy).toArray] w fun e w' => WrPost r w e w':=by
 by_cases h0:r.g=0
 ·by_cases hn:(own r.c).af.length≤1000
  ·exact wwriteC r x Y cy F.hs F.hc F.hg F.ht F.hL w h.st h.af h0 hn
  ·exact wwriteL r x Y cy F.hs F.hc F.hg F.ht F.hL w h.st h.af h0 hn
 ·exact wwriteS r x Y cy F.hs F.hc F.hg F.ht F.hL w h.st h.af h0
theorem write_v (r:RV) (x:SA) (Y:Option Addr) (cy:Nat) (F:RFacts r) (w:World) (h:RIs w r x Y cy):Calls Try.prog 17 #[.agg (rL r x Y cy).toArray] w fun e w' =>
    (∃ X n cc v,e = .returned (.tuple #[.slice X n cc,.int .i64 v])∧WV r v∧n≤cc∧cc≤maxLen∧(v≠0→n=0)∧(v=0→n=(recB r).length∧BytesAt w' X (recB r)))∧Below w.heap.size w w':=by
 refine (write_any r x Y cy F w h).mono ?_
 rintro e w' ⟨⟨h1,h2,X,n,cc,rfl,h3,h4,h5,h6⟩ | ⟨h1,rfl⟩ | ⟨h1,h2,rfl⟩,hB⟩
 ·exact ⟨⟨X,n,cc,0,rfl,⟨⟨fun _=>⟨h1,h2⟩,fun _=>rfl⟩,.inl rfl,⟨fun e=>(by cases e),fun e=>absurd h1 e⟩⟩,h4,h5,fun e=>absurd rfl e,fun _=>⟨h3,h6⟩⟩,hB⟩
 ·exact ⟨⟨none,0,0,8,rfl,⟨⟨fun e=>(by cases e),fun e=>absurd e.1 h1⟩,.inr (.inr rfl),⟨fun _=>h1,fun _=>rfl⟩⟩,Nat.le_refl _,Nat.zero_le _,fun _=>rfl,fun e=>(by cases e)⟩,hB⟩
 ·exact ⟨⟨none,0,0,4,rfl,⟨⟨fun e=>(by cases e),fun e=>absurd e.2 (by omega)⟩,.inr (.inl rfl),⟨fun e=>(by cases e),fun e=>absurd h1 e⟩⟩,Nat.le_refl _,Nat.zero_le _,fun _=>rfl,fun e=>(by cases e)⟩,hB⟩
theorem txt_of {w:World} {X:Option Addr} {n:Nat} {t:Bs} (h:Reads w w.heap.size 1 X n (t.map (Value.int .u8))):TxtAt w X t:=fun i x hi=>by
 have hl:i < t.length:=(List.getElem?_eq_some_iff.1 hi).1
 have hn:0 < n:=by have:=h.1;simp at this;omega
 obtain ⟨b,o,e,hb,hc⟩:=h.flat hn
 exact ⟨b,o,e,hb,hc i _ (by rw [List.getElem?_map,hi];rfl)⟩
theorem oct_of {t:Bs} (h:∀ n ∈ t,(Lit.int .u8 n).wf=true):Oct t:=fun n hn=>u8_in (h n hn)
theorem txt_bytes {w:World} {X:Option Addr} {t:Bs} (h:TxtAt w X t):BytesAt w X t:=by
 refine ⟨by simp,fun hn=>?_⟩
 obtain ⟨b,o,e,hb,_⟩:=h 0 t[0] (List.getElem?_eq_getElem hn)
 refine ⟨_,e,hb,fun j u hu=>?_⟩
 rw [List.getElem?_map] at hu
 cases hj:t[j]? with
 | none=>rw [hj] at hu;cases hu
 | some v =>
  rw [hj] at hu
  cases hu
  obtain ⟨b',o',e',_,x⟩:=h j v hj
  rw [e] at e'
  cases e'
  rw [add_flat]
  exact x
theorem readV_cases (t:Bs) (ho:Oct t):((readV t).2=0∧okR (readV t).1∧t=recB (readV t).1∧t.length≤65536)∨((readV t).1=RV.z∧((readV t).2=4∧65536 < t.length∨(readV t).2=8∧t.length≤65536)):=by
 by_cases hl:65536 < t.length
 ·rw [readV_long hl];exact .inr ⟨rfl,.inl ⟨rfl,hl⟩⟩
 ·cases hd:recDec t with
  | none=>rw [readV_none hl hd];exact .inr ⟨rfl,.inr ⟨rfl,by omega⟩⟩
  | some p =>
   obtain ⟨r,u⟩:=p
   cases u with
   | nil =>
    rw [readV_ok hl hd]
    obtain ⟨h1,h2⟩:=rec_good.only t r [] ho hd
    refine .inl ⟨rfl,h1,?_,by omega⟩
    rw [List.append_nil] at h2
    exact h2
   | cons y u=>rw [readV_more hl hd];exact .inr ⟨rfl,.inr ⟨rfl,by omega⟩⟩
theorem readV_facts (t:Bs) (ho:Oct t):RFacts (readV t).1:=by
 rcases readV_cases t ho with ⟨_,h,_⟩ | ⟨h,_⟩
 ·exact ok_facts h
 ·rw [h];exact z_facts
theorem recB_oct {r:RV} (h:okR r):Oct (recB r):=rec_good.oct r h
end Go.Proofs.Ytfdldbfjeamlcaa.RecAll
namespace Go.Proofs.Ytfdldbfjeamlcaa.RecF1
set_option maxRecDepth 100000
set_option maxHeartbeats 4000000
open Go.RowKit RecGuard Mem RecMem RecByte RecNum RecEach RecMath RecCommand RecCmdJ RecEq RecKeys RecEqA RecJobs RecJobsA RecVal RecEqual RecEqual2 RecEqJ RecCfgs RecSame RecOwn RecSameA
theorem rints28 (X Y:Option Addr) (c d:Nat) (l m:List Int) (hl:l.length≤9223372036854775807) (hm:m.length≤9223372036854775807) (w:World) (hX:IntsAt w X l) (hY:IntsAt w Y m) :
    Calls Try.prog 91 #[.slice X l.length c,.slice Y m.length d] w fun e w' => e = .returned (.bool (decide (l=m)))∧Below w.heap.size w w':=by
 obtain ⟨V,hV⟩:∃ V,V=decide (l=m):=⟨_,rfl⟩
 rw [← hV]
 have HV:=Lib.hid hV
 have HX:=Lib.hid hX
 have HY:=Lib.hid hY
 clear hV hX hY
 by_cases hn:l.length=m.length
 ·have hn':((l.length:Int) != (m.length:Int))=false:=by simp [hn]
  have HN:=Lib.hid hn
  have hle:(l.length:Int)≤(m.length:Int):=by omega
  clear hn
  go_enter Try.func91,Try.ntmps91
  go_wp2_with fail
  go_loopw [5] (fun i wr=>∃ k:Nat,k≤l.length∧i = .int .i64 k∧Hid (∀ (j:Nat) (x y:Int),j < k→l[j]? = some x→m[j]? = some y→x=y)∧Hid (Below w.heap.size w wr))
   (fun i _=>l.length - (intOf i).toNat)
  case atStart=>exact ⟨0,Nat.zero_le _,rfl,(fun j x y h=>by omega),Below.refl _ _⟩
  case round =>
   obtain ⟨k,hk,rfl,hP,hB⟩:=hrel
   by_cases hlt:k < l.length
   ·have hg:l[k]? = some l[k]:=List.getElem?_eq_getElem hlt
    generalize l[k]=x at hg
    have hkm:k < m.length:=by have:=HN.out;omega
    have hg2:m[k]? = some m[k]:=List.getElem?_eq_getElem hkm
    generalize m[k]=y at hg2
    have hki:(k:Int) < (l.length:Int):=by omega
    have hki2:(k:Int) < (m.length:Int):=by omega
    have hki0:(0:Int)≤(k:Int):=by omega
    obtain ⟨b,o,rfl,hb,y0⟩:=IntsAt.up HX.out hB.out k x hg
    obtain ⟨b',o',rfl,hb',z0⟩:=IntsAt.up HY.out hB.out k y hg2
    have HG:=Lib.hid (And.intro hg hg2)
    clear hg hg2
    by_cases he:x=y
    ·have he':(x != y)=false:=by simp [he]
     have HE:=Lib.hid he
     clear he
     go_wp2_with fail
     go_quiet (fail)
     go_wp2_with fail
     go_roundw
     case rel=>exact ⟨k+1,by omega,by go_num,(fun j u v hj hu hv=>by
         rcases Nat.lt_or_ge j k with h | h
         ·exact hP.out j u v h hu hv
         ·obtain rfl:j=k:=by omega
          rw [HG.out.1] at hu;rw [HG.out.2] at hv;cases hu;cases hv;exact HE.out),Mem.below_drewN hB.out _⟩
     case measure=>simp [intOf];omega
    ·have he':(x != y)=true:=by simp [he]
     have ev:V=false:=by rw [HV.out];exact decide_eq_false (list_ne HG.out.1 HG.out.2 he)
     have EV:=Lib.hid ev
     clear he ev
     go_wp2_with fail
     go_quiet (fail)
     go_wp2_with fail
     go_ret
     rw [EV.out]
     exact ⟨rfl,Mem.below_drewN hB.out _⟩
   ·obtain rfl:k=l.length:=by omega
    have ev:V=true:=by rw [HV.out];exact decide_eq_true (list_eq HN.out hP.out)
    have EV:=Lib.hid ev
    clear ev
    go_wp2_with fail
    go_ret
    rw [EV.out]
    exact ⟨rfl,hB.out⟩
 ·have hn':((l.length:Int) != (m.length:Int))=true:=by simp;omega
  have ev:V=false:=by rw [HV.out];exact decide_eq_false fun e=>hn (by rw [e])
  have EV:=Lib.hid ev
  clear hn ev
  go_enter Try.func91,Try.ntmps91
  go_wp2_with fail
  go_ret
  rw [EV.out]
  exact ⟨rfl,Below.refl _ _⟩
theorem rsameJob28 (c d:CV) (Y Z:Option Addr) (cy cz:Nat) (hc:CWf c) (hd:CWf d) (hl:c.af.length≤9223372036854775807) (hm:d.af.length≤9223372036854775807) (w:World) (hY:IntsAt w Y c.af) (hZ:IntsAt w Z d.af) :
    Calls Try.prog 58 #[.agg #[.int .i64 c.id,.int .i64 c.us,.int .i64 c.cl,.int .i64 c.a,.int .i64 c.b,.int .i64 c.c,.bool c.p,.bool c.q,.bool c.r,.bool c.tn,.int .i64 c.wa,.int .i64 c.pr,.bool c.he,.slice Y c.af.length cy,.int .u8 c.st,.int .i64 c.ca],.agg #[.int .i64 d.id,.int .i64 d.us,.int .i64 d.cl,.int .i64 d.a,.int .i64 d.b,.int .i64 d.c,.bool d.p,.bool d.q,.bool d.r,.bool d.tn,.int .i64 d.wa,.int .i64 d.pr,.bool d.he,.slice Z d.af.length cz,.int .u8 d.st,.int .i64 d.ca]] w fun e w' => e = .returned (.bool (jobB c d))∧Below w.heap.size w w':=by
 have qw:=eq_wants hc hd
 have HYZ:=Lib.hid (And.intro hY hZ)
 clear hY hZ hc hd
 have KA:=Lib.hid ((Blk.new w 28 #[.int .i64 c.id,.int .i64 c.us,.int .i64 c.cl,.int .i64 c.a,.int .i64 c.b,.int .i64 c.c,.bool c.p,.bool c.q,.bool c.r,.bool c.tn,.int .i64 c.wa,.int .i64 c.pr,.bool c.he,.slice Y c.af.length cy,.int .u8 c.st,.int .i64 c.ca]).alloc (.cells #[.int .i64 d.id,.int .i64 d.us,.int .i64 d.cl,.int .i64 d.a,.int .i64 d.b,.int .i64 d.c,.bool d.p,.bool d.q,.bool d.r,.bool d.tn,.int .i64 d.wa,.int .i64 d.pr,.bool d.he,.slice Z d.af.length cz,.int .u8 d.st,.int .i64 d.ca] 28))
 have KB:=Lib.hid (blk1 w 28 #[.int .i64 d.id,.int .i64 d.us,.int .i64 d.cl,.int .i64 d.a,.int .i64 d.b,.int .i64 d.c,.bool d.p,.bool d.q,.bool d.r,.bool d.tn,.int .i64 d.wa,.int .i64 d.pr,.bool d.he,.slice Z d.af.length cz,.int .u8 d.st,.int .i64 d.ca] (o:=.cells #[.int .i64 c.id,.int .i64 c.us,.int .i64 c.cl,.int .i64 c.a,.int .i64 c.b,.int .i64 c.c,.bool c.p,.bool c.q,.bool c.r,.bool c.tn,.int .i64 c.wa,.int .i64 c.pr,.bool c.he,.slice Y c.af.length cy,.int .u8 c.st,.int .i64 c.ca] 28))
 have HB:=Lib.hid (below_alloc (o:=.cells #[.int .i64 d.id,.int .i64 d.us,.int .i64 d.cl,.int .i64 d.a,.int .i64 d.b,.int .i64 d.c,.bool d.p,.bool d.q,.bool d.r,.bool d.tn,.int .i64 d.wa,.int .i64 d.pr,.bool d.he,.slice Z d.af.length cz,.int .u8 d.st,.int .i64 d.ca] 28) (below_alloc (o:=.cells #[.int .i64 c.id,.int .i64 c.us,.int .i64 c.cl,.int .i64 c.a,.int .i64 c.b,.int .i64 c.c,.bool c.p,.bool c.q,.bool c.r,.bool c.tn,.int .i64 c.wa,.int .i64 c.pr,.bool c.he,.slice Y c.af.length cy,.int .u8 c.st,.int .i64 c.ca] 28) (Below.refl w.heap.size w)))
 go_enter Try.func58,Try.ntmps58
 cases e0:(c.id == d.id)
 ·go_wp2_with fail
  go_ret
  exact ⟨by rw [show jobB c d=false from by simp only [jobB,e0,Bool.true_and,Bool.false_and,Bool.and_false,Bool.and_true]];rfl,HB.out⟩
 ·cases e1:(c.us == d.us)
  ·go_wp2_with fail
   go_ret
   exact ⟨by rw [show jobB c d=false from by simp only [jobB,e0,e1,Bool.true_and,Bool.false_and,Bool.and_false,Bool.and_true]];rfl,HB.out⟩
  ·cases e2:(c.cl == d.cl)
   ·go_wp2_with fail
    go_ret
    exact ⟨by rw [show jobB c d=false from by simp only [jobB,e0,e1,e2,Bool.true_and,Bool.false_and,Bool.and_false,Bool.and_true]];rfl,HB.out⟩
   ·cases e3:wantsB c d
    ·go_wp2_with fail
     go_ret
     exact ⟨by rw [show jobB c d=false from by simp only [jobB,e0,e1,e2,e3,Bool.true_and,Bool.false_and,Bool.and_false,Bool.and_true]];rfl,HB.out⟩
    ·cases e4:(c.wa == d.wa)
     ·go_wp2_with fail
      go_ret
      exact ⟨by rw [show jobB c d=false from by simp only [jobB,e0,e1,e2,e3,e4,Bool.true_and,Bool.false_and,Bool.and_false,Bool.and_true]];rfl,HB.out⟩
     ·cases e5:(c.pr == d.pr)
      ·go_wp2_with fail
       go_ret
       exact ⟨by rw [show jobB c d=false from by simp only [jobB,e0,e1,e2,e3,e4,e5,Bool.true_and,Bool.false_and,Bool.and_false,Bool.and_true]];rfl,HB.out⟩
      ·cases e6:(c.he == d.he)
       ·go_wp2_with fail
        go_ret
        exact ⟨by rw [show jobB c d=false from by simp only [jobB,e0,e1,e2,e3,e4,e5,e6,Bool.true_and,Bool.false_and,Bool.and_false,Bool.and_true]];rfl,HB.out⟩
       ·go_wp2_with fail
        refine (rints28 Y Z cy cz c.af d.af hl hm _ (HYZ.out.1.up HB.out) (HYZ.out.2.up HB.out)).mono ?_
        rintro e w1 ⟨rfl,hB1⟩
        have KA1:=KA.out.below hB1 KA.out.lt
        have KB1:=KB.out.below hB1 KB.out.lt
        have HB1:=Lib.hid (below_up HB.out hB1)
        clear hB1
        have a14:w1.cell? ⟨w.heap.size,14,none⟩=some (.int .u8 c.st):=KA1.cell 14
        have a15:w1.cell? ⟨w.heap.size,15,none⟩=some (.int .i64 c.ca):=KA1.cell 15
        have b14:w1.cell? ⟨w.heap.size+1,14,none⟩=some (.int .u8 d.st):=KB1.cell 14
        have b15:w1.cell? ⟨w.heap.size+1,15,none⟩=some (.int .i64 d.ca):=KB1.cell 15
        clear KA1 KB1 KA KB HB
        cases e7:decide (c.af=d.af)
        ·go_wp2_with fail
         go_ret
         exact ⟨by rw [show jobB c d=false from by simp only [jobB,e0,e1,e2,e3,e4,e5,e6,e7,Bool.true_and,Bool.false_and,Bool.and_false,Bool.and_true]];rfl,HB1.out⟩
        ·cases e8:(c.st == d.st)
         ·go_wp2_with fail
          go_ret
          exact ⟨by rw [show jobB c d=false from by simp only [jobB,e0,e1,e2,e3,e4,e5,e6,e7,e8,Bool.true_and,Bool.false_and,Bool.and_false,Bool.and_true]];rfl,HB1.out⟩
         ·go_wp2_with fail
          go_ret
          exact ⟨by rw [show jobB c d=(c.ca == d.ca) from by simp only [jobB,e0,e1,e2,e3,e4,e5,e6,e7,e8,Bool.true_and,Bool.false_and,Bool.and_false,Bool.and_true]];rfl,HB1.out⟩
theorem rsameJobV (x y:JV) (Y Z:Option Addr) (cy cz:Nat) (B:Bool) (hB:decide (x=y)=B) (hx:JWf x) (hy:JWf y) (hl:x.q.af.length≤9223372036854775807) (hm:y.q.af.length≤9223372036854775807) (w:World) (hY:IntsAt w Y x.q.af) (hZ:IntsAt w Z y.q.af) :
    Calls Try.prog 58 #[.agg (jL x Y cy).toArray,.agg (jL y Z cz).toArray] w fun e w' => e = .returned (.bool B)∧Below w.heap.size w w':=by
 have:=rsameJob28 (cvOf x) (cvOf y) Y Z cy cz (cvOf_wf hx) (cvOf_wf hy) hl hm w hY hZ
 rw [jobB_eq,hB] at this
 exact this
end Go.Proofs.Ytfdldbfjeamlcaa.RecF1
namespace Go.Proofs.Ytfdldbfjeamlcaa.RecF2
set_option maxRecDepth 100000
set_option maxHeartbeats 4000000
open Go.RowKit RecGuard Mem RecMem RecByte RecNum RecEach RecMath RecCommand RecCmdJ RecEq RecKeys RecEqA RecJobs RecJobsA RecVal RecEqual RecEqual2 RecEqJ RecCfgs RecSame RecOwn RecSameA RecF1
theorem rsameCmd28 (c d:CV) (Y Z:Option Addr) (cy cz:Nat) (hc:CWf c) (hd:CWf d) (hl:c.af.length≤9223372036854775807) (hm:d.af.length≤9223372036854775807) (w:World) (hY:IntsAt w Y c.af) (hZ:IntsAt w Z d.af) :
    Calls Try.prog 24 #[.agg (cL c Y cy).toArray,.agg (cL d Z cz).toArray] w fun e w' => e = .returned (.bool (decide (c=d)))∧Below w.heap.size w w':=by
 have HYZ:=Lib.hid (And.intro hY hZ)
 have HW:=Lib.hid (And.intro hc hd)
 have HV:=Lib.hid (cv_eq c d)
 clear hY hZ hc hd
 go_enter Try.func24,Try.ntmps24
 go_upto_region 1 with fail
 have KA:=Lib.hid ((Blk.new w 34 (cL c Y cy).toArray).alloc (.cells (cL d Z cz).toArray 34))
 have KB:=Lib.hid (blk1 w 34 (cL d Z cz).toArray (o:=.cells (cL c Y cy).toArray 34))
 have HB:=Lib.hid (below_alloc (o:=.cells (cL d Z cz).toArray 34) (below_alloc (o:=.cells (cL c Y cy).toArray 34) (Below.refl w.heap.size w)))
 generalize (w.alloc (.cells (cL c Y cy).toArray 34)).alloc (.cells (cL d Z cz).toArray 34)=WB at *
 have p0:WB.cell? ⟨w.heap.size,0,none⟩=some (.int .u8 c.kd):=KA.out.cell 0
 have p1:WB.cell? ⟨w.heap.size,1,none⟩=some (.int .i64 c.id):=KA.out.cell 1
 have p2:WB.cell? ⟨w.heap.size,2,none⟩=some (.int .i64 c.us):=KA.out.cell 2
 have p3:WB.cell? ⟨w.heap.size,3,none⟩=some (.int .i64 c.cl):=KA.out.cell 3
 have p4:WB.cell? ⟨w.heap.size,4,none⟩=some (.int .i64 c.a):=KA.out.cell 4
 have p5:WB.cell? ⟨w.heap.size,5,none⟩=some (.int .i64 c.b):=KA.out.cell 5
 have p6:WB.cell? ⟨w.heap.size,6,none⟩=some (.int .i64 c.c):=KA.out.cell 6
 have p7:WB.cell? ⟨w.heap.size,7,none⟩=some (.bool c.p):=KA.out.cell 7
 have p8:WB.cell? ⟨w.heap.size,8,none⟩=some (.bool c.q):=KA.out.cell 8
 have p9:WB.cell? ⟨w.heap.size,9,none⟩=some (.bool c.r):=KA.out.cell 9
 have p10:WB.cell? ⟨w.heap.size,10,none⟩=some (.bool c.tn):=KA.out.cell 10
 have p11:WB.cell? ⟨w.heap.size,11,none⟩=some (.int .i64 c.wa):=KA.out.cell 11
 have p12:WB.cell? ⟨w.heap.size,12,none⟩=some (.int .i64 c.pr):=KA.out.cell 12
 have p13:WB.cell? ⟨w.heap.size,13,none⟩=some (.bool c.he):=KA.out.cell 13
 have p14:WB.cell? ⟨w.heap.size,14,none⟩=some (.slice Y c.af.length cy):=KA.out.cell 14
 have p15:WB.cell? ⟨w.heap.size,15,none⟩=some (.int .u8 c.st):=KA.out.cell 15
 have p16:WB.cell? ⟨w.heap.size,16,none⟩=some (.int .i64 c.ca):=KA.out.cell 16
 have q0:WB.cell? ⟨w.heap.size+1,0,none⟩=some (.int .u8 d.kd):=KB.out.cell 0
 have q1:WB.cell? ⟨w.heap.size+1,1,none⟩=some (.int .i64 d.id):=KB.out.cell 1
 have q2:WB.cell? ⟨w.heap.size+1,2,none⟩=some (.int .i64 d.us):=KB.out.cell 2
 have q3:WB.cell? ⟨w.heap.size+1,3,none⟩=some (.int .i64 d.cl):=KB.out.cell 3
 have q4:WB.cell? ⟨w.heap.size+1,4,none⟩=some (.int .i64 d.a):=KB.out.cell 4
 have q5:WB.cell? ⟨w.heap.size+1,5,none⟩=some (.int .i64 d.b):=KB.out.cell 5
 have q6:WB.cell? ⟨w.heap.size+1,6,none⟩=some (.int .i64 d.c):=KB.out.cell 6
 have q7:WB.cell? ⟨w.heap.size+1,7,none⟩=some (.bool d.p):=KB.out.cell 7
 have q8:WB.cell? ⟨w.heap.size+1,8,none⟩=some (.bool d.q):=KB.out.cell 8
 have q9:WB.cell? ⟨w.heap.size+1,9,none⟩=some (.bool d.r):=KB.out.cell 9
 have q10:WB.cell? ⟨w.heap.size+1,10,none⟩=some (.bool d.tn):=KB.out.cell 10
 have q11:WB.cell? ⟨w.heap.size+1,11,none⟩=some (.int .i64 d.wa):=KB.out.cell 11
 have q12:WB.cell? ⟨w.heap.size+1,12,none⟩=some (.int .i64 d.pr):=KB.out.cell 12
 have q13:WB.cell? ⟨w.heap.size+1,13,none⟩=some (.bool d.he):=KB.out.cell 13
 have q14:WB.cell? ⟨w.heap.size+1,14,none⟩=some (.slice Z d.af.length cz):=KB.out.cell 14
 have q15:WB.cell? ⟨w.heap.size+1,15,none⟩=some (.int .u8 d.st):=KB.out.cell 15
 have q16:WB.cell? ⟨w.heap.size+1,16,none⟩=some (.int .i64 d.ca):=KB.out.cell 16
 have qb:=eq_box HW.out.1 HW.out.2
 have qs:=eq_span HW.out.1 HW.out.2
 have HJ:=Lib.hid (rsameJob28 c d Y Z cy cz HW.out.1 HW.out.2 hl hm WB (HYZ.out.1.up HB.out) (HYZ.out.2.up HB.out))
 cases e0:(c.kd == d.kd)
 ·go_wp2_with fail
  go_ret
  exact ⟨by rw [HV.out];simp only [e0,Bool.true_and,Bool.false_and];rfl,HB.out⟩
 ·go_wp2_with fail
  refine HJ.out.mono ?_
  rintro e wd ⟨rfl,hBd⟩
  have k5:=KA.out.below hBd KA.out.lt
  have k6:=KB.out.below hBd KB.out.lt
  have HBd:=Lib.hid (below_up HB.out hBd)
  clear p0 q0 p1 q1 p2 q2 p3 q3 p4 q4 p5 q5 p6 q6 p7 q7 p8 q8 p9 q9 p10 q10 p11 q11 p12 q12 p13 q13 p14 q14 p15 q15 p16 q16
  have p17:wd.cell? ⟨w.heap.size,17,none⟩=some (.int .i64 c.ci):=k5.cell 17
  have p18:wd.cell? ⟨w.heap.size,18,none⟩=some (.int .i64 c.b0):=k5.cell 18
  have p19:wd.cell? ⟨w.heap.size,19,none⟩=some (.int .i64 c.b1):=k5.cell 19
  have p20:wd.cell? ⟨w.heap.size,20,none⟩=some (.int .i64 c.b2):=k5.cell 20
  have p21:wd.cell? ⟨w.heap.size,21,none⟩=some (.int .i64 c.b3):=k5.cell 21
  have p22:wd.cell? ⟨w.heap.size,22,none⟩=some (.int .i64 c.b4):=k5.cell 22
  have p23:wd.cell? ⟨w.heap.size,23,none⟩=some (.int .i64 c.b5):=k5.cell 23
  have p24:wd.cell? ⟨w.heap.size,24,none⟩=some (.int .i64 c.fr):=k5.cell 24
  have p25:wd.cell? ⟨w.heap.size,25,none⟩=some (.int .i64 c.to):=k5.cell 25
  have p26:wd.cell? ⟨w.heap.size,26,none⟩=some (.int .i64 c.n):=k5.cell 26
  have p27:wd.cell? ⟨w.heap.size,27,none⟩=some (.bool c.we):=k5.cell 27
  have q17:wd.cell? ⟨w.heap.size+1,17,none⟩=some (.int .i64 d.ci):=k6.cell 17
  have q18:wd.cell? ⟨w.heap.size+1,18,none⟩=some (.int .i64 d.b0):=k6.cell 18
  have q19:wd.cell? ⟨w.heap.size+1,19,none⟩=some (.int .i64 d.b1):=k6.cell 19
  have q20:wd.cell? ⟨w.heap.size+1,20,none⟩=some (.int .i64 d.b2):=k6.cell 20
  have q21:wd.cell? ⟨w.heap.size+1,21,none⟩=some (.int .i64 d.b3):=k6.cell 21
  have q22:wd.cell? ⟨w.heap.size+1,22,none⟩=some (.int .i64 d.b4):=k6.cell 22
  have q23:wd.cell? ⟨w.heap.size+1,23,none⟩=some (.int .i64 d.b5):=k6.cell 23
  have q24:wd.cell? ⟨w.heap.size+1,24,none⟩=some (.int .i64 d.fr):=k6.cell 24
  have q25:wd.cell? ⟨w.heap.size+1,25,none⟩=some (.int .i64 d.to):=k6.cell 25
  have q26:wd.cell? ⟨w.heap.size+1,26,none⟩=some (.int .i64 d.n):=k6.cell 26
  have q27:wd.cell? ⟨w.heap.size+1,27,none⟩=some (.bool d.we):=k6.cell 27
  clear k5 k6 hBd HJ KA KB
  cases e1:jobB c d
  ·go_wp2_with fail
   go_ret
   exact ⟨by rw [HV.out];simp only [e0,e1,Bool.true_and,Bool.false_and];rfl,HBd.out⟩
  ·cases e2:(c.ci == d.ci)
   ·go_wp2_with fail
    go_ret
    exact ⟨by rw [HV.out];simp only [e0,e1,e2,Bool.true_and,Bool.false_and];rfl,HBd.out⟩
   ·cases e3:boxB c d
    ·go_wp2_with fail
     go_ret
     exact ⟨by rw [HV.out];simp only [e0,e1,e2,e3,Bool.true_and,Bool.false_and];rfl,HBd.out⟩
    ·cases e4:spanB c d
     ·go_wp2_with fail
      go_ret
      exact ⟨by rw [HV.out];simp only [e0,e1,e2,e3,e4,Bool.true_and,Bool.false_and];rfl,HBd.out⟩
     ·cases e5:(c.n == d.n)
      ·go_wp2_with fail
       go_ret
       exact ⟨by rw [HV.out];simp only [e0,e1,e2,e3,e4,e5,Bool.true_and,Bool.false_and];rfl,HBd.out⟩
      ·go_wp2_with fail
       go_ret
       exact ⟨by rw [HV.out];simp only [e0,e1,e2,e3,e4,e5,Bool.true_and];rfl,HBd.out⟩
end Go.Proofs.Ytfdldbfjeamlcaa.RecF2
