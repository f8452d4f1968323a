/- Several texts joined: The reference's Own: the kinds that are no job's. No conditions but those named. -/
import Derived.BigQuiet
import Derived.Deep.QuietTactic
import Derived.Deep.DeepCutAuto
import Derived.Deep.MidRow
import Derived.Lib.QuietBelow
import Derived.Lib.SliceRun
import Derived.Laws.Rows
import Derived.Test.YtfdldbfjeamlcaaPT18
import Derived.Test.YtfdldbfjeamlcaaPG6
import Derived.Deep.RegionHeld3
import Derived.Deep.RegionLaw
import Derived.Test.YtfdldbfjeamlcaaPG10
import Derived.Test.YtfdldbfjeamlcaaPG14
import Derived.IntWalk
import Derived.WalkKit
import Derived.WalkLawsBesides
set_option linter.unusedVariables false
set_option linter.unusedSimpArgs false
namespace Go.Proofs.Ytfdldbfjeamlcaa.RwOwn0
set_option maxRecDepth 100000
set_option maxHeartbeats 4000000
open Go.Sort (grow)
open Go.RowKit Mem RecMem RecByte RecNum RecEach RecMath RecCommand RecCmdJ RecSame RecOwn RecRL0 RwNum 
theorem int_inf:(Try.prog.info? 3).map (fun i=>(i.zero,i.size,i.bytes))=some (some (.int .i64 0),1,8):=by kernel_rfl
theorem full_blk {W:World} {g:Nat} {t:TypeId} {cs:Array Value} {vs:List Value} (hK:Blk W g t cs) (h:vs.length=cs.size):Blk (World.setCells W g 0 vs) g t vs.toArray:=blk_all hK (setA_full h)
theorem below_set {w W:World} {B:Nat} (h:Below B w W) (g i:Nat) (u:Value) (hg:B≤g):Below B w (W.setCell ⟨g,i,none⟩ u):=h.setCell (p:=⟨g,i,none⟩) hg u
def RetO (w w':World) (c:CV) (e:Ending):Prop:=∃ Y' cy',e = .returned (.agg (cmdA (own c) Y' cy'))∧(own c).af.length≤cy'∧IntsAt w' Y' (own c).af∧Below w.heap.size w w' 
theorem rownI (kd:Int) (id us cl a b c:Int) (p q r tn:Bool) (wa pr:Int) (he:Bool) (af:List Int) (st ca ci b0 b1 b2 b3 b4 b5 fr tu n:Int) (we:Bool) (Y:Option Addr) (cy:Nat) (hk:kd=2∨kd=3∨kd=4∨kd=6) (w:World) :
    Calls Try.prog 25 #[.agg #[.int .u8 kd,.int .i64 id,.int .i64 us,.int .i64 cl,.int .i64 a,.int .i64 b,.int .i64 c,.bool p,.bool q,.bool r,.bool tn,.int .i64 wa,.int .i64 pr,.bool he,.slice Y af.length cy,.int .u8 st,.int .i64 ca,.int .i64 ci,.int .i64 b0,.int .i64 b1,.int .i64 b2,.int .i64 b3,.int .i64 b4,.int .i64 b5,.int .i64 fr,.int .i64 tu,.int .i64 n,.bool we]] w fun e w' => RetO w w' ⟨kd,id,us,cl,a,b,c,p,q,r,tn,wa,pr,he,af,st,ca,ci,b0,b1,b2,b3,b4,b5,fr,tu,n,we⟩ e:=by
 rcases hk with hk | hk | hk | hk
 all_goals
  replace hk:=Lib.hid hk
  go_enter Try.func25,Try.ntmps25
  go_upto_region 1 with fail
  have KV:=Lib.hid ((Blk.new w 34 #[.int .u8 kd,.int .i64 id,.int .i64 us,.int .i64 cl,.int .i64 a,.int .i64 b,.int .i64 c,.bool p,.bool q,.bool r,.bool tn,.int .i64 wa,.int .i64 pr,.bool he,.slice Y af.length cy,.int .u8 st,.int .i64 ca,.int .i64 ci,.int .i64 b0,.int .i64 b1,.int .i64 b2,.int .i64 b3,.int .i64 b4,.int .i64 b5,.int .i64 fr,.int .i64 tu,.int .i64 n,.bool we]).alloc (.cells Sq.zzC 34))
  have KR:=Lib.hid (blk1 w 34 Sq.zzC (o:=.cells #[.int .u8 kd,.int .i64 id,.int .i64 us,.int .i64 cl,.int .i64 a,.int .i64 b,.int .i64 c,.bool p,.bool q,.bool r,.bool tn,.int .i64 wa,.int .i64 pr,.bool he,.slice Y af.length cy,.int .u8 st,.int .i64 ca,.int .i64 ci,.int .i64 b0,.int .i64 b1,.int .i64 b2,.int .i64 b3,.int .i64 b4,.int .i64 b5,.int .i64 fr,.int .i64 tu,.int .i64 n,.bool we] 34))
  have HB:=Lib.hid (below_alloc (o:=.cells Sq.zzC 34) (below_alloc (o:=.cells #[.int .u8 kd,.int .i64 id,.int .i64 us,.int .i64 cl,.int .i64 a,.int .i64 b,.int .i64 c,.bool p,.bool q,.bool r,.bool tn,.int .i64 wa,.int .i64 pr,.bool he,.slice Y af.length cy,.int .u8 st,.int .i64 ca,.int .i64 ci,.int .i64 b0,.int .i64 b1,.int .i64 b2,.int .i64 b3,.int .i64 b4,.int .i64 b5,.int .i64 fr,.int .i64 tu,.int .i64 n,.bool we] 34) (Below.refl w.heap.size w)))
  generalize (w.alloc (.cells #[.int .u8 kd,.int .i64 id,.int .i64 us,.int .i64 cl,.int .i64 a,.int .i64 b,.int .i64 c,.bool p,.bool q,.bool r,.bool tn,.int .i64 wa,.int .i64 pr,.bool he,.slice Y af.length cy,.int .u8 st,.int .i64 ca,.int .i64 ci,.int .i64 b0,.int .i64 b1,.int .i64 b2,.int .i64 b3,.int .i64 b4,.int .i64 b5,.int .i64 fr,.int .i64 tu,.int .i64 n,.bool we] 34)).alloc (.cells Sq.zzC 34)=Wa at *
  have k0:Wa.cell? ⟨w.heap.size,0,none⟩=some (.int .u8 kd):=KV.out.cell 0
  have x1:=box_full (W:=Wa) 34 Sq.zzC (vs:=[.int .u8 kd,.int .i64 0,.int .i64 0,.int .i64 0,.int .i64 0,.int .i64 0,.int .i64 0,.bool false,.bool false,.bool false,.bool false,.int .i64 0,.int .i64 0,.bool false,.slice none 0 0,.int .u8 0,.int .i64 0,.int .i64 0,.int .i64 0,.int .i64 0,.int .i64 0,.int .i64 0,.int .i64 0,.int .i64 0,.int .i64 0,.int .i64 0,.int .i64 0,.bool false]) rfl
  go_upto_region 2 with (first | (refine wpList_store_mid rfl 34 _ _ rfl Wa.heap.size 0 (List.toArray [.int .u8 kd,.int .i64 0,.int .i64 0,.int .i64 0,.int .i64 0,.int .i64 0,.int .i64 0,.bool false,.bool false,.bool false,.bool false,.int .i64 0,.int .i64 0,.bool false,.slice none 0 0,.int .u8 0,.int .i64 0,.int .i64 0,.int .i64 0,.int .i64 0,.int .i64 0,.int .i64 0,.int .i64 0,.int .i64 0,.int .i64 0,.int .i64 0,.int .i64 0,.bool false]) rfl rfl (there_of (Blk.new Wa 34 Sq.zzC) (Nat.le_of_ble_eq_true rfl)) (by kernel_rfl) (by kernel_rfl) ?_;simp only [List.toList_toArray];generalize World.setCells _ _ _ _=W0 at *;(try simp only [Act.put])))
  have HB:=Lib.hid (below_up HB.out x1.2)
  have KV:=Lib.hid (KV.out.below x1.2 KV.out.lt)
  have hr0:=KR.out.lt
  have KR:=Lib.hid (KR.out.below x1.2 KR.out.lt)
  obtain ⟨g,hg⟩:∃ n,n=Wa.heap.size:=⟨_,rfl⟩
  rw [← hg] at x1 hr0
  rw [← hg]
  have KO:=Lib.hid x1.1
  clear x1 k0 hg
  have a0:W0.cell? ⟨w.heap.size,0,none⟩=some (.int .u8 kd):=KV.out.cell 0
  have a17:W0.cell? ⟨w.heap.size,17,none⟩=some (.int .i64 ci):=KV.out.cell 17
  have o17:W0.cell? ⟨g,17,none⟩=some (.int .i64 0):=KO.out.cell 17
  have z17:=KO.out.frozen 17
  rw [hk.out] at a0
  go_upto_region 31 with fail
  have KO1:=(KO.out.set_ 17 (.int .i64 ci))
  simp only [List.setIfInBounds_toArray,List.set_cons_zero,List.set_cons_succ] at KO1
  have KV1:=(KV.out.far (p:=⟨g,17,none⟩) (by simp only;omega) (.int .i64 ci))
  have KR1:=(KR.out.far (p:=⟨g,17,none⟩) (by simp only;omega) (.int .i64 ci))
  have HB1:=(below_set HB.out g 17 (.int .i64 ci) (by omega))
  clear KO KV KR HB a0 a17 o17 z17
  generalize W0.setCell ⟨g,17,none⟩ (.int .i64 ci)=W1 at *
  have KO:=Lib.hid (show Blk W1 g 34 #[.int .u8 kd,.int .i64 0,.int .i64 0,.int .i64 0,.int .i64 0,.int .i64 0,.int .i64 0,.bool false,.bool false,.bool false,.bool false,.int .i64 0,.int .i64 0,.bool false,.slice none 0 0,.int .u8 0,.int .i64 0,.int .i64 ci,.int .i64 0,.int .i64 0,.int .i64 0,.int .i64 0,.int .i64 0,.int .i64 0,.int .i64 0,.int .i64 0,.int .i64 0,.bool false] from KO1)
  have KV:=Lib.hid KV1
  have KR:=Lib.hid KR1
  have HB:=Lib.hid HB1
  clear KO1 KV1 KR1 HB1
  have R9:=Lib.hid (show W1.rangeAt g 0 [.int .u8 kd,.int .i64 0,.int .i64 0,.int .i64 0,.int .i64 0,.int .i64 0,.int .i64 0,.bool false,.bool false,.bool false,.bool false,.int .i64 0,.int .i64 0,.bool false,.slice none 0 0,.int .u8 0,.int .i64 0,.int .i64 ci,.int .i64 0,.int .i64 0,.int .i64 0,.int .i64 0,.int .i64 0,.int .i64 0,.int .i64 0,.int .i64 0,.int .i64 0,.bool false] from range_part (n:=28) KO.out rfl)
  have KZ:=full_blk (vs:=[.int .u8 kd,.int .i64 0,.int .i64 0,.int .i64 0,.int .i64 0,.int .i64 0,.int .i64 0,.bool false,.bool false,.bool false,.bool false,.int .i64 0,.int .i64 0,.bool false,.slice none 0 0,.int .u8 0,.int .i64 0,.int .i64 ci,.int .i64 0,.int .i64 0,.int .i64 0,.int .i64 0,.int .i64 0,.int .i64 0,.int .i64 0,.int .i64 0,.int .i64 0,.bool false]) KR.out rfl
  have HBZ:=below_sets (g:=w.heap.size+1) (vs:=[.int .u8 kd,.int .i64 0,.int .i64 0,.int .i64 0,.int .i64 0,.int .i64 0,.int .i64 0,.bool false,.bool false,.bool false,.bool false,.int .i64 0,.int .i64 0,.bool false,.slice none 0 0,.int .u8 0,.int .i64 0,.int .i64 ci,.int .i64 0,.int .i64 0,.int .i64 0,.int .i64 0,.int .i64 0,.int .i64 0,.int .i64 0,.int .i64 0,.int .i64 0,.bool false]) (i:=0) (by omega) HB.out
  go_wp2_with (first | (refine wpList_load_mid rfl 34 _ rfl _ _ rfl _ _ R9.out Try.underlying34 rfl (by kernel_rfl) ?_) | (refine wpList_store_mid rfl 34 _ _ rfl (w.heap.size+1) 0 (List.toArray [.int .u8 kd,.int .i64 0,.int .i64 0,.int .i64 0,.int .i64 0,.int .i64 0,.int .i64 0,.bool false,.bool false,.bool false,.bool false,.int .i64 0,.int .i64 0,.bool false,.slice none 0 0,.int .u8 0,.int .i64 0,.int .i64 ci,.int .i64 0,.int .i64 0,.int .i64 0,.int .i64 0,.int .i64 0,.int .i64 0,.int .i64 0,.int .i64 0,.int .i64 0,.bool false]) rfl rfl (there_of KR.out (Nat.le_of_ble_eq_true rfl)) (by kernel_rfl) (by kernel_rfl) ?_;simp only [List.toList_toArray];generalize World.setCells _ _ _ _=wz at *;(try simp only [Act.put])))
  have e9:own ⟨kd,id,us,cl,a,b,c,p,q,r,tn,wa,pr,he,af,st,ca,ci,b0,b1,b2,b3,b4,b5,fr,tu,n,we⟩=⟨kd,0,0,0,0,0,0,false,false,false,false,0,0,false,[],0,0,ci,0,0,0,0,0,0,0,0,0,false⟩:=by have:=hk.out;subst this;rfl
  refine bodyPost_ret (results_cell_row rfl _ _ (w.heap.size+1) 34 _ (0,0) _ rfl KZ Try.underlying34 rfl (by kernel_rfl)) rfl ⟨none,0,(by rw [e9];rfl),(by rw [e9];exact Nat.le_refl _),(by rw [e9];exact IntsAt.nil),HBZ⟩
theorem rownK (kd:Int) (id us cl a b c:Int) (p q r tn:Bool) (wa pr:Int) (he:Bool) (af:List Int) (st ca ci b0 b1 b2 b3 b4 b5 fr tu n:Int) (we:Bool) (Y:Option Addr) (cy:Nat) (hk:kd=5) (w:World) :
    Calls Try.prog 25 #[.agg #[.int .u8 kd,.int .i64 id,.int .i64 us,.int .i64 cl,.int .i64 a,.int .i64 b,.int .i64 c,.bool p,.bool q,.bool r,.bool tn,.int .i64 wa,.int .i64 pr,.bool he,.slice Y af.length cy,.int .u8 st,.int .i64 ca,.int .i64 ci,.int .i64 b0,.int .i64 b1,.int .i64 b2,.int .i64 b3,.int .i64 b4,.int .i64 b5,.int .i64 fr,.int .i64 tu,.int .i64 n,.bool we]] w fun e w' => RetO w w' ⟨kd,id,us,cl,a,b,c,p,q,r,tn,wa,pr,he,af,st,ca,ci,b0,b1,b2,b3,b4,b5,fr,tu,n,we⟩ e:=by
 all_goals
  replace hk:=Lib.hid hk
  go_enter Try.func25,Try.ntmps25
  go_upto_region 1 with fail
  have KV:=Lib.hid ((Blk.new w 34 #[.int .u8 kd,.int .i64 id,.int .i64 us,.int .i64 cl,.int .i64 a,.int .i64 b,.int .i64 c,.bool p,.bool q,.bool r,.bool tn,.int .i64 wa,.int .i64 pr,.bool he,.slice Y af.length cy,.int .u8 st,.int .i64 ca,.int .i64 ci,.int .i64 b0,.int .i64 b1,.int .i64 b2,.int .i64 b3,.int .i64 b4,.int .i64 b5,.int .i64 fr,.int .i64 tu,.int .i64 n,.bool we]).alloc (.cells Sq.zzC 34))
  have KR:=Lib.hid (blk1 w 34 Sq.zzC (o:=.cells #[.int .u8 kd,.int .i64 id,.int .i64 us,.int .i64 cl,.int .i64 a,.int .i64 b,.int .i64 c,.bool p,.bool q,.bool r,.bool tn,.int .i64 wa,.int .i64 pr,.bool he,.slice Y af.length cy,.int .u8 st,.int .i64 ca,.int .i64 ci,.int .i64 b0,.int .i64 b1,.int .i64 b2,.int .i64 b3,.int .i64 b4,.int .i64 b5,.int .i64 fr,.int .i64 tu,.int .i64 n,.bool we] 34))
  have HB:=Lib.hid (below_alloc (o:=.cells Sq.zzC 34) (below_alloc (o:=.cells #[.int .u8 kd,.int .i64 id,.int .i64 us,.int .i64 cl,.int .i64 a,.int .i64 b,.int .i64 c,.bool p,.bool q,.bool r,.bool tn,.int .i64 wa,.int .i64 pr,.bool he,.slice Y af.length cy,.int .u8 st,.int .i64 ca,.int .i64 ci,.int .i64 b0,.int .i64 b1,.int .i64 b2,.int .i64 b3,.int .i64 b4,.int .i64 b5,.int .i64 fr,.int .i64 tu,.int .i64 n,.bool we] 34) (Below.refl w.heap.size w)))
  generalize (w.alloc (.cells #[.int .u8 kd,.int .i64 id,.int .i64 us,.int .i64 cl,.int .i64 a,.int .i64 b,.int .i64 c,.bool p,.bool q,.bool r,.bool tn,.int .i64 wa,.int .i64 pr,.bool he,.slice Y af.length cy,.int .u8 st,.int .i64 ca,.int .i64 ci,.int .i64 b0,.int .i64 b1,.int .i64 b2,.int .i64 b3,.int .i64 b4,.int .i64 b5,.int .i64 fr,.int .i64 tu,.int .i64 n,.bool we] 34)).alloc (.cells Sq.zzC 34)=Wa at *
  have k0:Wa.cell? ⟨w.heap.size,0,none⟩=some (.int .u8 kd):=KV.out.cell 0
  have x1:=box_full (W:=Wa) 34 Sq.zzC (vs:=[.int .u8 kd,.int .i64 0,.int .i64 0,.int .i64 0,.int .i64 0,.int .i64 0,.int .i64 0,.bool false,.bool false,.bool false,.bool false,.int .i64 0,.int .i64 0,.bool false,.slice none 0 0,.int .u8 0,.int .i64 0,.int .i64 0,.int .i64 0,.int .i64 0,.int .i64 0,.int .i64 0,.int .i64 0,.int .i64 0,.int .i64 0,.int .i64 0,.int .i64 0,.bool false]) rfl
  go_upto_region 2 with (first | (refine wpList_store_mid rfl 34 _ _ rfl Wa.heap.size 0 (List.toArray [.int .u8 kd,.int .i64 0,.int .i64 0,.int .i64 0,.int .i64 0,.int .i64 0,.int .i64 0,.bool false,.bool false,.bool false,.bool false,.int .i64 0,.int .i64 0,.bool false,.slice none 0 0,.int .u8 0,.int .i64 0,.int .i64 0,.int .i64 0,.int .i64 0,.int .i64 0,.int .i64 0,.int .i64 0,.int .i64 0,.int .i64 0,.int .i64 0,.int .i64 0,.bool false]) rfl rfl (there_of (Blk.new Wa 34 Sq.zzC) (Nat.le_of_ble_eq_true rfl)) (by kernel_rfl) (by kernel_rfl) ?_;simp only [List.toList_toArray];generalize World.setCells _ _ _ _=W0 at *;(try simp only [Act.put])))
  have HB:=Lib.hid (below_up HB.out x1.2)
  have KV:=Lib.hid (KV.out.below x1.2 KV.out.lt)
  have hr0:=KR.out.lt
  have KR:=Lib.hid (KR.out.below x1.2 KR.out.lt)
  obtain ⟨g,hg⟩:∃ n,n=Wa.heap.size:=⟨_,rfl⟩
  rw [← hg] at x1 hr0
  rw [← hg]
  have KO:=Lib.hid x1.1
  clear x1 k0 hg
  have a0:W0.cell? ⟨w.heap.size,0,none⟩=some (.int .u8 kd):=KV.out.cell 0
  rw [hk.out] at a0
  go_upto_region 17 with fail
  clear a0
  have R1:=Lib.hid (show W0.rangeAt w.heap.size 18 [.int .i64 b0,.int .i64 b1,.int .i64 b2,.int .i64 b3,.int .i64 b4,.int .i64 b5] from range_part (n:=6) KV.out rfl)
  have KO1:=blk_setA (i:=18) (vs:=[.int .i64 b0,.int .i64 b1,.int .i64 b2,.int .i64 b3,.int .i64 b4,.int .i64 b5]) KO.out
  simp only [setA,List.setIfInBounds_toArray,List.set_cons_zero,List.set_cons_succ] at KO1
  have KV1:=blk_sets_far (g:=g) (vs:=[.int .i64 b0,.int .i64 b1,.int .i64 b2,.int .i64 b3,.int .i64 b4,.int .i64 b5]) (i:=18) (by omega) KV.out
  have KR1:=blk_sets_far (g:=g) (vs:=[.int .i64 b0,.int .i64 b1,.int .i64 b2,.int .i64 b3,.int .i64 b4,.int .i64 b5]) (i:=18) (by omega) KR.out
  have HB1:=below_sets (g:=g) (vs:=[.int .i64 b0,.int .i64 b1,.int .i64 b2,.int .i64 b3,.int .i64 b4,.int .i64 b5]) (i:=18) (by omega) HB.out
  go_upto_region 18 with (first | (refine wpList_load_mid rfl 30 _ rfl _ _ rfl _ _ R1.out Try.underlying30 rfl (by kernel_rfl) ?_) | (refine wpList_store_mid rfl 30 _ _ rfl g 18 (List.toArray [.int .i64 b0,.int .i64 b1,.int .i64 b2,.int .i64 b3,.int .i64 b4,.int .i64 b5]) rfl rfl (there_of KO.out (Nat.le_of_ble_eq_true rfl)) (by kernel_rfl) (by kernel_rfl) ?_;simp only [List.toList_toArray];generalize World.setCells _ _ _ _=W1 at *;(try simp only [Act.put])))
  clear KO KV KR HB R1
  have KO:=Lib.hid (show Blk W1 g 34 #[.int .u8 kd,.int .i64 0,.int .i64 0,.int .i64 0,.int .i64 0,.int .i64 0,.int .i64 0,.bool false,.bool false,.bool false,.bool false,.int .i64 0,.int .i64 0,.bool false,.slice none 0 0,.int .u8 0,.int .i64 0,.int .i64 0,.int .i64 b0,.int .i64 b1,.int .i64 b2,.int .i64 b3,.int .i64 b4,.int .i64 b5,.int .i64 0,.int .i64 0,.int .i64 0,.bool false] from KO1)
  have KV:=Lib.hid KV1
  have KR:=Lib.hid KR1
  have HB:=Lib.hid HB1
  clear KO1 KV1 KR1 HB1
  have R1:=Lib.hid (show W1.rangeAt w.heap.size 24 [.int .i64 fr,.int .i64 tu] from range_part (n:=2) KV.out rfl)
  have KO1:=blk_setA (i:=24) (vs:=[.int .i64 fr,.int .i64 tu]) KO.out
  simp only [setA,List.setIfInBounds_toArray,List.set_cons_zero,List.set_cons_succ] at KO1
  have KV1:=blk_sets_far (g:=g) (vs:=[.int .i64 fr,.int .i64 tu]) (i:=24) (by omega) KV.out
  have KR1:=blk_sets_far (g:=g) (vs:=[.int .i64 fr,.int .i64 tu]) (i:=24) (by omega) KR.out
  have HB1:=below_sets (g:=g) (vs:=[.int .i64 fr,.int .i64 tu]) (i:=24) (by omega) HB.out
  go_upto_region 31 with (first | (refine wpList_load_mid rfl 32 _ rfl _ _ rfl _ _ R1.out Try.underlying32 rfl (by kernel_rfl) ?_) | (refine wpList_store_mid rfl 32 _ _ rfl g 24 (List.toArray [.int .i64 fr,.int .i64 tu]) rfl rfl (there_of KO.out (Nat.le_of_ble_eq_true rfl)) (by kernel_rfl) (by kernel_rfl) ?_;simp only [List.toList_toArray];generalize World.setCells _ _ _ _=W2 at *;(try simp only [Act.put])))
  clear KO KV KR HB R1
  have KO:=Lib.hid (show Blk W2 g 34 #[.int .u8 kd,.int .i64 0,.int .i64 0,.int .i64 0,.int .i64 0,.int .i64 0,.int .i64 0,.bool false,.bool false,.bool false,.bool false,.int .i64 0,.int .i64 0,.bool false,.slice none 0 0,.int .u8 0,.int .i64 0,.int .i64 0,.int .i64 b0,.int .i64 b1,.int .i64 b2,.int .i64 b3,.int .i64 b4,.int .i64 b5,.int .i64 fr,.int .i64 tu,.int .i64 0,.bool false] from KO1)
  have KV:=Lib.hid KV1
  have KR:=Lib.hid KR1
  have HB:=Lib.hid HB1
  clear KO1 KV1 KR1 HB1
  have R9:=Lib.hid (show W2.rangeAt g 0 [.int .u8 kd,.int .i64 0,.int .i64 0,.int .i64 0,.int .i64 0,.int .i64 0,.int .i64 0,.bool false,.bool false,.bool false,.bool false,.int .i64 0,.int .i64 0,.bool false,.slice none 0 0,.int .u8 0,.int .i64 0,.int .i64 0,.int .i64 b0,.int .i64 b1,.int .i64 b2,.int .i64 b3,.int .i64 b4,.int .i64 b5,.int .i64 fr,.int .i64 tu,.int .i64 0,.bool false] from range_part (n:=28) KO.out rfl)
  have KZ:=full_blk (vs:=[.int .u8 kd,.int .i64 0,.int .i64 0,.int .i64 0,.int .i64 0,.int .i64 0,.int .i64 0,.bool false,.bool false,.bool false,.bool false,.int .i64 0,.int .i64 0,.bool false,.slice none 0 0,.int .u8 0,.int .i64 0,.int .i64 0,.int .i64 b0,.int .i64 b1,.int .i64 b2,.int .i64 b3,.int .i64 b4,.int .i64 b5,.int .i64 fr,.int .i64 tu,.int .i64 0,.bool false]) KR.out rfl
  have HBZ:=below_sets (g:=w.heap.size+1) (vs:=[.int .u8 kd,.int .i64 0,.int .i64 0,.int .i64 0,.int .i64 0,.int .i64 0,.int .i64 0,.bool false,.bool false,.bool false,.bool false,.int .i64 0,.int .i64 0,.bool false,.slice none 0 0,.int .u8 0,.int .i64 0,.int .i64 0,.int .i64 b0,.int .i64 b1,.int .i64 b2,.int .i64 b3,.int .i64 b4,.int .i64 b5,.int .i64 fr,.int .i64 tu,.int .i64 0,.bool false]) (i:=0) (by omega) HB.out
  go_wp2_with (first | (refine wpList_load_mid rfl 34 _ rfl _ _ rfl _ _ R9.out Try.underlying34 rfl (by kernel_rfl) ?_) | (refine wpList_store_mid rfl 34 _ _ rfl (w.heap.size+1) 0 (List.toArray [.int .u8 kd,.int .i64 0,.int .i64 0,.int .i64 0,.int .i64 0,.int .i64 0,.int .i64 0,.bool false,.bool false,.bool false,.bool false,.int .i64 0,.int .i64 0,.bool false,.slice none 0 0,.int .u8 0,.int .i64 0,.int .i64 0,.int .i64 b0,.int .i64 b1,.int .i64 b2,.int .i64 b3,.int .i64 b4,.int .i64 b5,.int .i64 fr,.int .i64 tu,.int .i64 0,.bool false]) rfl rfl (there_of KR.out (Nat.le_of_ble_eq_true rfl)) (by kernel_rfl) (by kernel_rfl) ?_;simp only [List.toList_toArray];generalize World.setCells _ _ _ _=wz at *;(try simp only [Act.put])))
  have e9:own ⟨kd,id,us,cl,a,b,c,p,q,r,tn,wa,pr,he,af,st,ca,ci,b0,b1,b2,b3,b4,b5,fr,tu,n,we⟩=⟨kd,0,0,0,0,0,0,false,false,false,false,0,0,false,[],0,0,0,b0,b1,b2,b3,b4,b5,fr,tu,0,false⟩:=by have:=hk.out;subst this;rfl
  refine bodyPost_ret (results_cell_row rfl _ _ (w.heap.size+1) 34 _ (0,0) _ rfl KZ Try.underlying34 rfl (by kernel_rfl)) rfl ⟨none,0,(by rw [e9];rfl),(by rw [e9];exact Nat.le_refl _),(by rw [e9];exact IntsAt.nil),HBZ⟩
theorem rownW (kd:Int) (id us cl a b c:Int) (p q r tn:Bool) (wa pr:Int) (he:Bool) (af:List Int) (st ca ci b0 b1 b2 b3 b4 b5 fr tu n:Int) (we:Bool) (Y:Option Addr) (cy:Nat) (hk:kd=8∨kd=9) (w:World) :
    Calls Try.prog 25 #[.agg #[.int .u8 kd,.int .i64 id,.int .i64 us,.int .i64 cl,.int .i64 a,.int .i64 b,.int .i64 c,.bool p,.bool q,.bool r,.bool tn,.int .i64 wa,.int .i64 pr,.bool he,.slice Y af.length cy,.int .u8 st,.int .i64 ca,.int .i64 ci,.int .i64 b0,.int .i64 b1,.int .i64 b2,.int .i64 b3,.int .i64 b4,.int .i64 b5,.int .i64 fr,.int .i64 tu,.int .i64 n,.bool we]] w fun e w' => RetO w w' ⟨kd,id,us,cl,a,b,c,p,q,r,tn,wa,pr,he,af,st,ca,ci,b0,b1,b2,b3,b4,b5,fr,tu,n,we⟩ e:=by
 rcases hk with hk | hk
 all_goals
  replace hk:=Lib.hid hk
  go_enter Try.func25,Try.ntmps25
  go_upto_region 1 with fail
  have KV:=Lib.hid ((Blk.new w 34 #[.int .u8 kd,.int .i64 id,.int .i64 us,.int .i64 cl,.int .i64 a,.int .i64 b,.int .i64 c,.bool p,.bool q,.bool r,.bool tn,.int .i64 wa,.int .i64 pr,.bool he,.slice Y af.length cy,.int .u8 st,.int .i64 ca,.int .i64 ci,.int .i64 b0,.int .i64 b1,.int .i64 b2,.int .i64 b3,.int .i64 b4,.int .i64 b5,.int .i64 fr,.int .i64 tu,.int .i64 n,.bool we]).alloc (.cells Sq.zzC 34))
  have KR:=Lib.hid (blk1 w 34 Sq.zzC (o:=.cells #[.int .u8 kd,.int .i64 id,.int .i64 us,.int .i64 cl,.int .i64 a,.int .i64 b,.int .i64 c,.bool p,.bool q,.bool r,.bool tn,.int .i64 wa,.int .i64 pr,.bool he,.slice Y af.length cy,.int .u8 st,.int .i64 ca,.int .i64 ci,.int .i64 b0,.int .i64 b1,.int .i64 b2,.int .i64 b3,.int .i64 b4,.int .i64 b5,.int .i64 fr,.int .i64 tu,.int .i64 n,.bool we] 34))
  have HB:=Lib.hid (below_alloc (o:=.cells Sq.zzC 34) (below_alloc (o:=.cells #[.int .u8 kd,.int .i64 id,.int .i64 us,.int .i64 cl,.int .i64 a,.int .i64 b,.int .i64 c,.bool p,.bool q,.bool r,.bool tn,.int .i64 wa,.int .i64 pr,.bool he,.slice Y af.length cy,.int .u8 st,.int .i64 ca,.int .i64 ci,.int .i64 b0,.int .i64 b1,.int .i64 b2,.int .i64 b3,.int .i64 b4,.int .i64 b5,.int .i64 fr,.int .i64 tu,.int .i64 n,.bool we] 34) (Below.refl w.heap.size w)))
  generalize (w.alloc (.cells #[.int .u8 kd,.int .i64 id,.int .i64 us,.int .i64 cl,.int .i64 a,.int .i64 b,.int .i64 c,.bool p,.bool q,.bool r,.bool tn,.int .i64 wa,.int .i64 pr,.bool he,.slice Y af.length cy,.int .u8 st,.int .i64 ca,.int .i64 ci,.int .i64 b0,.int .i64 b1,.int .i64 b2,.int .i64 b3,.int .i64 b4,.int .i64 b5,.int .i64 fr,.int .i64 tu,.int .i64 n,.bool we] 34)).alloc (.cells Sq.zzC 34)=Wa at *
  have k0:Wa.cell? ⟨w.heap.size,0,none⟩=some (.int .u8 kd):=KV.out.cell 0
  have x1:=box_full (W:=Wa) 34 Sq.zzC (vs:=[.int .u8 kd,.int .i64 0,.int .i64 0,.int .i64 0,.int .i64 0,.int .i64 0,.int .i64 0,.bool false,.bool false,.bool false,.bool false,.int .i64 0,.int .i64 0,.bool false,.slice none 0 0,.int .u8 0,.int .i64 0,.int .i64 0,.int .i64 0,.int .i64 0,.int .i64 0,.int .i64 0,.int .i64 0,.int .i64 0,.int .i64 0,.int .i64 0,.int .i64 0,.bool false]) rfl
  go_upto_region 2 with (first | (refine wpList_store_mid rfl 34 _ _ rfl Wa.heap.size 0 (List.toArray [.int .u8 kd,.int .i64 0,.int .i64 0,.int .i64 0,.int .i64 0,.int .i64 0,.int .i64 0,.bool false,.bool false,.bool false,.bool false,.int .i64 0,.int .i64 0,.bool false,.slice none 0 0,.int .u8 0,.int .i64 0,.int .i64 0,.int .i64 0,.int .i64 0,.int .i64 0,.int .i64 0,.int .i64 0,.int .i64 0,.int .i64 0,.int .i64 0,.int .i64 0,.bool false]) rfl rfl (there_of (Blk.new Wa 34 Sq.zzC) (Nat.le_of_ble_eq_true rfl)) (by kernel_rfl) (by kernel_rfl) ?_;simp only [List.toList_toArray];generalize World.setCells _ _ _ _=W0 at *;(try simp only [Act.put])))
  have HB:=Lib.hid (below_up HB.out x1.2)
  have KV:=Lib.hid (KV.out.below x1.2 KV.out.lt)
  have hr0:=KR.out.lt
  have KR:=Lib.hid (KR.out.below x1.2 KR.out.lt)
  obtain ⟨g,hg⟩:∃ n,n=Wa.heap.size:=⟨_,rfl⟩
  rw [← hg] at x1 hr0
  rw [← hg]
  have KO:=Lib.hid x1.1
  clear x1 k0 hg
  have a0:W0.cell? ⟨w.heap.size,0,none⟩=some (.int .u8 kd):=KV.out.cell 0
  have a17:W0.cell? ⟨w.heap.size,17,none⟩=some (.int .i64 ci):=KV.out.cell 17
  have a27:W0.cell? ⟨w.heap.size,27,none⟩=some (.bool we):=KV.out.cell 27
  have o17:W0.cell? ⟨g,17,none⟩=some (.int .i64 0):=KO.out.cell 17
  have z17:=KO.out.frozen 17
  have o27:W0.cell? ⟨g,27,none⟩=some (.bool false):=KO.out.cell 27
  have z27:=KO.out.frozen 27
  rw [hk.out] at a0
  go_upto_region 31 with fail
  have KO1:=((KO.out.set_ 17 (.int .i64 ci)).set_ 27 (.bool we))
  simp only [List.setIfInBounds_toArray,List.set_cons_zero,List.set_cons_succ] at KO1
  have KV1:=((KV.out.far (p:=⟨g,17,none⟩) (by simp only;omega) (.int .i64 ci)).far (p:=⟨g,27,none⟩) (by simp only;omega) (.bool we))
  have KR1:=((KR.out.far (p:=⟨g,17,none⟩) (by simp only;omega) (.int .i64 ci)).far (p:=⟨g,27,none⟩) (by simp only;omega) (.bool we))
  have HB1:=(below_set (below_set HB.out g 17 (.int .i64 ci) (by omega)) g 27 (.bool we) (by omega))
  clear KO KV KR HB a0 a17 a27 o17 z17 o27 z27
  generalize (W0.setCell ⟨g,17,none⟩ (.int .i64 ci)).setCell ⟨g,27,none⟩ (.bool we)=W1 at *
  have KO:=Lib.hid (show Blk W1 g 34 #[.int .u8 kd,.int .i64 0,.int .i64 0,.int .i64 0,.int .i64 0,.int .i64 0,.int .i64 0,.bool false,.bool false,.bool false,.bool false,.int .i64 0,.int .i64 0,.bool false,.slice none 0 0,.int .u8 0,.int .i64 0,.int .i64 ci,.int .i64 0,.int .i64 0,.int .i64 0,.int .i64 0,.int .i64 0,.int .i64 0,.int .i64 0,.int .i64 0,.int .i64 0,.bool we] from KO1)
  have KV:=Lib.hid KV1
  have KR:=Lib.hid KR1
  have HB:=Lib.hid HB1
  clear KO1 KV1 KR1 HB1
  have R9:=Lib.hid (show W1.rangeAt g 0 [.int .u8 kd,.int .i64 0,.int .i64 0,.int .i64 0,.int .i64 0,.int .i64 0,.int .i64 0,.bool false,.bool false,.bool false,.bool false,.int .i64 0,.int .i64 0,.bool false,.slice none 0 0,.int .u8 0,.int .i64 0,.int .i64 ci,.int .i64 0,.int .i64 0,.int .i64 0,.int .i64 0,.int .i64 0,.int .i64 0,.int .i64 0,.int .i64 0,.int .i64 0,.bool we] from range_part (n:=28) KO.out rfl)
  have KZ:=full_blk (vs:=[.int .u8 kd,.int .i64 0,.int .i64 0,.int .i64 0,.int .i64 0,.int .i64 0,.int .i64 0,.bool false,.bool false,.bool false,.bool false,.int .i64 0,.int .i64 0,.bool false,.slice none 0 0,.int .u8 0,.int .i64 0,.int .i64 ci,.int .i64 0,.int .i64 0,.int .i64 0,.int .i64 0,.int .i64 0,.int .i64 0,.int .i64 0,.int .i64 0,.int .i64 0,.bool we]) KR.out rfl
  have HBZ:=below_sets (g:=w.heap.size+1) (vs:=[.int .u8 kd,.int .i64 0,.int .i64 0,.int .i64 0,.int .i64 0,.int .i64 0,.int .i64 0,.bool false,.bool false,.bool false,.bool false,.int .i64 0,.int .i64 0,.bool false,.slice none 0 0,.int .u8 0,.int .i64 0,.int .i64 ci,.int .i64 0,.int .i64 0,.int .i64 0,.int .i64 0,.int .i64 0,.int .i64 0,.int .i64 0,.int .i64 0,.int .i64 0,.bool we]) (i:=0) (by omega) HB.out
  go_wp2_with (first | (refine wpList_load_mid rfl 34 _ rfl _ _ rfl _ _ R9.out Try.underlying34 rfl (by kernel_rfl) ?_) | (refine wpList_store_mid rfl 34 _ _ rfl (w.heap.size+1) 0 (List.toArray [.int .u8 kd,.int .i64 0,.int .i64 0,.int .i64 0,.int .i64 0,.int .i64 0,.int .i64 0,.bool false,.bool false,.bool false,.bool false,.int .i64 0,.int .i64 0,.bool false,.slice none 0 0,.int .u8 0,.int .i64 0,.int .i64 ci,.int .i64 0,.int .i64 0,.int .i64 0,.int .i64 0,.int .i64 0,.int .i64 0,.int .i64 0,.int .i64 0,.int .i64 0,.bool we]) rfl rfl (there_of KR.out (Nat.le_of_ble_eq_true rfl)) (by kernel_rfl) (by kernel_rfl) ?_;simp only [List.toList_toArray];generalize World.setCells _ _ _ _=wz at *;(try simp only [Act.put])))
  have e9:own ⟨kd,id,us,cl,a,b,c,p,q,r,tn,wa,pr,he,af,st,ca,ci,b0,b1,b2,b3,b4,b5,fr,tu,n,we⟩=⟨kd,0,0,0,0,0,0,false,false,false,false,0,0,false,[],0,0,ci,0,0,0,0,0,0,0,0,0,we⟩:=by have:=hk.out;subst this;rfl
  refine bodyPost_ret (results_cell_row rfl _ _ (w.heap.size+1) 34 _ (0,0) _ rfl KZ Try.underlying34 rfl (by kernel_rfl)) rfl ⟨none,0,(by rw [e9];rfl),(by rw [e9];exact Nat.le_refl _),(by rw [e9];exact IntsAt.nil),HBZ⟩
theorem rownN (kd:Int) (id us cl a b c:Int) (p q r tn:Bool) (wa pr:Int) (he:Bool) (af:List Int) (st ca ci b0 b1 b2 b3 b4 b5 fr tu n:Int) (we:Bool) (Y:Option Addr) (cy:Nat) (hk:kd=7∨kd=10∨kd=11∨kd=12∨kd=13∨kd=14∨kd=15) (w:World) :
    Calls Try.prog 25 #[.agg #[.int .u8 kd,.int .i64 id,.int .i64 us,.int .i64 cl,.int .i64 a,.int .i64 b,.int .i64 c,.bool p,.bool q,.bool r,.bool tn,.int .i64 wa,.int .i64 pr,.bool he,.slice Y af.length cy,.int .u8 st,.int .i64 ca,.int .i64 ci,.int .i64 b0,.int .i64 b1,.int .i64 b2,.int .i64 b3,.int .i64 b4,.int .i64 b5,.int .i64 fr,.int .i64 tu,.int .i64 n,.bool we]] w fun e w' => RetO w w' ⟨kd,id,us,cl,a,b,c,p,q,r,tn,wa,pr,he,af,st,ca,ci,b0,b1,b2,b3,b4,b5,fr,tu,n,we⟩ e:=by
 rcases hk with hk | hk | hk | hk | hk | hk | hk
 all_goals
  replace hk:=Lib.hid hk
  go_enter Try.func25,Try.ntmps25
  go_upto_region 1 with fail
  have KV:=Lib.hid ((Blk.new w 34 #[.int .u8 kd,.int .i64 id,.int .i64 us,.int .i64 cl,.int .i64 a,.int .i64 b,.int .i64 c,.bool p,.bool q,.bool r,.bool tn,.int .i64 wa,.int .i64 pr,.bool he,.slice Y af.length cy,.int .u8 st,.int .i64 ca,.int .i64 ci,.int .i64 b0,.int .i64 b1,.int .i64 b2,.int .i64 b3,.int .i64 b4,.int .i64 b5,.int .i64 fr,.int .i64 tu,.int .i64 n,.bool we]).alloc (.cells Sq.zzC 34))
  have KR:=Lib.hid (blk1 w 34 Sq.zzC (o:=.cells #[.int .u8 kd,.int .i64 id,.int .i64 us,.int .i64 cl,.int .i64 a,.int .i64 b,.int .i64 c,.bool p,.bool q,.bool r,.bool tn,.int .i64 wa,.int .i64 pr,.bool he,.slice Y af.length cy,.int .u8 st,.int .i64 ca,.int .i64 ci,.int .i64 b0,.int .i64 b1,.int .i64 b2,.int .i64 b3,.int .i64 b4,.int .i64 b5,.int .i64 fr,.int .i64 tu,.int .i64 n,.bool we] 34))
  have HB:=Lib.hid (below_alloc (o:=.cells Sq.zzC 34) (below_alloc (o:=.cells #[.int .u8 kd,.int .i64 id,.int .i64 us,.int .i64 cl,.int .i64 a,.int .i64 b,.int .i64 c,.bool p,.bool q,.bool r,.bool tn,.int .i64 wa,.int .i64 pr,.bool he,.slice Y af.length cy,.int .u8 st,.int .i64 ca,.int .i64 ci,.int .i64 b0,.int .i64 b1,.int .i64 b2,.int .i64 b3,.int .i64 b4,.int .i64 b5,.int .i64 fr,.int .i64 tu,.int .i64 n,.bool we] 34) (Below.refl w.heap.size w)))
  generalize (w.alloc (.cells #[.int .u8 kd,.int .i64 id,.int .i64 us,.int .i64 cl,.int .i64 a,.int .i64 b,.int .i64 c,.bool p,.bool q,.bool r,.bool tn,.int .i64 wa,.int .i64 pr,.bool he,.slice Y af.length cy,.int .u8 st,.int .i64 ca,.int .i64 ci,.int .i64 b0,.int .i64 b1,.int .i64 b2,.int .i64 b3,.int .i64 b4,.int .i64 b5,.int .i64 fr,.int .i64 tu,.int .i64 n,.bool we] 34)).alloc (.cells Sq.zzC 34)=Wa at *
  have k0:Wa.cell? ⟨w.heap.size,0,none⟩=some (.int .u8 kd):=KV.out.cell 0
  have x1:=box_full (W:=Wa) 34 Sq.zzC (vs:=[.int .u8 kd,.int .i64 0,.int .i64 0,.int .i64 0,.int .i64 0,.int .i64 0,.int .i64 0,.bool false,.bool false,.bool false,.bool false,.int .i64 0,.int .i64 0,.bool false,.slice none 0 0,.int .u8 0,.int .i64 0,.int .i64 0,.int .i64 0,.int .i64 0,.int .i64 0,.int .i64 0,.int .i64 0,.int .i64 0,.int .i64 0,.int .i64 0,.int .i64 0,.bool false]) rfl
  go_upto_region 2 with (first | (refine wpList_store_mid rfl 34 _ _ rfl Wa.heap.size 0 (List.toArray [.int .u8 kd,.int .i64 0,.int .i64 0,.int .i64 0,.int .i64 0,.int .i64 0,.int .i64 0,.bool false,.bool false,.bool false,.bool false,.int .i64 0,.int .i64 0,.bool false,.slice none 0 0,.int .u8 0,.int .i64 0,.int .i64 0,.int .i64 0,.int .i64 0,.int .i64 0,.int .i64 0,.int .i64 0,.int .i64 0,.int .i64 0,.int .i64 0,.int .i64 0,.bool false]) rfl rfl (there_of (Blk.new Wa 34 Sq.zzC) (Nat.le_of_ble_eq_true rfl)) (by kernel_rfl) (by kernel_rfl) ?_;simp only [List.toList_toArray];generalize World.setCells _ _ _ _=W0 at *;(try simp only [Act.put])))
  have HB:=Lib.hid (below_up HB.out x1.2)
  have KV:=Lib.hid (KV.out.below x1.2 KV.out.lt)
  have hr0:=KR.out.lt
  have KR:=Lib.hid (KR.out.below x1.2 KR.out.lt)
  obtain ⟨g,hg⟩:∃ n,n=Wa.heap.size:=⟨_,rfl⟩
  rw [← hg] at x1 hr0
  rw [← hg]
  have KO:=Lib.hid x1.1
  clear x1 k0 hg
  have a0:W0.cell? ⟨w.heap.size,0,none⟩=some (.int .u8 kd):=KV.out.cell 0
  have a26:W0.cell? ⟨w.heap.size,26,none⟩=some (.int .i64 n):=KV.out.cell 26
  have o26:W0.cell? ⟨g,26,none⟩=some (.int .i64 0):=KO.out.cell 26
  have z26:=KO.out.frozen 26
  rw [hk.out] at a0
  go_upto_region 31 with fail
  have KO1:=(KO.out.set_ 26 (.int .i64 n))
  simp only [List.setIfInBounds_toArray,List.set_cons_zero,List.set_cons_succ] at KO1
  have KV1:=(KV.out.far (p:=⟨g,26,none⟩) (by simp only;omega) (.int .i64 n))
  have KR1:=(KR.out.far (p:=⟨g,26,none⟩) (by simp only;omega) (.int .i64 n))
  have HB1:=(below_set HB.out g 26 (.int .i64 n) (by omega))
  clear KO KV KR HB a0 a26 o26 z26
  generalize W0.setCell ⟨g,26,none⟩ (.int .i64 n)=W1 at *
  have KO:=Lib.hid (show Blk W1 g 34 #[.int .u8 kd,.int .i64 0,.int .i64 0,.int .i64 0,.int .i64 0,.int .i64 0,.int .i64 0,.bool false,.bool false,.bool false,.bool false,.int .i64 0,.int .i64 0,.bool false,.slice none 0 0,.int .u8 0,.int .i64 0,.int .i64 0,.int .i64 0,.int .i64 0,.int .i64 0,.int .i64 0,.int .i64 0,.int .i64 0,.int .i64 0,.int .i64 0,.int .i64 n,.bool false] from KO1)
  have KV:=Lib.hid KV1
  have KR:=Lib.hid KR1
  have HB:=Lib.hid HB1
  clear KO1 KV1 KR1 HB1
  have R9:=Lib.hid (show W1.rangeAt g 0 [.int .u8 kd,.int .i64 0,.int .i64 0,.int .i64 0,.int .i64 0,.int .i64 0,.int .i64 0,.bool false,.bool false,.bool false,.bool false,.int .i64 0,.int .i64 0,.bool false,.slice none 0 0,.int .u8 0,.int .i64 0,.int .i64 0,.int .i64 0,.int .i64 0,.int .i64 0,.int .i64 0,.int .i64 0,.int .i64 0,.int .i64 0,.int .i64 0,.int .i64 n,.bool false] from range_part (n:=28) KO.out rfl)
  have KZ:=full_blk (vs:=[.int .u8 kd,.int .i64 0,.int .i64 0,.int .i64 0,.int .i64 0,.int .i64 0,.int .i64 0,.bool false,.bool false,.bool false,.bool false,.int .i64 0,.int .i64 0,.bool false,.slice none 0 0,.int .u8 0,.int .i64 0,.int .i64 0,.int .i64 0,.int .i64 0,.int .i64 0,.int .i64 0,.int .i64 0,.int .i64 0,.int .i64 0,.int .i64 0,.int .i64 n,.bool false]) KR.out rfl
  have HBZ:=below_sets (g:=w.heap.size+1) (vs:=[.int .u8 kd,.int .i64 0,.int .i64 0,.int .i64 0,.int .i64 0,.int .i64 0,.int .i64 0,.bool false,.bool false,.bool false,.bool false,.int .i64 0,.int .i64 0,.bool false,.slice none 0 0,.int .u8 0,.int .i64 0,.int .i64 0,.int .i64 0,.int .i64 0,.int .i64 0,.int .i64 0,.int .i64 0,.int .i64 0,.int .i64 0,.int .i64 0,.int .i64 n,.bool false]) (i:=0) (by omega) HB.out
  go_wp2_with (first | (refine wpList_load_mid rfl 34 _ rfl _ _ rfl _ _ R9.out Try.underlying34 rfl (by kernel_rfl) ?_) | (refine wpList_store_mid rfl 34 _ _ rfl (w.heap.size+1) 0 (List.toArray [.int .u8 kd,.int .i64 0,.int .i64 0,.int .i64 0,.int .i64 0,.int .i64 0,.int .i64 0,.bool false,.bool false,.bool false,.bool false,.int .i64 0,.int .i64 0,.bool false,.slice none 0 0,.int .u8 0,.int .i64 0,.int .i64 0,.int .i64 0,.int .i64 0,.int .i64 0,.int .i64 0,.int .i64 0,.int .i64 0,.int .i64 0,.int .i64 0,.int .i64 n,.bool false]) rfl rfl (there_of KR.out (Nat.le_of_ble_eq_true rfl)) (by kernel_rfl) (by kernel_rfl) ?_;simp only [List.toList_toArray];generalize World.setCells _ _ _ _=wz at *;(try simp only [Act.put])))
  have e9:own ⟨kd,id,us,cl,a,b,c,p,q,r,tn,wa,pr,he,af,st,ca,ci,b0,b1,b2,b3,b4,b5,fr,tu,n,we⟩=⟨kd,0,0,0,0,0,0,false,false,false,false,0,0,false,[],0,0,0,0,0,0,0,0,0,0,0,n,false⟩:=by have:=hk.out;subst this;rfl
  refine bodyPost_ret (results_cell_row rfl _ _ (w.heap.size+1) 34 _ (0,0) _ rfl KZ Try.underlying34 rfl (by kernel_rfl)) rfl ⟨none,0,(by rw [e9];rfl),(by rw [e9];exact Nat.le_refl _),(by rw [e9];exact IntsAt.nil),HBZ⟩
theorem rownZ (kd:Int) (id us cl a b c:Int) (p q r tn:Bool) (wa pr:Int) (he:Bool) (af:List Int) (st ca ci b0 b1 b2 b3 b4 b5 fr tu n:Int) (we:Bool) (Y:Option Addr) (cy:Nat) (hz:¬ (1≤kd∧kd≤15)) (w:World) :
    Calls Try.prog 25 #[.agg #[.int .u8 kd,.int .i64 id,.int .i64 us,.int .i64 cl,.int .i64 a,.int .i64 b,.int .i64 c,.bool p,.bool q,.bool r,.bool tn,.int .i64 wa,.int .i64 pr,.bool he,.slice Y af.length cy,.int .u8 st,.int .i64 ca,.int .i64 ci,.int .i64 b0,.int .i64 b1,.int .i64 b2,.int .i64 b3,.int .i64 b4,.int .i64 b5,.int .i64 fr,.int .i64 tu,.int .i64 n,.bool we]] w fun e w' => RetO w w' ⟨kd,id,us,cl,a,b,c,p,q,r,tn,wa,pr,he,af,st,ca,ci,b0,b1,b2,b3,b4,b5,fr,tu,n,we⟩ e:=by
 have ZZ:=Lib.hid hz
 have h1:¬ isJob kd:=by unfold isJob;omega
 have h2:¬ isId kd:=by unfold isId;omega
 have h3:¬ isKeep kd:=by unfold isKeep;omega
 have h4:¬ isWell kd:=by unfold isWell;omega
 have h5:¬ isN kd:=by unfold isN;omega
 have ne1:(kd == 1)=false:=by rw [beq_eq_false_iff_ne];omega
 have ne2:(kd == 2)=false:=by rw [beq_eq_false_iff_ne];omega
 have ne3:(kd == 3)=false:=by rw [beq_eq_false_iff_ne];omega
 have ne4:(kd == 4)=false:=by rw [beq_eq_false_iff_ne];omega
 have ne5:(kd == 5)=false:=by rw [beq_eq_false_iff_ne];omega
 have ne6:(kd == 6)=false:=by rw [beq_eq_false_iff_ne];omega
 have ne7:(kd == 7)=false:=by rw [beq_eq_false_iff_ne];omega
 have ne8:(kd == 8)=false:=by rw [beq_eq_false_iff_ne];omega
 have ne9:(kd == 9)=false:=by rw [beq_eq_false_iff_ne];omega
 have ne10:(kd == 10)=false:=by rw [beq_eq_false_iff_ne];omega
 have ne11:(kd == 11)=false:=by rw [beq_eq_false_iff_ne];omega
 have ne12:(kd == 12)=false:=by rw [beq_eq_false_iff_ne];omega
 have ne13:(kd == 13)=false:=by rw [beq_eq_false_iff_ne];omega
 have ne14:(kd == 14)=false:=by rw [beq_eq_false_iff_ne];omega
 have ne15:(kd == 15)=false:=by rw [beq_eq_false_iff_ne];omega
 clear hz
 go_enter Try.func25,Try.ntmps25
 go_upto_region 1 with fail
 have KV:=Lib.hid ((Blk.new w 34 #[.int .u8 kd,.int .i64 id,.int .i64 us,.int .i64 cl,.int .i64 a,.int .i64 b,.int .i64 c,.bool p,.bool q,.bool r,.bool tn,.int .i64 wa,.int .i64 pr,.bool he,.slice Y af.length cy,.int .u8 st,.int .i64 ca,.int .i64 ci,.int .i64 b0,.int .i64 b1,.int .i64 b2,.int .i64 b3,.int .i64 b4,.int .i64 b5,.int .i64 fr,.int .i64 tu,.int .i64 n,.bool we]).alloc (.cells Sq.zzC 34))
 have KR:=Lib.hid (blk1 w 34 Sq.zzC (o:=.cells #[.int .u8 kd,.int .i64 id,.int .i64 us,.int .i64 cl,.int .i64 a,.int .i64 b,.int .i64 c,.bool p,.bool q,.bool r,.bool tn,.int .i64 wa,.int .i64 pr,.bool he,.slice Y af.length cy,.int .u8 st,.int .i64 ca,.int .i64 ci,.int .i64 b0,.int .i64 b1,.int .i64 b2,.int .i64 b3,.int .i64 b4,.int .i64 b5,.int .i64 fr,.int .i64 tu,.int .i64 n,.bool we] 34))
 have HB:=Lib.hid (below_alloc (o:=.cells Sq.zzC 34) (below_alloc (o:=.cells #[.int .u8 kd,.int .i64 id,.int .i64 us,.int .i64 cl,.int .i64 a,.int .i64 b,.int .i64 c,.bool p,.bool q,.bool r,.bool tn,.int .i64 wa,.int .i64 pr,.bool he,.slice Y af.length cy,.int .u8 st,.int .i64 ca,.int .i64 ci,.int .i64 b0,.int .i64 b1,.int .i64 b2,.int .i64 b3,.int .i64 b4,.int .i64 b5,.int .i64 fr,.int .i64 tu,.int .i64 n,.bool we] 34) (Below.refl w.heap.size w)))
 generalize (w.alloc (.cells #[.int .u8 kd,.int .i64 id,.int .i64 us,.int .i64 cl,.int .i64 a,.int .i64 b,.int .i64 c,.bool p,.bool q,.bool r,.bool tn,.int .i64 wa,.int .i64 pr,.bool he,.slice Y af.length cy,.int .u8 st,.int .i64 ca,.int .i64 ci,.int .i64 b0,.int .i64 b1,.int .i64 b2,.int .i64 b3,.int .i64 b4,.int .i64 b5,.int .i64 fr,.int .i64 tu,.int .i64 n,.bool we] 34)).alloc (.cells Sq.zzC 34)=Wa at *
 have k0:Wa.cell? ⟨w.heap.size,0,none⟩=some (.int .u8 kd):=KV.out.cell 0
 have x1:=box_full (W:=Wa) 34 Sq.zzC (vs:=[.int .u8 kd,.int .i64 0,.int .i64 0,.int .i64 0,.int .i64 0,.int .i64 0,.int .i64 0,.bool false,.bool false,.bool false,.bool false,.int .i64 0,.int .i64 0,.bool false,.slice none 0 0,.int .u8 0,.int .i64 0,.int .i64 0,.int .i64 0,.int .i64 0,.int .i64 0,.int .i64 0,.int .i64 0,.int .i64 0,.int .i64 0,.int .i64 0,.int .i64 0,.bool false]) rfl
 go_upto_region 2 with (first | (refine wpList_store_mid rfl 34 _ _ rfl Wa.heap.size 0 (List.toArray [.int .u8 kd,.int .i64 0,.int .i64 0,.int .i64 0,.int .i64 0,.int .i64 0,.int .i64 0,.bool false,.bool false,.bool false,.bool false,.int .i64 0,.int .i64 0,.bool false,.slice none 0 0,.int .u8 0,.int .i64 0,.int .i64 0,.int .i64 0,.int .i64 0,.int .i64 0,.int .i64 0,.int .i64 0,.int .i64 0,.int .i64 0,.int .i64 0,.int .i64 0,.bool false]) rfl rfl (there_of (Blk.new Wa 34 Sq.zzC) (Nat.le_of_ble_eq_true rfl)) (by kernel_rfl) (by kernel_rfl) ?_;simp only [List.toList_toArray];generalize World.setCells _ _ _ _=W0 at *;(try simp only [Act.put])))
 have HB:=Lib.hid (below_up HB.out x1.2)
 have KV:=Lib.hid (KV.out.below x1.2 KV.out.lt)
 have hr0:=KR.out.lt
 have KR:=Lib.hid (KR.out.below x1.2 KR.out.lt)
 obtain ⟨g,hg⟩:∃ n,n=Wa.heap.size:=⟨_,rfl⟩
 rw [← hg] at x1 hr0
 rw [← hg]
 have KO:=Lib.hid x1.1
 clear x1 k0 hg
 have a0:W0.cell? ⟨w.heap.size,0,none⟩=some (.int .u8 kd):=KV.out.cell 0
 go_upto_region 31 with fail
 clear a0
 have R9:=Lib.hid (show W0.rangeAt g 0 [.int .u8 kd,.int .i64 0,.int .i64 0,.int .i64 0,.int .i64 0,.int .i64 0,.int .i64 0,.bool false,.bool false,.bool false,.bool false,.int .i64 0,.int .i64 0,.bool false,.slice none 0 0,.int .u8 0,.int .i64 0,.int .i64 0,.int .i64 0,.int .i64 0,.int .i64 0,.int .i64 0,.int .i64 0,.int .i64 0,.int .i64 0,.int .i64 0,.int .i64 0,.bool false] from range_part (n:=28) KO.out rfl)
 have KZ:=full_blk (vs:=[.int .u8 kd,.int .i64 0,.int .i64 0,.int .i64 0,.int .i64 0,.int .i64 0,.int .i64 0,.bool false,.bool false,.bool false,.bool false,.int .i64 0,.int .i64 0,.bool false,.slice none 0 0,.int .u8 0,.int .i64 0,.int .i64 0,.int .i64 0,.int .i64 0,.int .i64 0,.int .i64 0,.int .i64 0,.int .i64 0,.int .i64 0,.int .i64 0,.int .i64 0,.bool false]) KR.out rfl
 have HBZ:=below_sets (g:=w.heap.size+1) (vs:=[.int .u8 kd,.int .i64 0,.int .i64 0,.int .i64 0,.int .i64 0,.int .i64 0,.int .i64 0,.bool false,.bool false,.bool false,.bool false,.int .i64 0,.int .i64 0,.bool false,.slice none 0 0,.int .u8 0,.int .i64 0,.int .i64 0,.int .i64 0,.int .i64 0,.int .i64 0,.int .i64 0,.int .i64 0,.int .i64 0,.int .i64 0,.int .i64 0,.int .i64 0,.bool false]) (i:=0) (by omega) HB.out
 go_wp2_with (first | (refine wpList_load_mid rfl 34 _ rfl _ _ rfl _ _ R9.out Try.underlying34 rfl (by kernel_rfl) ?_) | (refine wpList_store_mid rfl 34 _ _ rfl (w.heap.size+1) 0 (List.toArray [.int .u8 kd,.int .i64 0,.int .i64 0,.int .i64 0,.int .i64 0,.int .i64 0,.int .i64 0,.bool false,.bool false,.bool false,.bool false,.int .i64 0,.int .i64 0,.bool false,.slice none 0 0,.int .u8 0,.int .i64 0,.int .i64 0,.int .i64 0,.int .i64 0,.int .i64 0,.int .i64 0,.int .i64 0,.int .i64 0,.int .i64 0,.int .i64 0,.int .i64 0,.bool false]) rfl rfl (there_of KR.out (Nat.le_of_ble_eq_true rfl)) (by kernel_rfl) (by kernel_rfl) ?_;simp only [List.toList_toArray];generalize World.setCells _ _ _ _=wz at *;(try simp only [Act.put])))
 have e9:own ⟨kd,id,us,cl,a,b,c,p,q,r,tn,wa,pr,he,af,st,ca,ci,b0,b1,b2,b3,b4,b5,fr,tu,n,we⟩=⟨kd,0,0,0,0,0,0,false,false,false,false,0,0,false,[],0,0,0,0,0,0,0,0,0,0,0,0,false⟩:=by simp only [own,h1,h2,h3,h4,h5,if_false];rfl
 refine bodyPost_ret (results_cell_row rfl _ _ (w.heap.size+1) 34 _ (0,0) _ rfl KZ Try.underlying34 rfl (by kernel_rfl)) rfl ⟨none,0,(by rw [e9];rfl),(by rw [e9];exact Nat.le_refl _),(by rw [e9];exact IntsAt.nil),HBZ⟩
end Go.Proofs.Ytfdldbfjeamlcaa.RwOwn0
namespace Go.Proofs.Ytfdldbfjeamlcaa.RwOwn
set_option maxRecDepth 100000
set_option maxHeartbeats 4000000
open Go.Sort (grow)
open Go.RowKit Mem RecMem RecByte RecNum RecEach RecMath RecCommand RecCmdJ RecSame RecOwn RecRL0 RwNum RwOwn0
theorem rown1 (id us cl a b c:Int) (p q r tn:Bool) (wa pr:Int) (he:Bool) (af:List Int) (st ca ci b0 b1 b2 b3 b4 b5 fr tu n:Int) (we:Bool) (Y:Option Addr) (cy:Nat) (hl:af.length≤17592186044416) (w:World) (hI:IntsAt w Y af) :
    Calls Try.prog 25 #[.agg #[.int .u8 1,.int .i64 id,.int .i64 us,.int .i64 cl,.int .i64 a,.int .i64 b,.int .i64 c,.bool p,.bool q,.bool r,.bool tn,.int .i64 wa,.int .i64 pr,.bool he,.slice Y af.length cy,.int .u8 st,.int .i64 ca,.int .i64 ci,.int .i64 b0,.int .i64 b1,.int .i64 b2,.int .i64 b3,.int .i64 b4,.int .i64 b5,.int .i64 fr,.int .i64 tu,.int .i64 n,.bool we]] w fun e w' => RetO w w' ⟨1,id,us,cl,a,b,c,p,q,r,tn,wa,pr,he,af,st,ca,ci,b0,b1,b2,b3,b4,b5,fr,tu,n,we⟩ e:=by
 replace hI:=Lib.hid hI
 go_enter Try.func25,Try.ntmps25
 go_upto_region 1 with fail
 have KV:=Lib.hid ((Blk.new w 34 #[.int .u8 1,.int .i64 id,.int .i64 us,.int .i64 cl,.int .i64 a,.int .i64 b,.int .i64 c,.bool p,.bool q,.bool r,.bool tn,.int .i64 wa,.int .i64 pr,.bool he,.slice Y af.length cy,.int .u8 st,.int .i64 ca,.int .i64 ci,.int .i64 b0,.int .i64 b1,.int .i64 b2,.int .i64 b3,.int .i64 b4,.int .i64 b5,.int .i64 fr,.int .i64 tu,.int .i64 n,.bool we]).alloc (.cells Sq.zzC 34))
 have KR:=Lib.hid (blk1 w 34 Sq.zzC (o:=.cells #[.int .u8 1,.int .i64 id,.int .i64 us,.int .i64 cl,.int .i64 a,.int .i64 b,.int .i64 c,.bool p,.bool q,.bool r,.bool tn,.int .i64 wa,.int .i64 pr,.bool he,.slice Y af.length cy,.int .u8 st,.int .i64 ca,.int .i64 ci,.int .i64 b0,.int .i64 b1,.int .i64 b2,.int .i64 b3,.int .i64 b4,.int .i64 b5,.int .i64 fr,.int .i64 tu,.int .i64 n,.bool we] 34))
 have HB:=Lib.hid (below_alloc (o:=.cells Sq.zzC 34) (below_alloc (o:=.cells #[.int .u8 1,.int .i64 id,.int .i64 us,.int .i64 cl,.int .i64 a,.int .i64 b,.int .i64 c,.bool p,.bool q,.bool r,.bool tn,.int .i64 wa,.int .i64 pr,.bool he,.slice Y af.length cy,.int .u8 st,.int .i64 ca,.int .i64 ci,.int .i64 b0,.int .i64 b1,.int .i64 b2,.int .i64 b3,.int .i64 b4,.int .i64 b5,.int .i64 fr,.int .i64 tu,.int .i64 n,.bool we] 34) (Below.refl w.heap.size w)))
 generalize (w.alloc (.cells #[.int .u8 1,.int .i64 id,.int .i64 us,.int .i64 cl,.int .i64 a,.int .i64 b,.int .i64 c,.bool p,.bool q,.bool r,.bool tn,.int .i64 wa,.int .i64 pr,.bool he,.slice Y af.length cy,.int .u8 st,.int .i64 ca,.int .i64 ci,.int .i64 b0,.int .i64 b1,.int .i64 b2,.int .i64 b3,.int .i64 b4,.int .i64 b5,.int .i64 fr,.int .i64 tu,.int .i64 n,.bool we] 34)).alloc (.cells Sq.zzC 34)=Wa at *
 have k0:Wa.cell? ⟨w.heap.size,0,none⟩=some (.int .u8 1):=KV.out.cell 0
 have x1:=box_full (W:=Wa) 34 Sq.zzC (vs:=[.int .u8 1,.int .i64 0,.int .i64 0,.int .i64 0,.int .i64 0,.int .i64 0,.int .i64 0,.bool false,.bool false,.bool false,.bool false,.int .i64 0,.int .i64 0,.bool false,.slice none 0 0,.int .u8 0,.int .i64 0,.int .i64 0,.int .i64 0,.int .i64 0,.int .i64 0,.int .i64 0,.int .i64 0,.int .i64 0,.int .i64 0,.int .i64 0,.int .i64 0,.bool false]) rfl
 go_upto_region 2 with (first | (refine wpList_store_mid rfl 34 _ _ rfl Wa.heap.size 0 (List.toArray [.int .u8 1,.int .i64 0,.int .i64 0,.int .i64 0,.int .i64 0,.int .i64 0,.int .i64 0,.bool false,.bool false,.bool false,.bool false,.int .i64 0,.int .i64 0,.bool false,.slice none 0 0,.int .u8 0,.int .i64 0,.int .i64 0,.int .i64 0,.int .i64 0,.int .i64 0,.int .i64 0,.int .i64 0,.int .i64 0,.int .i64 0,.int .i64 0,.int .i64 0,.bool false]) rfl rfl (there_of (Blk.new Wa 34 Sq.zzC) (Nat.le_of_ble_eq_true rfl)) (by kernel_rfl) (by kernel_rfl) ?_;simp only [List.toList_toArray];generalize World.setCells _ _ _ _=W0 at *;(try simp only [Act.put])))
 have HB:=Lib.hid (below_up HB.out x1.2)
 have KV:=Lib.hid (KV.out.below x1.2 KV.out.lt)
 have hr0:=KR.out.lt
 have KR:=Lib.hid (KR.out.below x1.2 KR.out.lt)
 obtain ⟨g,hg⟩:∃ n,n=Wa.heap.size:=⟨_,rfl⟩
 rw [← hg] at x1 hr0
 rw [← hg]
 have KO:=Lib.hid x1.1
 clear x1 k0 hg
 have a0:W0.cell? ⟨w.heap.size,0,none⟩=some (.int .u8 1):=KV.out.cell 0
 have a2:W0.cell? ⟨w.heap.size,2,none⟩=some (.int .i64 us):=KV.out.cell 2
 have a3:W0.cell? ⟨w.heap.size,3,none⟩=some (.int .i64 cl):=KV.out.cell 3
 have o2:W0.cell? ⟨g,2,none⟩=some (.int .i64 0):=KO.out.cell 2
 have z2:=KO.out.frozen 2
 have o3:W0.cell? ⟨g,3,none⟩=some (.int .i64 0):=KO.out.cell 3
 have z3:=KO.out.frozen 3
 go_upto_region 6 with fail
 have KO1:=((KO.out.set_ 2 (.int .i64 us)).set_ 3 (.int .i64 cl))
 simp only [List.setIfInBounds_toArray,List.set_cons_zero,List.set_cons_succ] at KO1
 have KV1:=((KV.out.far (p:=⟨g,2,none⟩) (by simp only;omega) (.int .i64 us)).far (p:=⟨g,3,none⟩) (by simp only;omega) (.int .i64 cl))
 have KR1:=((KR.out.far (p:=⟨g,2,none⟩) (by simp only;omega) (.int .i64 us)).far (p:=⟨g,3,none⟩) (by simp only;omega) (.int .i64 cl))
 have HB1:=(below_set (below_set HB.out g 2 (.int .i64 us) (by omega)) g 3 (.int .i64 cl) (by omega))
 clear KO KV KR HB a0 a2 a3 o2 z2 o3 z3
 generalize (W0.setCell ⟨g,2,none⟩ (.int .i64 us)).setCell ⟨g,3,none⟩ (.int .i64 cl)=W1 at *
 have KO:=Lib.hid (show Blk W1 g 34 #[.int .u8 1,.int .i64 0,.int .i64 us,.int .i64 cl,.int .i64 0,.int .i64 0,.int .i64 0,.bool false,.bool false,.bool false,.bool false,.int .i64 0,.int .i64 0,.bool false,.slice none 0 0,.int .u8 0,.int .i64 0,.int .i64 0,.int .i64 0,.int .i64 0,.int .i64 0,.int .i64 0,.int .i64 0,.int .i64 0,.int .i64 0,.int .i64 0,.int .i64 0,.bool false] from KO1)
 have KV:=Lib.hid KV1
 have KR:=Lib.hid KR1
 have HB:=Lib.hid HB1
 clear KO1 KV1 KR1 HB1
 have R1:=Lib.hid (show W1.rangeAt w.heap.size 4 [.int .i64 a,.int .i64 b,.int .i64 c,.bool p,.bool q,.bool r,.bool tn] from range_part (n:=7) KV.out rfl)
 have KO1:=blk_setA (i:=4) (vs:=[.int .i64 a,.int .i64 b,.int .i64 c,.bool p,.bool q,.bool r,.bool tn]) KO.out
 simp only [setA,List.setIfInBounds_toArray,List.set_cons_zero,List.set_cons_succ] at KO1
 have KV1:=blk_sets_far (g:=g) (vs:=[.int .i64 a,.int .i64 b,.int .i64 c,.bool p,.bool q,.bool r,.bool tn]) (i:=4) (by omega) KV.out
 have KR1:=blk_sets_far (g:=g) (vs:=[.int .i64 a,.int .i64 b,.int .i64 c,.bool p,.bool q,.bool r,.bool tn]) (i:=4) (by omega) KR.out
 have HB1:=below_sets (g:=g) (vs:=[.int .i64 a,.int .i64 b,.int .i64 c,.bool p,.bool q,.bool r,.bool tn]) (i:=4) (by omega) HB.out
 go_upto_region 7 with (first | (refine wpList_load_mid rfl 25 _ rfl _ _ rfl _ _ R1.out Try.underlying25 rfl (by kernel_rfl) ?_) | (refine wpList_store_mid rfl 25 _ _ rfl g 4 (List.toArray [.int .i64 a,.int .i64 b,.int .i64 c,.bool p,.bool q,.bool r,.bool tn]) rfl rfl (there_of KO.out (Nat.le_of_ble_eq_true rfl)) (by kernel_rfl) (by kernel_rfl) ?_;simp only [List.toList_toArray];generalize World.setCells _ _ _ _=W2 at *;(try simp only [Act.put])))
 clear KO KV KR HB R1
 have KO:=Lib.hid (show Blk W2 g 34 #[.int .u8 1,.int .i64 0,.int .i64 us,.int .i64 cl,.int .i64 a,.int .i64 b,.int .i64 c,.bool p,.bool q,.bool r,.bool tn,.int .i64 0,.int .i64 0,.bool false,.slice none 0 0,.int .u8 0,.int .i64 0,.int .i64 0,.int .i64 0,.int .i64 0,.int .i64 0,.int .i64 0,.int .i64 0,.int .i64 0,.int .i64 0,.int .i64 0,.int .i64 0,.bool false] from KO1)
 have KV:=Lib.hid KV1
 have KR:=Lib.hid KR1
 have HB:=Lib.hid HB1
 clear KO1 KV1 KR1 HB1
 have a11:W2.cell? ⟨w.heap.size,11,none⟩=some (.int .i64 wa):=KV.out.cell 11
 have a12:W2.cell? ⟨w.heap.size,12,none⟩=some (.int .i64 pr):=KV.out.cell 12
 have a13:W2.cell? ⟨w.heap.size,13,none⟩=some (.bool he):=KV.out.cell 13
 have o11:W2.cell? ⟨g,11,none⟩=some (.int .i64 0):=KO.out.cell 11
 have z11:=KO.out.frozen 11
 have o12:W2.cell? ⟨g,12,none⟩=some (.int .i64 0):=KO.out.cell 12
 have z12:=KO.out.frozen 12
 have o13:W2.cell? ⟨g,13,none⟩=some (.bool false):=KO.out.cell 13
 have z13:=KO.out.frozen 13
 go_upto_region 10 with fail
 have KO1:=(((KO.out.set_ 11 (.int .i64 wa)).set_ 12 (.int .i64 pr)).set_ 13 (.bool he))
 simp only [List.setIfInBounds_toArray,List.set_cons_zero,List.set_cons_succ] at KO1
 have KV1:=(((KV.out.far (p:=⟨g,11,none⟩) (by simp only;omega) (.int .i64 wa)).far (p:=⟨g,12,none⟩) (by simp only;omega) (.int .i64 pr)).far (p:=⟨g,13,none⟩) (by simp only;omega) (.bool he))
 have KR1:=(((KR.out.far (p:=⟨g,11,none⟩) (by simp only;omega) (.int .i64 wa)).far (p:=⟨g,12,none⟩) (by simp only;omega) (.int .i64 pr)).far (p:=⟨g,13,none⟩) (by simp only;omega) (.bool he))
 have HB1:=(below_set (below_set (below_set HB.out g 11 (.int .i64 wa) (by omega)) g 12 (.int .i64 pr) (by omega)) g 13 (.bool he) (by omega))
 clear KO KV KR HB a11 a12 a13 o11 z11 o12 z12 o13 z13
 generalize ((W2.setCell ⟨g,11,none⟩ (.int .i64 wa)).setCell ⟨g,12,none⟩ (.int .i64 pr)).setCell ⟨g,13,none⟩ (.bool he)=W3 at *
 have KO:=Lib.hid (show Blk W3 g 34 #[.int .u8 1,.int .i64 0,.int .i64 us,.int .i64 cl,.int .i64 a,.int .i64 b,.int .i64 c,.bool p,.bool q,.bool r,.bool tn,.int .i64 wa,.int .i64 pr,.bool he,.slice none 0 0,.int .u8 0,.int .i64 0,.int .i64 0,.int .i64 0,.int .i64 0,.int .i64 0,.int .i64 0,.int .i64 0,.int .i64 0,.int .i64 0,.int .i64 0,.int .i64 0,.bool false] from KO1)
 have KV:=Lib.hid KV1
 have KR:=Lib.hid KR1
 have HB:=Lib.hid HB1
 clear KO1 KV1 KR1 HB1
 have hR:=IntsAt.reads (hI.out.up HB.out)
 have a14:W3.cell? ⟨w.heap.size,14,none⟩=some (.slice Y af.length cy):=KV.out.cell 14
 have o14:W3.cell? ⟨g,14,none⟩=some (.slice none 0 0):=KO.out.cell 14
 have z14:=KO.out.frozen 14
 obtain ⟨i0,hi0,hz0,hz1,hz2⟩:=info_parts int_inf
 have h1:∀ u ∈ af.map (Value.int .i64),u.oneCell' = true:=fun u hu=>by
  obtain ⟨n,_,rfl⟩:=List.mem_map.1 hu
  rfl
 have HR:=Lib.hid (And.intro hR (And.intro h1 (And.intro hi0 (And.intro hz0 (And.intro hz1 hz2)))))
 clear hR h1 hi0 hz0 hz1 hz2
 go_upto_region 31 with (first | (at_builtin;refine wpList_append_any _ rfl (.tmp 43) (.tmp 46) _ rfl W3.heap.size 3 i0 (.int .i64 0) 1 8 Try.underlying26 HR.out.2.2.1 HR.out.2.2.2.1 HR.out.2.2.2.2.1 HR.out.2.2.2.2.2 rfl (by decide) _ _ _ rfl (World.ownsRow_nil _ _ _ _) W3.heap.size Y af.length cy (af.map (Value.int .i64)) rfl HR.out.1 HR.out.2.1 (by simp only [maxLen];omega) (by omega) (Nat.le_refl _) ?_;intro v5 w5 hown hg5 hat;obtain ⟨V5,c5,rfl⟩:=own_form2 hown;have hB5:Below W3.heap.size W3 w5:=below_grown (World.ownsRow_nil W3 W3.heap.size 3 1) hg5 (Nat.le_refl _);have KO5:=KO.out.below hB5 KO.out.lt;have KV5:=Lib.hid (KV.out.below hB5 KV.out.lt);have KR5:=Lib.hid (KR.out.below hB5 KR.out.lt);have HB5:=Lib.hid (below_up HB.out hB5);have o5:w5.cell? ⟨g,14,none⟩=some (.slice none 0 0):=KO5.cell 14;have z5:=KO5.frozen 14;have HO5:=Lib.hid hown;have KO5:=Lib.hid KO5;clear hown hg5 hat hB5))
 clear o5 z5 a14 o14 z14
 have hgl:=KO.out.lt
 clear KO KV KR HB
 have KO:=KO5
 have KV:=KV5
 have KR:=KR5
 have HB:=HB5
 clear KO5 KV5 KR5 HB5
 have ho:w5.ownsRow W3.heap.size 3 1 (.slice V5 (0+af.length) c5) af.length (af.map (Value.int .i64)):=by have:=HO5.out;simpa using this
 obtain ⟨Y2,hY⟩:∃ Y2,Y2=V5:=⟨_,rfl⟩
 obtain ⟨c2,hc⟩:∃ c2,c2=c5:=⟨_,rfl⟩
 have hc2:af.length≤c2:=by
  rcases ho.2 with ⟨e,e0⟩ | ⟨g2,cap',cur,e,_,_,h1,_⟩
  ·rw [e0];exact Nat.zero_le _
  ·injection e with _ _ e3
   omega
 subst hY hc
 simp only [Nat.zero_add] at ho ⊢
 have hI5:IntsAt w5 Y2 af:=IntsAt.of_reads (Nat.le_refl _) (Reads.of_own ho)
 have hY2:∀ b o,Y2=some ⟨b,o,none⟩→g < b:=fun b o e=>by have h1:=(ho.lt b (by rw [e];rfl)).1;omega
 have hI6:=ints_sets (vs:=[.slice Y2 af.length c2]) (i:=14) hI5 KO.out (fun b o e=>by have:=hY2 b o e;omega)
 simp only [World.setCells] at hI6
 clear HO5 ho hI5
 have KO1:=(KO.out.set_ 14 (.slice Y2 af.length c2))
 simp only [List.setIfInBounds_toArray,List.set_cons_zero,List.set_cons_succ] at KO1
 have KV1:=(KV.out.far (p:=⟨g,14,none⟩) (by simp only;omega) (.slice Y2 af.length c2))
 have KR1:=(KR.out.far (p:=⟨g,14,none⟩) (by simp only;omega) (.slice Y2 af.length c2))
 have HB1:=(below_set HB.out g 14 (.slice Y2 af.length c2) (by omega))
 clear KO KV KR HB  
 generalize w5.setCell ⟨g,14,none⟩ (.slice Y2 af.length c2)=W4 at *
 have KO:=Lib.hid (show Blk W4 g 34 #[.int .u8 1,.int .i64 0,.int .i64 us,.int .i64 cl,.int .i64 a,.int .i64 b,.int .i64 c,.bool p,.bool q,.bool r,.bool tn,.int .i64 wa,.int .i64 pr,.bool he,.slice Y2 af.length c2,.int .u8 0,.int .i64 0,.int .i64 0,.int .i64 0,.int .i64 0,.int .i64 0,.int .i64 0,.int .i64 0,.int .i64 0,.int .i64 0,.int .i64 0,.int .i64 0,.bool false] from KO1)
 have KV:=Lib.hid KV1
 have KR:=Lib.hid KR1
 have HB:=Lib.hid HB1
 clear KO1 KV1 KR1 HB1
 have hI7:=ints_sets (vs:=[.int .u8 1,.int .i64 0,.int .i64 us,.int .i64 cl,.int .i64 a,.int .i64 b,.int .i64 c,.bool p,.bool q,.bool r,.bool tn,.int .i64 wa,.int .i64 pr,.bool he,.slice Y2 af.length c2,.int .u8 0,.int .i64 0,.int .i64 0,.int .i64 0,.int .i64 0,.int .i64 0,.int .i64 0,.int .i64 0,.int .i64 0,.int .i64 0,.int .i64 0,.int .i64 0,.bool false]) (i:=0) hI6 KR.out (fun b o e=>by have:=hY2 b o e;omega)
 have R9:=Lib.hid (show W4.rangeAt g 0 [.int .u8 1,.int .i64 0,.int .i64 us,.int .i64 cl,.int .i64 a,.int .i64 b,.int .i64 c,.bool p,.bool q,.bool r,.bool tn,.int .i64 wa,.int .i64 pr,.bool he,.slice Y2 af.length c2,.int .u8 0,.int .i64 0,.int .i64 0,.int .i64 0,.int .i64 0,.int .i64 0,.int .i64 0,.int .i64 0,.int .i64 0,.int .i64 0,.int .i64 0,.int .i64 0,.bool false] from range_part (n:=28) KO.out rfl)
 have KZ:=full_blk (vs:=[.int .u8 1,.int .i64 0,.int .i64 us,.int .i64 cl,.int .i64 a,.int .i64 b,.int .i64 c,.bool p,.bool q,.bool r,.bool tn,.int .i64 wa,.int .i64 pr,.bool he,.slice Y2 af.length c2,.int .u8 0,.int .i64 0,.int .i64 0,.int .i64 0,.int .i64 0,.int .i64 0,.int .i64 0,.int .i64 0,.int .i64 0,.int .i64 0,.int .i64 0,.int .i64 0,.bool false]) KR.out rfl
 have HBZ:=below_sets (g:=w.heap.size+1) (vs:=[.int .u8 1,.int .i64 0,.int .i64 us,.int .i64 cl,.int .i64 a,.int .i64 b,.int .i64 c,.bool p,.bool q,.bool r,.bool tn,.int .i64 wa,.int .i64 pr,.bool he,.slice Y2 af.length c2,.int .u8 0,.int .i64 0,.int .i64 0,.int .i64 0,.int .i64 0,.int .i64 0,.int .i64 0,.int .i64 0,.int .i64 0,.int .i64 0,.int .i64 0,.int .i64 0,.bool false]) (i:=0) (by omega) HB.out
 clear hI6
 go_wp2_with (first | (refine wpList_load_mid rfl 34 _ rfl _ _ rfl _ _ R9.out Try.underlying34 rfl (by kernel_rfl) ?_) | (refine wpList_store_mid rfl 34 _ _ rfl (w.heap.size+1) 0 (List.toArray [.int .u8 1,.int .i64 0,.int .i64 us,.int .i64 cl,.int .i64 a,.int .i64 b,.int .i64 c,.bool p,.bool q,.bool r,.bool tn,.int .i64 wa,.int .i64 pr,.bool he,.slice Y2 af.length c2,.int .u8 0,.int .i64 0,.int .i64 0,.int .i64 0,.int .i64 0,.int .i64 0,.int .i64 0,.int .i64 0,.int .i64 0,.int .i64 0,.int .i64 0,.int .i64 0,.bool false]) rfl rfl (there_of KR.out (Nat.le_of_ble_eq_true rfl)) (by kernel_rfl) (by kernel_rfl) ?_;simp only [List.toList_toArray];generalize World.setCells _ _ _ _=wz at *;(try simp only [Act.put])))
 have e9:own ⟨1,id,us,cl,a,b,c,p,q,r,tn,wa,pr,he,af,st,ca,ci,b0,b1,b2,b3,b4,b5,fr,tu,n,we⟩=⟨1,0,us,cl,a,b,c,p,q,r,tn,wa,pr,he,af,0,0,0,0,0,0,0,0,0,0,0,0,false⟩:=rfl
 refine bodyPost_ret (results_cell_row rfl _ _ (w.heap.size+1) 34 _ (0,0) _ rfl KZ Try.underlying34 rfl (by kernel_rfl)) rfl ⟨Y2,c2,(by rw [e9]),(by rw [e9];exact hc2),(by rw [e9];exact hI7),HBZ⟩
theorem rown (c:CV) (Y:Option Addr) (cy:Nat) (hl:c.af.length≤17592186044416) (w:World) (hI:IntsAt w Y c.af) :
    Calls Try.prog 25 #[.agg (RecVal.cL c Y cy).toArray] w fun e w' => RetO w w' c e:=by
 obtain ⟨kd,id,us,cl,a,b,c,p,q,r,tn,wa,pr,he,af,st,ca,ci,b0,b1,b2,b3,b4,b5,fr,tu,n,we⟩:=c
 by_cases hz:1≤kd∧kd≤15
 ·by_cases h1:kd=1
  ·subst h1
   exact rown1 id us cl a b c p q r tn wa pr he af st ca ci b0 b1 b2 b3 b4 b5 fr tu n we Y cy hl w hI
  ·by_cases hI:kd=2∨kd=3∨kd=4∨kd=6
   ·exact rownI kd id us cl a b c p q r tn wa pr he af st ca ci b0 b1 b2 b3 b4 b5 fr tu n we Y cy hI w
   ·by_cases hK:kd=5
    ·exact rownK kd id us cl a b c p q r tn wa pr he af st ca ci b0 b1 b2 b3 b4 b5 fr tu n we Y cy hK w
    ·by_cases hW:kd=8∨kd=9
     ·exact rownW kd id us cl a b c p q r tn wa pr he af st ca ci b0 b1 b2 b3 b4 b5 fr tu n we Y cy hW w
     ·exact rownN kd id us cl a b c p q r tn wa pr he af st ca ci b0 b1 b2 b3 b4 b5 fr tu n we Y cy (by omega) w
 ·exact rownZ kd id us cl a b c p q r tn wa pr he af st ca ci b0 b1 b2 b3 b4 b5 fr tu n we Y cy hz w
end Go.Proofs.Ytfdldbfjeamlcaa.RwOwn
namespace Go.Proofs.Ytfdldbfjeamlcaa.RwMay
set_option maxRecDepth 100000
set_option maxHeartbeats 20000000
open Go.Sort (grow)
open Go.RowKit Mem RecMem RecByte RecNum RecEach RecMath RecCommand RecCmdJ RecWr0 RecVal RecCod RecCods RecSame RecOwn RecRecC RecWAt RecWOk RecSameA RecAll RecGuard RecF1 RecF2 RecF3 RecRL0 RwNum RwState0 RecWrite0 RwOwn0 RwOwn RwShort RwMay0 QuietRow
theorem rwmay (r:RV) (x:SA) (Y:Option Addr) (cy:Nat) (F:RFacts r) (w:World) (h:RIs w r x Y cy) :
    Calls Try.prog 52 #[.agg (rL r x Y cy).toArray] w fun e w' => MayE r e∧Below w.heap.size w w':=by
 have HF:=Lib.hid F
 have HI:=Lib.hid h
 clear h F
 go_enter Try.func52,Try.ntmps52
 go_upto_region 1 with fail
 have KA:=Lib.hid (Blk.new w 51 (rL r x Y cy).toArray)
 have HB:=Lib.hid (below_alloc (o:=.cells (rL r x Y cy).toArray 51) (Below.refl w.heap.size w))
 generalize w.alloc (.cells (rL r x Y cy).toArray 51)=W0 at *
 have HI1:=Lib.hid (HI.out.up HB.out)
 have k0:W0.cell? ⟨w.heap.size,0,none⟩=some (.int .i64 r.g):=KA.out.cell 0
 have k17:W0.cell? ⟨w.heap.size,17,none⟩=some (.int .u8 r.c.kd):=KA.out.cell 17
 have RA:=Lib.hid (show W0.rangeAt w.heap.size 0 (rL r x Y cy) from range_part (n:=45) KA.out rfl)
 by_cases hg0:r.g < 0
 ·have EV:=Lib.hid (mayE_no (r:=r) fun h=>by have:=h.1.1;omega)
  go_wp2_with fail
  go_ret
  exact ⟨EV.out,HB.out⟩
 ·by_cases hg1:2147483647 < r.g
  ·have EV:=Lib.hid (mayE_no (r:=r) fun h=>by have:=h.1.2;omega)
   go_wp2_with fail
   go_ret
   exact ⟨EV.out,HB.out⟩
  ·have HS:=Lib.hid (rwshort r x Y cy HF.out W0 HI1.out)
   go_wp2_with (first | (refine wpList_load_midG (by rfl) 51 _ rfl _ _ rfl _ _ RA.out Try.underlying51 rfl (by kernel_rfl) ?_))
   refine HS.out.mono ?_
   rintro e w1 ⟨rfl,hB1⟩
   have HB1:=Lib.hid (below_up HB.out hB1)
   have KA1:=Lib.hid (KA.out.below hB1 KA.out.lt)
   have HI2:=Lib.hid (HI1.out.up hB1)
   clear hB1 HS k0 k17 RA
   have k0:w1.cell? ⟨w.heap.size,0,none⟩=some (.int .i64 r.g):=KA1.out.cell 0
   have k17:w1.cell? ⟨w.heap.size,17,none⟩=some (.int .u8 r.c.kd):=KA1.out.cell 17
   rcases hb:shB r with _ | _
   ·have EV:=Lib.hid (mayE_no (r:=r) fun h=>by rw [shB_iff.2 (may_short h)] at hb;cases hb)
    go_wp2_with fail
    go_ret
    exact ⟨EV.out,HB1.out⟩
   ·have HSh:=Lib.hid (shB_iff.1 hb)
    clear hb
    by_cases h0:0 < r.g
    ·have RC:=Lib.hid (show w1.rangeAt w.heap.size 17 (cL r.c Y cy) from range_part (n:=28) KA1.out rfl)
     have HC:=Lib.hid (rsameCmd28 r.c CV.z Y none cy 0 HF.out.hc zc_wf HF.out.ht.F (Nat.zero_le _) w1 HI2.out.af IntsAt.nil)
     have EQ:=Lib.hid (may_state HF.out h0 (by omega) HSh.out)
     go_wp2_with (first | (refine wpList_load_mid rfl 34 _ rfl _ _ rfl _ _ RC.out Try.underlying34 rfl (by kernel_rfl) ?_))
     refine HC.out.mono ?_
     rintro e w2 ⟨rfl,hB2⟩
     have HB2:=Lib.hid (below_up HB1.out hB2)
     clear hB2 HC k0 k17
     go_wp2_with fail
     exact bodyPost_ret (v:=.bool (decide (r.c=CV.z))) (by simp [results,Try.results52,go_sem]) rfl ⟨⟨_,rfl,by rw [EQ.out,decide_eq_true_eq]⟩,HB2.out⟩
    ·have hg:r.g=0:=by omega
     have HG:=Lib.hid hg
     have EQ:=Lib.hid (may_cmd HF.out hg HSh.out)
     clear hg
     go_upto_region 5 with fail
     by_cases hk1:1≤r.c.kd
     ·by_cases hk2:r.c.kd≤15
      ·have HK:=Lib.hid (And.intro hk1 hk2)
       have d1:decide ((1:Int)≤r.c.kd)=true:=decide_eq_true hk1
       have d2:decide (r.c.kd≤(15:Int))=true:=decide_eq_true hk2
       have k17:w1.cell? ⟨w.heap.size,17,none⟩=some (.int .u8 r.c.kd):=KA1.out.cell 17
       clear hk1 hk2
       have HO:=Lib.hid (fun (W:World) (h:IntsAt W Y r.c.af)=>rown r.c Y cy HF.out.hL W h)
       have HS:=Lib.hid (fun (W:World) (h:StAt W r.s x)=>rsameState28 r.s SV.z x SA.z HF.out.hs z_wf (rtop_st HF.out.ht) (rtop_st z_facts.ht) W h StAt.z)
       by_cases he:r.c=own r.c
       ·have HEc:=Lib.hid he
        have HC:=Lib.hid (show ∀ (W:World) (Y5:Option Addr) (c5:Nat),IntsAt W Y r.c.af→IntsAt W Y5 (own r.c).af→Calls Try.prog 24 #[.agg (cL r.c Y cy).toArray,.agg (cmdA (own r.c) Y5 c5)] W fun e w' => e = .returned (.bool true)∧Below W.heap.size W w' from fun W Y5 c5 h1 h2=>by
         have:=rsameCmd28 r.c (own r.c) Y Y5 cy c5 HF.out.hc (own_wf HF.out.hc) HF.out.ht.F (by have:=own_len HSh.out.F;omega) W h1 h2
         rw [decide_eq_true HEc.out] at this
         exact this)
        clear he
        refine wp_region_held_drew (S:=(fun W=>Below w1.heap.size w1 W)) (by kernel_rfl) ?_ (fun hHeld=>?_)
        ·exact (Below.refl _ w1).drew
        refine' wpAnyH_take (i:=0) (v:=?v17) rfl (by kernel_rfl) (by kernel_rfl) (by kernel_rfl) (fun _ _ _ h=>h) (Or.inl ⟨by rfl,?y17⟩) (by assumption) ?r17
        case y17=>(intro W hSw;(try dsimp only at hSw);go_simp;try with_reducible rfl)
        (try simp only [Act.put,List.getElem_toArray,List.getElem_cons_zero,List.getElem_cons_succ,List.setIfInBounds_toArray,List.set_cons_zero,List.set_cons_succ])
        refine' wpAnyH_take (i:=1) (v:=?v18) rfl (by kernel_rfl) (by kernel_rfl) (by kernel_rfl) (fun _ _ _ h=>h) (Or.inl ⟨by rfl,?y18⟩) (by assumption) ?r18
        case y18=>(intro W hSw;(try dsimp only at hSw);go_simp;try with_reducible rfl)
        (try simp only [Act.put,List.getElem_toArray,List.getElem_cons_zero,List.getElem_cons_succ,List.setIfInBounds_toArray,List.set_cons_zero,List.set_cons_succ])
        refine' wpAnyH_take (i:=2) (v:=?v19) rfl (by kernel_rfl) (by kernel_rfl) (by kernel_rfl) (fun _ _ _ h=>h) (Or.inl ⟨by rfl,?y19⟩) (by assumption) ?r19
        case y19=>(intro W hSw;(try dsimp only at hSw);have q0:=(KA1.out.below hSw KA1.out.lt).cell 17;go_simp;try with_reducible rfl)
        (try simp only [Act.put,List.getElem_toArray,List.getElem_cons_zero,List.getElem_cons_succ,List.setIfInBounds_toArray,List.set_cons_zero,List.set_cons_succ])
        refine' wpAnyH_take (i:=3) (v:=?v20) rfl (by kernel_rfl) (by kernel_rfl) (by kernel_rfl) (fun _ _ _ h=>h) (Or.inl ⟨by rfl,?y20⟩) (by assumption) ?r20
        case y20=>(intro W hSw;(try dsimp only at hSw);go_simp;try with_reducible rfl)
        (try simp only [Act.put,List.getElem_toArray,List.getElem_cons_zero,List.getElem_cons_succ,List.setIfInBounds_toArray,List.set_cons_zero,List.set_cons_succ])
        refine' wpAnyH_take (i:=4) (v:=?v21) rfl (by kernel_rfl) (by kernel_rfl) (by kernel_rfl) (fun _ _ _ h=>h) (Or.inl ⟨by rfl,?y21⟩) (by assumption) ?r21
        case y21=>(intro W hSw;(try dsimp only at hSw);go_simp;try with_reducible rfl)
        (try simp only [Act.put,List.getElem_toArray,List.getElem_cons_zero,List.getElem_cons_succ,List.setIfInBounds_toArray,List.set_cons_zero,List.set_cons_succ])
        refine' wpAnyH_take (i:=5) (v:=?v22) rfl (by kernel_rfl) (by kernel_rfl) (by kernel_rfl) (fun _ _ _ h=>h) (Or.inl ⟨by rfl,?y22⟩) (by assumption) ?r22
        case y22=>(intro W hSw;(try dsimp only at hSw);go_simp;try with_reducible rfl)
        (try simp only [Act.put,List.getElem_toArray,List.getElem_cons_zero,List.getElem_cons_succ,List.setIfInBounds_toArray,List.set_cons_zero,List.set_cons_succ])
        refine' wpAnyH_take (i:=6) (v:=?v23) rfl (by kernel_rfl) (by kernel_rfl) (by kernel_rfl) (fun _ _ _ h=>h) (Or.inl ⟨by rfl,?y23⟩) (by assumption) ?r23
        case y23=>(intro W hSw;(try dsimp only at hSw);go_simp;try with_reducible rfl)
        (try simp only [Act.put,List.getElem_toArray,List.getElem_cons_zero,List.getElem_cons_succ,List.setIfInBounds_toArray,List.set_cons_zero,List.set_cons_succ])
        refine' wpAnyH_take (i:=7) (v:=?v24) rfl (by kernel_rfl) (by kernel_rfl) (by kernel_rfl) (fun _ _ _ h=>h) (Or.inl ⟨by rfl,?y24⟩) (by assumption) ?r24
        case y24=>(intro W hSw;(try dsimp only at hSw);have q0:=(KA1.out.below hSw KA1.out.lt).cell 17;go_simp;try with_reducible rfl)
        (try simp only [Act.put,List.getElem_toArray,List.getElem_cons_zero,List.getElem_cons_succ,List.setIfInBounds_toArray,List.set_cons_zero,List.set_cons_succ])
        refine' wpAnyH_take (i:=8) (v:=?v25) rfl (by kernel_rfl) (by kernel_rfl) (by kernel_rfl) (fun _ _ _ h=>h) (Or.inl ⟨by rfl,?y25⟩) (by assumption) ?r25
        case y25=>(intro W hSw;(try dsimp only at hSw);go_simp;try with_reducible rfl)
        (try simp only [Act.put,List.getElem_toArray,List.getElem_cons_zero,List.getElem_cons_succ,List.setIfInBounds_toArray,List.set_cons_zero,List.set_cons_succ])
        refine' wpAnyH_take (i:=9) (v:=?v26) rfl (by kernel_rfl) (by kernel_rfl) (by kernel_rfl) (fun _ _ _ h=>h) (Or.inl ⟨by rfl,?y26⟩) (by assumption) ?r26
        case y26=>(intro W hSw;(try dsimp only at hSw);go_simp;try with_reducible rfl)
        (try simp only [Act.put,List.getElem_toArray,List.getElem_cons_zero,List.getElem_cons_succ,List.setIfInBounds_toArray,List.set_cons_zero,List.set_cons_succ])
        refine' wpAnyH_take (i:=10) (v:=?v27) rfl (by kernel_rfl) (by kernel_rfl) (by kernel_rfl) (fun _ _ _ h=>h) (Or.inl ⟨by rfl,?y27⟩) (by assumption) ?r27
        case y27=>(intro W hSw;(try dsimp only at hSw);go_simp;try with_reducible rfl)
        (try simp only [Act.put,List.getElem_toArray,List.getElem_cons_zero,List.getElem_cons_succ,List.setIfInBounds_toArray,List.set_cons_zero,List.set_cons_succ])
        refine' wpAnyH_take (i:=11) (v:=?v28) rfl (by kernel_rfl) (by kernel_rfl) (by kernel_rfl) (fun _ _ _ h=>h) (Or.inl ⟨by rfl,?y28⟩) (by assumption) ?r28
        case y28=>(intro W hSw;(try dsimp only at hSw);go_simp;try with_reducible rfl)
        (try simp only [Act.put,List.getElem_toArray,List.getElem_cons_zero,List.getElem_cons_succ,List.setIfInBounds_toArray,List.set_cons_zero,List.set_cons_succ])
        refine' wpAnyH_take (i:=12) (v:=_) rfl (by kernel_rfl) (by kernel_rfl) (by kernel_rfl) (fun _ _ _ h=>h) (yieldsIf_load_mid (by rfl) _ _ rfl _ _ rfl (cL r.c Y cy) _ (fun W hSw=>range_part (n:=28) (KA1.out.below hSw KA1.out.lt) rfl) Try.underlying34 rfl (by kernel_rfl)) (by assumption) ?r29
        (try simp only [Act.put,List.getElem_toArray,List.getElem_cons_zero,List.getElem_cons_succ,List.setIfInBounds_toArray,List.set_cons_zero,List.set_cons_succ])
        refine' wpAnyH_take (i:=13) (v:=?v30) rfl (by kernel_rfl) (by kernel_rfl) (by kernel_rfl) (fun _ _ _ h=>h) (Or.inl ⟨by rfl,?y30⟩) (by assumption) ?r30
        case y30=>(intro W hSw;(try dsimp only at hSw);go_simp;try with_reducible rfl)
        (try simp only [Act.put,List.getElem_toArray,List.getElem_cons_zero,List.getElem_cons_succ,List.setIfInBounds_toArray,List.set_cons_zero,List.set_cons_succ])
        refine' wpAnyH_take (i:=14) (v:=_) rfl (by kernel_rfl) (by kernel_rfl) (by kernel_rfl) (fun _ _ _ h=>h) (yieldsIf_load_mid (by rfl) _ _ rfl _ _ rfl (cL r.c Y cy) _ (fun W hSw=>range_part (n:=28) (KA1.out.below hSw KA1.out.lt) rfl) Try.underlying34 rfl (by kernel_rfl)) (by assumption) ?r31
        (try simp only [Act.put,List.getElem_toArray,List.getElem_cons_zero,List.getElem_cons_succ,List.setIfInBounds_toArray,List.set_cons_zero,List.set_cons_succ])
        refine wpAnyH_ready (rs:=[15]) (by kernel_rfl) (by simp) ?_
        refine AllReadyH.cons (i:=15) rfl (fun K hK=>?_) ?_
        ·go_simp
         refine (HO.out w1.drew (HI2.out.af.up (below_drew1 w1))).mono ?_
         rintro e w5 ⟨Y5,c5,rfl,hc5,hI5,hB5⟩
         have H5:=Lib.hid (And.intro (below_up (below_drew1 w1) hB5) hI5)
         clear hI5 hB5
         (try dsimp only)
         refine hK.out _ _ ?_ (fun hHeld=>?_)
         ·exact H5.out.1
         clear hK K
         (try simp only [Act.put,List.getElem_toArray,List.getElem_cons_zero,List.getElem_cons_succ,List.setIfInBounds_toArray,List.set_cons_zero,List.set_cons_succ])
         refine wpAnyH_ready (rs:=[16]) (by kernel_rfl) (by simp) ?_
         refine AllReadyH.cons (i:=16) rfl (fun K hK=>?_) ?_
         ·go_simp
          refine (HC.out w5 Y5 c5 (HI2.out.af.up H5.out.1) H5.out.2).mono ?_
          rintro e w6 ⟨rfl,hB6⟩
          have H6:=Lib.hid (And.intro (below_up H5.out.1 hB6) (below_up HB1.out (below_up H5.out.1 hB6)))
          clear hB6 H5
          (try dsimp only)
          refine hK.out _ _ ?_ (fun hHeld=>?_)
          ·exact H6.out.1
          clear hK K
          (try simp only [Act.put,List.getElem_toArray,List.getElem_cons_zero,List.getElem_cons_succ,List.setIfInBounds_toArray,List.set_cons_zero,List.set_cons_succ])
          refine' wpAnyH_take (i:=17) (v:=?v32) rfl (by kernel_rfl) (by kernel_rfl) (by kernel_rfl) (fun _ _ _ h=>h) (Or.inl ⟨by rfl,?y32⟩) (by assumption) ?r32
          case y32=>(intro W hSw;(try dsimp only at hSw);go_simp;try with_reducible rfl)
          (try simp only [Act.put,List.getElem_toArray,List.getElem_cons_zero,List.getElem_cons_succ,List.setIfInBounds_toArray,List.set_cons_zero,List.set_cons_succ])
          refine' wpAnyH_take (i:=18) (v:=?v33) rfl (by kernel_rfl) (by kernel_rfl) (by kernel_rfl) (fun _ _ _ h=>h) (Or.inl ⟨by rfl,?y33⟩) (by assumption) ?r33
          case y33=>(intro W hSw;(try dsimp only at hSw);go_simp;try with_reducible rfl)
          (try simp only [Act.put,List.getElem_toArray,List.getElem_cons_zero,List.getElem_cons_succ,List.setIfInBounds_toArray,List.set_cons_zero,List.set_cons_succ])
          refine' wpAnyH_take (i:=19) (v:=?v34) rfl (by kernel_rfl) (by kernel_rfl) (by kernel_rfl) (fun _ _ _ h=>h) (Or.inl ⟨by rfl,?y34⟩) (by assumption) ?r34
          case y34=>(intro W hSw;(try dsimp only at hSw);go_simp;try with_reducible rfl)
          (try simp only [Act.put,List.getElem_toArray,List.getElem_cons_zero,List.getElem_cons_succ,List.setIfInBounds_toArray,List.set_cons_zero,List.set_cons_succ])
          refine' wpAnyH_take (i:=20) (v:=_) rfl (by kernel_rfl) (by kernel_rfl) (by kernel_rfl) (fun _ _ _ h=>h) (yieldsIf_load_mid (by rfl) _ _ rfl _ _ rfl (sL r.s x) _ (fun W hSw=>range_part (n:=16) (KA1.out.below hSw KA1.out.lt) rfl) Try.underlying49 rfl (by kernel_rfl)) (by assumption) ?r35
          (try simp only [Act.put,List.getElem_toArray,List.getElem_cons_zero,List.getElem_cons_succ,List.setIfInBounds_toArray,List.set_cons_zero,List.set_cons_succ])
          refine' wpAnyH_take (i:=21) (v:=?v36) rfl (by kernel_rfl) (by kernel_rfl) (by kernel_rfl) (fun _ _ _ h=>h) (Or.inl ⟨by rfl,?y36⟩) (by assumption) ?r36
          case y36=>(intro W hSw;(try dsimp only at hSw);go_simp;try with_reducible rfl)
          (try simp only [Act.put,List.getElem_toArray,List.getElem_cons_zero,List.getElem_cons_succ,List.setIfInBounds_toArray,List.set_cons_zero,List.set_cons_succ])
          refine wpAnyH_ready (rs:=[22]) (by kernel_rfl) (by simp) ?_
          refine AllReadyH.cons (i:=22) rfl (fun K hK=>?_) ?_
          ·go_simp
           refine (HS.out w6 (HI2.out.st.up H6.out.1)).mono ?_
           rintro e w7 ⟨rfl,hB7⟩
           have H7:=Lib.hid (And.intro (below_up H6.out.1 hB7) (below_up H6.out.2 hB7))
           clear hB7 H6
           (try dsimp only)
           refine hK.out _ _ ?_ (fun hHeld=>?_)
           ·exact H7.out.1
           clear hK K
           (try simp only [Act.put,List.getElem_toArray,List.getElem_cons_zero,List.getElem_cons_succ,List.setIfInBounds_toArray,List.set_cons_zero,List.set_cons_succ])
           refine' wpAnyH_take (i:=23) (v:=?v37) rfl (by kernel_rfl) (by kernel_rfl) (by kernel_rfl) (fun _ _ _ h=>h) (Or.inl ⟨by rfl,?y37⟩) (by assumption) ?r37
           case y37=>(intro W hSw;(try dsimp only at hSw);go_simp;try with_reducible rfl)
           (try simp only [Act.put,List.getElem_toArray,List.getElem_cons_zero,List.getElem_cons_succ,List.setIfInBounds_toArray,List.set_cons_zero,List.set_cons_succ])
           refine' wpAnyH_take (i:=24) (v:=?v38) rfl (by kernel_rfl) (by kernel_rfl) (by kernel_rfl) (fun _ _ _ h=>h) (Or.inl ⟨by rfl,?y38⟩) (by assumption) ?r38
           case y38=>(intro W hSw;(try dsimp only at hSw);go_simp;try with_reducible rfl)
           (try simp only [Act.put,List.getElem_toArray,List.getElem_cons_zero,List.getElem_cons_succ,List.setIfInBounds_toArray,List.set_cons_zero,List.set_cons_succ])
           refine wpAnyH_done (by kernel_rfl) ?_ _
           go_wp2_with fail
           exact bodyPost_ret (v:=.bool (decide (r.s=SV.z))) (by simp [results,Try.results52,go_sem]) rfl ⟨⟨_,rfl,by rw [EQ.out,decide_eq_true_eq];exact ⟨fun h=>⟨HK.out,HEc.out,h⟩,fun h=>h.2.2⟩⟩,H7.out.2⟩
          exact AllReadyH.nil
         exact AllReadyH.nil
        exact AllReadyH.nil
       ·have EV:=Lib.hid (mayE_no (r:=r) fun h=>he (EQ.out.1 h).2.1)
        have HC:=Lib.hid (show ∀ (W:World) (Y5:Option Addr) (c5:Nat),IntsAt W Y r.c.af→IntsAt W Y5 (own r.c).af→Calls Try.prog 24 #[.agg (cL r.c Y cy).toArray,.agg (cmdA (own r.c) Y5 c5)] W fun e w' => e = .returned (.bool false)∧Below W.heap.size W w' from fun W Y5 c5 h1 h2=>by
         have:=rsameCmd28 r.c (own r.c) Y Y5 cy c5 HF.out.hc (own_wf HF.out.hc) HF.out.ht.F (by have:=own_len HSh.out.F;omega) W h1 h2
         rw [decide_eq_false he] at this
         exact this)
        clear he
        refine wp_region_held_drew (S:=(fun W=>Below w1.heap.size w1 W)) (by kernel_rfl) ?_ (fun hHeld=>?_)
        ·exact (Below.refl _ w1).drew
        refine' wpAnyH_take (i:=0) (v:=?v39) rfl (by kernel_rfl) (by kernel_rfl) (by kernel_rfl) (fun _ _ _ h=>h) (Or.inl ⟨by rfl,?y39⟩) (by assumption) ?r39
        case y39=>(intro W hSw;(try dsimp only at hSw);go_simp;try with_reducible rfl)
        (try simp only [Act.put,List.getElem_toArray,List.getElem_cons_zero,List.getElem_cons_succ,List.setIfInBounds_toArray,List.set_cons_zero,List.set_cons_succ])
        refine' wpAnyH_take (i:=1) (v:=?v40) rfl (by kernel_rfl) (by kernel_rfl) (by kernel_rfl) (fun _ _ _ h=>h) (Or.inl ⟨by rfl,?y40⟩) (by assumption) ?r40
        case y40=>(intro W hSw;(try dsimp only at hSw);go_simp;try with_reducible rfl)
        (try simp only [Act.put,List.getElem_toArray,List.getElem_cons_zero,List.getElem_cons_succ,List.setIfInBounds_toArray,List.set_cons_zero,List.set_cons_succ])
        refine' wpAnyH_take (i:=2) (v:=?v41) rfl (by kernel_rfl) (by kernel_rfl) (by kernel_rfl) (fun _ _ _ h=>h) (Or.inl ⟨by rfl,?y41⟩) (by assumption) ?r41
        case y41=>(intro W hSw;(try dsimp only at hSw);have q0:=(KA1.out.below hSw KA1.out.lt).cell 17;go_simp;try with_reducible rfl)
        (try simp only [Act.put,List.getElem_toArray,List.getElem_cons_zero,List.getElem_cons_succ,List.setIfInBounds_toArray,List.set_cons_zero,List.set_cons_succ])
        refine' wpAnyH_take (i:=3) (v:=?v42) rfl (by kernel_rfl) (by kernel_rfl) (by kernel_rfl) (fun _ _ _ h=>h) (Or.inl ⟨by rfl,?y42⟩) (by assumption) ?r42
        case y42=>(intro W hSw;(try dsimp only at hSw);go_simp;try with_reducible rfl)
        (try simp only [Act.put,List.getElem_toArray,List.getElem_cons_zero,List.getElem_cons_succ,List.setIfInBounds_toArray,List.set_cons_zero,List.set_cons_succ])
        refine' wpAnyH_take (i:=4) (v:=?v43) rfl (by kernel_rfl) (by kernel_rfl) (by kernel_rfl) (fun _ _ _ h=>h) (Or.inl ⟨by rfl,?y43⟩) (by assumption) ?r43
        case y43=>(intro W hSw;(try dsimp only at hSw);go_simp;try with_reducible rfl)
        (try simp only [Act.put,List.getElem_toArray,List.getElem_cons_zero,List.getElem_cons_succ,List.setIfInBounds_toArray,List.set_cons_zero,List.set_cons_succ])
        refine' wpAnyH_take (i:=5) (v:=?v44) rfl (by kernel_rfl) (by kernel_rfl) (by kernel_rfl) (fun _ _ _ h=>h) (Or.inl ⟨by rfl,?y44⟩) (by assumption) ?r44
        case y44=>(intro W hSw;(try dsimp only at hSw);go_simp;try with_reducible rfl)
        (try simp only [Act.put,List.getElem_toArray,List.getElem_cons_zero,List.getElem_cons_succ,List.setIfInBounds_toArray,List.set_cons_zero,List.set_cons_succ])
        refine' wpAnyH_take (i:=6) (v:=?v45) rfl (by kernel_rfl) (by kernel_rfl) (by kernel_rfl) (fun _ _ _ h=>h) (Or.inl ⟨by rfl,?y45⟩) (by assumption) ?r45
        case y45=>(intro W hSw;(try dsimp only at hSw);go_simp;try with_reducible rfl)
        (try simp only [Act.put,List.getElem_toArray,List.getElem_cons_zero,List.getElem_cons_succ,List.setIfInBounds_toArray,List.set_cons_zero,List.set_cons_succ])
        refine' wpAnyH_take (i:=7) (v:=?v46) rfl (by kernel_rfl) (by kernel_rfl) (by kernel_rfl) (fun _ _ _ h=>h) (Or.inl ⟨by rfl,?y46⟩) (by assumption) ?r46
        case y46=>(intro W hSw;(try dsimp only at hSw);have q0:=(KA1.out.below hSw KA1.out.lt).cell 17;go_simp;try with_reducible rfl)
        (try simp only [Act.put,List.getElem_toArray,List.getElem_cons_zero,List.getElem_cons_succ,List.setIfInBounds_toArray,List.set_cons_zero,List.set_cons_succ])
        refine' wpAnyH_take (i:=8) (v:=?v47) rfl (by kernel_rfl) (by kernel_rfl) (by kernel_rfl) (fun _ _ _ h=>h) (Or.inl ⟨by rfl,?y47⟩) (by assumption) ?r47
        case y47=>(intro W hSw;(try dsimp only at hSw);go_simp;try with_reducible rfl)
        (try simp only [Act.put,List.getElem_toArray,List.getElem_cons_zero,List.getElem_cons_succ,List.setIfInBounds_toArray,List.set_cons_zero,List.set_cons_succ])
        refine' wpAnyH_take (i:=9) (v:=?v48) rfl (by kernel_rfl) (by kernel_rfl) (by kernel_rfl) (fun _ _ _ h=>h) (Or.inl ⟨by rfl,?y48⟩) (by assumption) ?r48
        case y48=>(intro W hSw;(try dsimp only at hSw);go_simp;try with_reducible rfl)
        (try simp only [Act.put,List.getElem_toArray,List.getElem_cons_zero,List.getElem_cons_succ,List.setIfInBounds_toArray,List.set_cons_zero,List.set_cons_succ])
        refine' wpAnyH_take (i:=10) (v:=?v49) rfl (by kernel_rfl) (by kernel_rfl) (by kernel_rfl) (fun _ _ _ h=>h) (Or.inl ⟨by rfl,?y49⟩) (by assumption) ?r49
        case y49=>(intro W hSw;(try dsimp only at hSw);go_simp;try with_reducible rfl)
        (try simp only [Act.put,List.getElem_toArray,List.getElem_cons_zero,List.getElem_cons_succ,List.setIfInBounds_toArray,List.set_cons_zero,List.set_cons_succ])
        refine' wpAnyH_take (i:=11) (v:=?v50) rfl (by kernel_rfl) (by kernel_rfl) (by kernel_rfl) (fun _ _ _ h=>h) (Or.inl ⟨by rfl,?y50⟩) (by assumption) ?r50
        case y50=>(intro W hSw;(try dsimp only at hSw);go_simp;try with_reducible rfl)
        (try simp only [Act.put,List.getElem_toArray,List.getElem_cons_zero,List.getElem_cons_succ,List.setIfInBounds_toArray,List.set_cons_zero,List.set_cons_succ])
        refine' wpAnyH_take (i:=12) (v:=_) rfl (by kernel_rfl) (by kernel_rfl) (by kernel_rfl) (fun _ _ _ h=>h) (yieldsIf_load_mid (by rfl) _ _ rfl _ _ rfl (cL r.c Y cy) _ (fun W hSw=>range_part (n:=28) (KA1.out.below hSw KA1.out.lt) rfl) Try.underlying34 rfl (by kernel_rfl)) (by assumption) ?r51
        (try simp only [Act.put,List.getElem_toArray,List.getElem_cons_zero,List.getElem_cons_succ,List.setIfInBounds_toArray,List.set_cons_zero,List.set_cons_succ])
        refine' wpAnyH_take (i:=13) (v:=?v52) rfl (by kernel_rfl) (by kernel_rfl) (by kernel_rfl) (fun _ _ _ h=>h) (Or.inl ⟨by rfl,?y52⟩) (by assumption) ?r52
        case y52=>(intro W hSw;(try dsimp only at hSw);go_simp;try with_reducible rfl)
        (try simp only [Act.put,List.getElem_toArray,List.getElem_cons_zero,List.getElem_cons_succ,List.setIfInBounds_toArray,List.set_cons_zero,List.set_cons_succ])
        refine' wpAnyH_take (i:=14) (v:=_) rfl (by kernel_rfl) (by kernel_rfl) (by kernel_rfl) (fun _ _ _ h=>h) (yieldsIf_load_mid (by rfl) _ _ rfl _ _ rfl (cL r.c Y cy) _ (fun W hSw=>range_part (n:=28) (KA1.out.below hSw KA1.out.lt) rfl) Try.underlying34 rfl (by kernel_rfl)) (by assumption) ?r53
        (try simp only [Act.put,List.getElem_toArray,List.getElem_cons_zero,List.getElem_cons_succ,List.setIfInBounds_toArray,List.set_cons_zero,List.set_cons_succ])
        refine wpAnyH_ready (rs:=[15]) (by kernel_rfl) (by simp) ?_
        refine AllReadyH.cons (i:=15) rfl (fun K hK=>?_) ?_
        ·go_simp
         refine (HO.out w1.drew (HI2.out.af.up (below_drew1 w1))).mono ?_
         rintro e w5 ⟨Y5,c5,rfl,hc5,hI5,hB5⟩
         have H5:=Lib.hid (And.intro (below_up (below_drew1 w1) hB5) hI5)
         clear hI5 hB5
         (try dsimp only)
         refine hK.out _ _ ?_ (fun hHeld=>?_)
         ·exact H5.out.1
         clear hK K
         (try simp only [Act.put,List.getElem_toArray,List.getElem_cons_zero,List.getElem_cons_succ,List.setIfInBounds_toArray,List.set_cons_zero,List.set_cons_succ])
         refine wpAnyH_ready (rs:=[16]) (by kernel_rfl) (by simp) ?_
         refine AllReadyH.cons (i:=16) rfl (fun K hK=>?_) ?_
         ·go_simp
          refine (HC.out w5 Y5 c5 (HI2.out.af.up H5.out.1) H5.out.2).mono ?_
          rintro e w6 ⟨rfl,hB6⟩
          have H6:=Lib.hid (And.intro (below_up H5.out.1 hB6) (below_up HB1.out (below_up H5.out.1 hB6)))
          clear hB6 H5
          (try dsimp only)
          refine hK.out _ _ ?_ (fun hHeld=>?_)
          ·exact H6.out.1
          clear hK K
          (try simp only [Act.put,List.getElem_toArray,List.getElem_cons_zero,List.getElem_cons_succ,List.setIfInBounds_toArray,List.set_cons_zero,List.set_cons_succ])
          refine' wpAnyH_take (i:=17) (v:=?v54) rfl (by kernel_rfl) (by kernel_rfl) (by kernel_rfl) (fun _ _ _ h=>h) (Or.inl ⟨by rfl,?y54⟩) (by assumption) ?r54
          case y54=>(intro W hSw;(try dsimp only at hSw);go_simp;try with_reducible rfl)
          (try simp only [Act.put,List.getElem_toArray,List.getElem_cons_zero,List.getElem_cons_succ,List.setIfInBounds_toArray,List.set_cons_zero,List.set_cons_succ])
          refine' wpAnyH_take (i:=18) (v:=?v55) rfl (by kernel_rfl) (by kernel_rfl) (by kernel_rfl) (fun _ _ _ h=>h) (Or.inl ⟨by rfl,?y55⟩) (by assumption) ?r55
          case y55=>(intro W hSw;(try dsimp only at hSw);go_simp;try with_reducible rfl)
          (try simp only [Act.put,List.getElem_toArray,List.getElem_cons_zero,List.getElem_cons_succ,List.setIfInBounds_toArray,List.set_cons_zero,List.set_cons_succ])
          refine' wpAnyH_take (i:=19) (v:=undef) rfl (by kernel_rfl) (by kernel_rfl) (by kernel_rfl) (fun _ _ _ h=>h) (Or.inr ⟨by rfl,rfl⟩) (by assumption) ?_
          (try simp only [Act.put,List.getElem_toArray,List.getElem_cons_zero,List.getElem_cons_succ,List.setIfInBounds_toArray,List.set_cons_zero,List.set_cons_succ])
          refine' wpAnyH_take (i:=20) (v:=undef) rfl (by kernel_rfl) (by kernel_rfl) (by kernel_rfl) (fun _ _ _ h=>h) (Or.inr ⟨by rfl,rfl⟩) (by assumption) ?_
          (try simp only [Act.put,List.getElem_toArray,List.getElem_cons_zero,List.getElem_cons_succ,List.setIfInBounds_toArray,List.set_cons_zero,List.set_cons_succ])
          refine' wpAnyH_take (i:=21) (v:=undef) rfl (by kernel_rfl) (by kernel_rfl) (by kernel_rfl) (fun _ _ _ h=>h) (Or.inr ⟨by rfl,rfl⟩) (by assumption) ?_
          (try simp only [Act.put,List.getElem_toArray,List.getElem_cons_zero,List.getElem_cons_succ,List.setIfInBounds_toArray,List.set_cons_zero,List.set_cons_succ])
          refine' wpAnyH_take (i:=22) (v:=undef) rfl (by kernel_rfl) (by kernel_rfl) (by kernel_rfl) (fun _ _ _ h=>h) (Or.inr ⟨by rfl,rfl⟩) (by assumption) ?_
          (try simp only [Act.put,List.getElem_toArray,List.getElem_cons_zero,List.getElem_cons_succ,List.setIfInBounds_toArray,List.set_cons_zero,List.set_cons_succ])
          refine' wpAnyH_take (i:=23) (v:=?v56) rfl (by kernel_rfl) (by kernel_rfl) (by kernel_rfl) (fun _ _ _ h=>h) (Or.inl ⟨by rfl,?y56⟩) (by assumption) ?r56
          case y56=>(intro W hSw;(try dsimp only at hSw);go_simp;try with_reducible rfl)
          (try simp only [Act.put,List.getElem_toArray,List.getElem_cons_zero,List.getElem_cons_succ,List.setIfInBounds_toArray,List.set_cons_zero,List.set_cons_succ])
          refine' wpAnyH_take (i:=24) (v:=?v57) rfl (by kernel_rfl) (by kernel_rfl) (by kernel_rfl) (fun _ _ _ h=>h) (Or.inl ⟨by rfl,?y57⟩) (by assumption) ?r57
          case y57=>(intro W hSw;(try dsimp only at hSw);go_simp;try with_reducible rfl)
          (try simp only [Act.put,List.getElem_toArray,List.getElem_cons_zero,List.getElem_cons_succ,List.setIfInBounds_toArray,List.set_cons_zero,List.set_cons_succ])
          refine wpAnyH_done (by kernel_rfl) ?_ _
          go_wp2_with fail
          exact bodyPost_ret (v:=.bool false) (by simp [results,Try.results52,go_sem]) rfl ⟨EV.out,H6.out.2⟩
         exact AllReadyH.nil
        exact AllReadyH.nil
      ·have EV:=Lib.hid (mayE_no (r:=r) fun h=>by have:=(EQ.out.1 h).1;omega)
       have d1:decide ((1:Int)≤r.c.kd)=true:=decide_eq_true hk1
       have d2:decide (r.c.kd≤(15:Int))=false:=decide_eq_false hk2
       clear hk1 hk2
       have kq0:=cell_regrown k17
       refine wp_region_quiet_below (by kernel_rfl) (by kernel_rfl) ?_
       repeat (go_big_quiet_step (first | fail))
       refine wpQuiet_nil ?_
       intro _ hw'
       obtain ⟨⟨dq,osq⟩,hw''⟩:=hw'
       subst hw''
       have hBq:=below_regrown w1 dq osq
       generalize grow (redrawn w1 dq) osq=wq at *
       go_wp2_with fail
       exact bodyPost_ret (v:=.bool false) (by simp [results,Try.results52,go_sem]) rfl ⟨EV.out,below_up HB1.out hBq⟩
     ·have EV:=Lib.hid (mayE_no (r:=r) fun h=>by have:=(EQ.out.1 h).1;omega)
      have d1:decide ((1:Int)≤r.c.kd)=false:=decide_eq_false hk1
      clear hk1
      have kq0:=cell_regrown k17
      refine wp_region_quiet_below (by kernel_rfl) (by kernel_rfl) ?_
      repeat (go_big_quiet_step (first | fail))
      refine wpQuiet_nil ?_
      intro _ hw'
      obtain ⟨⟨dq,osq⟩,hw''⟩:=hw'
      subst hw''
      have hBq:=below_regrown w1 dq osq
      generalize grow (redrawn w1 dq) osq=wq at *
      go_wp2_with fail
      exact bodyPost_ret (v:=.bool false) (by simp [results,Try.results52,go_sem]) rfl ⟨EV.out,below_up HB1.out hBq⟩
end Go.Proofs.Ytfdldbfjeamlcaa.RwMay
namespace Go.Proofs.Ytfdldbfjeamlcaa.RwWrite
set_option maxRecDepth 100000
set_option maxHeartbeats 20000000
open Go.Sort (grow)
open Go.RowKit Mem RecMem RecByte RecNum RecEach RecMath RecCommand RecCmdJ RecWr0 RecVal RecCod RecCods RecSame RecOwn RecRecC RecWAt RecWOk RecSameA RecAll RecGuard RecF1 RecF2 RecF3 RecRL0 RwNum RwState0 RecWrite0 RwShort RwMay0 RwMay RwState RwCmd RwNums RwBytes
theorem own_cap {w:World} {F:Nat} {e:TypeId} {V:Option Addr} {n cv:Nat} {xs:List Value} (h:w.ownsRow F e 1 (.slice V n cv) n xs):n≤cv∧cv≤maxLen:=by
 rcases h.2 with ⟨e1,e0⟩ | ⟨g2,cap',cur,e1,h1,h2,h3,h4,h5⟩
 ·injection e1 with _ e2 e3
  subst e3
  exact ⟨by omega,Nat.zero_le _⟩
 ·injection e1 with _ _ e3
  subst e3
  exact ⟨h3,by first | exact h4 | exact h5.1 | exact h5⟩
theorem rwwrite (r:RV) (x:SA) (Y:Option Addr) (cy:Nat) (F:RFacts r) (w:World) (h:RIs w r x Y cy) :
    Calls Try.prog 21 #[.agg (rL r x Y cy).toArray] w fun e w' =>
     (∃ X n cc v,e = .returned (.tuple #[.slice X n cc,.int .i64 v])∧WV r v∧n≤cc∧cc≤maxLen∧(v≠0→n=0)∧(v=0→n=(recB r).length∧BytesAt w' X (recB r)))∧Below w.heap.size w w':=by
 have HF:=Lib.hid F
 have HI:=Lib.hid h
 clear h F
 go_enter Try.func21,Try.ntmps21
 go_upto_region 1 with fail
 have KA:=Lib.hid (Blk.new w 51 (rL r x Y cy).toArray)
 have HB:=Lib.hid (below_alloc (o:=.cells (rL r x Y cy).toArray 51) (Below.refl w.heap.size w))
 generalize w.alloc (.cells (rL r x Y cy).toArray 51)=W0 at *
 have HI1:=Lib.hid (HI.out.up HB.out)
 have RA:=Lib.hid (show W0.rangeAt w.heap.size 0 (rL r x Y cy) from range_part (n:=45) KA.out rfl)
 have HM:=Lib.hid (rwmay r x Y cy HF.out W0 HI1.out)
 go_wp2_with (first | (refine wpList_load_mid rfl 51 _ rfl _ _ rfl _ _ RA.out Try.underlying51 rfl (by kernel_rfl) ?_))
 refine HM.out.mono ?_
 rintro e w1 ⟨⟨B,rfl,hiff⟩,hB1⟩
 have HB1:=Lib.hid (below_up HB.out hB1)
 have KA1:=Lib.hid (KA.out.below hB1 KA.out.lt)
 have HI2:=Lib.hid (HI1.out.up hB1)
 have HE:=Lib.hid hiff
 clear hB1 HM RA hiff
 rcases B with _ | _
 ·have hno:¬ okR r:=fun h=>by have:=HE.out.2 h;cases this
  have HV:=Lib.hid (show WV r 8 from ⟨⟨fun e=>(by cases e),fun e=>absurd e.1 hno⟩,.inr (.inr rfl),⟨fun _=>hno,fun _=>rfl⟩⟩)
  clear hno
  go_wp2_with fail
  exact bodyPost_ret (v:=.tuple #[.slice none 0 0,.int .i64 8]) (by simp [results,Try.results21,go_sem]) rfl ⟨⟨none,0,0,8,rfl,HV.out,Nat.le_refl _,Nat.zero_le _,fun _=>rfl,fun e=>(by cases e)⟩,HB1.out⟩
 ·have hok:okR r:=HE.out.1 rfl
  have HOK:=Lib.hid hok
  have RA:=Lib.hid (show w1.rangeAt w.heap.size 0 (rL r x Y cy) from range_part (n:=45) KA1.out rfl)
  have HBy:=Lib.hid (rwbytes r x Y cy HF.out w1 HI2.out hok)
  clear hok
  go_wp2_with (first | (refine wpList_load_mid rfl 51 _ rfl _ _ rfl _ _ RA.out Try.underlying51 rfl (by kernel_rfl) ?_))
  refine HBy.out.mono ?_
  rintro e w2 ⟨v2,rfl,⟨V,cv,rfl,hO⟩,hB2⟩
  have HB2:=Lib.hid (below_up HB1.out hB2)
  have HO:=Lib.hid hO
  have hcl:(recB r).length≤cv∧cv≤maxLen:=own_cap hO
  have HC:=Lib.hid hcl
  clear hB2 hO hcl HBy RA
  rcases hd:decide ((65536:Int) < ((recB r).length:Int)) with _ | _
  ·have HV:=Lib.hid (show WV r 0 from ⟨⟨fun _=>⟨HOK.out,by have:=of_decide_eq_false hd;omega⟩,fun _=>rfl⟩,.inl rfl,⟨fun e=>(by cases e),fun e=>absurd HOK.out e⟩⟩)
   go_wp2_with fail
   exact bodyPost_ret (v:=.tuple #[.slice V (recB r).length cv,.int .i64 0]) (by simp [results,Try.results21,go_sem]) rfl ⟨⟨V,(recB r).length,cv,0,rfl,HV.out,HC.out.1,HC.out.2,fun e=>absurd rfl e,fun _=>⟨rfl,Reads.of_own HO.out⟩⟩,HB2.out⟩
  ·have HV:=Lib.hid (show WV r 4 from ⟨⟨fun e=>(by cases e),fun e=>absurd e.2 (by have:=of_decide_eq_true hd;omega)⟩,.inr (.inl rfl),⟨fun e=>(by cases e),fun e=>absurd HOK.out e⟩⟩)
   go_wp2_with fail
   exact bodyPost_ret (v:=.tuple #[.slice none 0 0,.int .i64 4]) (by simp [results,Try.results21,go_sem]) rfl ⟨⟨none,0,0,4,rfl,HV.out,Nat.le_refl _,Nat.zero_le _,fun _=>rfl,fun e=>(by cases e)⟩,HB2.out⟩
end Go.Proofs.Ytfdldbfjeamlcaa.RwWrite
namespace Go.Proofs.Ytfdldbfjeamlcaa.RfRd
open Go.RowKit Mem RecMem RecByte RecNum RecEach RecMath RecCod RecCods RecPort RecCommand RecCmdJ RecVal RecSame RecOwn RecRd RecRByte RecRNum RecREach RecRFlat RecRClass RecRL0 RecRListI RecRAsk RecRState RecRCmd RecRRec
abbrev RDT:TypeId:=120
structure RS (B:Nat) (w:World) (gp:Nat) (X:Option Addr) (t:Bs) (c k:Nat) (od:Bool):Prop where
 blk:Blk w gp RDT #[.slice X t.length c,.int .i64 k,.bool od]
 le:k≤t.length
 top:t.length≤65536
 oct:Oct t
 low:B≤gp
 txt:∀ i x,t[i]? = some x→∃ tb o,X=some ⟨tb,o,none⟩∧tb < B∧w.cell? ⟨tb,o+i,none⟩=some (.int .u8 x)
section
variable {B:Nat} {w w':World} {gp:Nat} {X:Option Addr} {t:Bs} {c k:Nat} {od:Bool}
theorem RS.lt (h:RS B w gp X t c k od):gp < w.heap.size:=h.blk.lt
theorem RS.fr (h:RS B w gp X t c k od) {k':Nat} {od':Bool} (hl:k'≤t.length) (hk:Blk w' gp RDT #[.slice X t.length c,.int .i64 k',.bool od']) (hB:∀ k,k < B→w'.heap[k]? = w.heap[k]?):RS B w' gp X t c k' od':=
 ⟨hk,hl,h.top,h.oct,h.low,fun i x hi=>by
  obtain ⟨tb,o,e,h1,h2⟩:=h.txt i x hi
  exact ⟨tb,o,e,h1,by rw [World.cell?_of_block (hB tb h1)];exact h2⟩⟩
theorem RS.alloc (h:RS B w gp X t c k od) (o:Obj):RS B (w.alloc o) gp X t c k od:=
 h.fr h.le (h.blk.alloc o) fun k hk=>Below.heap_alloc w o k (by have:=h.lt;have:=h.low;omega)
theorem RS.up (h:RS B w gp X t c k od) (hB:Below w.heap.size w w'):RS B w' gp X t c k od:=
 h.fr h.le (h.blk.below hB h.lt) fun k hk=>hB.block k (by have:=h.lt;have:=h.low;omega)
theorem RS.set_ (h:RS B w gp X t c k od) {p:Addr} (hp:p.block≠gp) (hb:B≤p.block) (u:Value):RS B (w.setCell p u) gp X t c k od:=
 h.fr h.le (h.blk.far hp.symm u) fun k hk=>Below.heap_setCell w p u k (by omega)
theorem RS.sets (h:RS B w gp X t c k od) {b:Nat} (hp:b≠gp) (hb:B≤b):∀ (vs:List Value) (o:Nat),RS B (World.setCells w b o vs) gp X t c k od:=by
 intro vs
 induction vs generalizing w with
 | nil=>intro o;exact h
 | cons v vs ih=>intro o;rw [World.setCells];exact ih (h.set_ (p:=⟨b,o,none⟩) hp hb v) (o+1)
theorem RS.odd (h:RS B w gp X t c k od):RS B (w.setCell ⟨gp,2,none⟩ (.bool true)) gp X t c k true:=
 h.fr h.le (h.blk.set_ 2 (.bool true)) fun k hk=>Below.heap_setCell w _ _ k (by have:=h.low;simp;omega)
theorem RS.step (h:RS B w gp X t c k od) (hk:k < t.length):RS B (w.setCell ⟨gp,1,none⟩ (.int .i64 ((k+1:Nat):Int))) gp X t c (k+1) od:=
 h.fr hk (h.blk.set_ 1 _) fun k hk=>Below.heap_setCell w _ _ k (by have:=h.low;simp;omega)
theorem RS.drew (h:RS B w gp X t c k od):RS B w.drew gp X t c k od:=h.fr h.le h.blk.drew fun _ _=>rfl
end
structure Only (b:Nat) (w w':World):Prop where
 os:w'.os=w.os
 tape:w'.tape=w.tape
 output:w'.output=w.output
 size:w.heap.size≤w'.heap.size
 block:∀ k,k < w.heap.size→k≠b→w'.heap[k]? = w.heap[k]?
theorem Only.refl (b:Nat) (w:World):Only b w w:=⟨rfl,rfl,rfl,Nat.le_refl _,fun _ _ _=>rfl⟩
theorem Only.trans {b:Nat} {w w1 w2:World} (h:Only b w w1) (k:Only b w1 w2):Only b w w2:=⟨k.os.trans h.os,k.tape.trans h.tape,k.output.trans h.output,Nat.le_trans h.size k.size,fun i hi hb=>(k.block i (Nat.lt_of_lt_of_le hi h.size) hb).trans (h.block i hi hb)⟩
theorem Only.set_ {b:Nat} {w w':World} (h:Only b w w') (o:Nat) (u:Value):Only b w (w'.setCell ⟨b,o,none⟩ u):=h.trans ⟨rfl,rfl,rfl,by simp,fun k _ hb=>Below.heap_setCell w' _ _ k (by simpa using hb)⟩
theorem Only.sets {b:Nat} {w w':World} (h:Only b w w'):∀ (vs:List Value) (o:Nat),Only b w (World.setCells w' b o vs):=by
 intro vs
 induction vs generalizing w' with
 | nil=>intro o;exact h
 | cons v vs ih=>intro o;rw [World.setCells];exact ih (h.set_ o v) (o+1)
theorem Only.alloc {b:Nat} {w w':World} (h:Only b w w') (o:Obj):Only b w (w'.alloc o):=h.trans ⟨rfl,rfl,rfl,by simp,fun k hk _=>Below.heap_alloc w' o k hk⟩
theorem Only.drew {b:Nat} {w w':World} (h:Only b w w'):Only b w w'.drew:=h.trans ⟨rfl,rfl,rfl,Nat.le_refl _,fun _ _ _=>rfl⟩
theorem Only.blk {b g:Nat} {w w':World} {T:TypeId} {cs:Array Value} (h:Only b w w') (hk:Blk w g T cs) (hg:g≠b):Blk w' g T cs:=(h.block g hk.lt hg).trans hk
theorem Only.below {b B:Nat} {w w':World} (h:Only b w w') (hb:B≤b) (hB:B≤w.heap.size):Below B w w':=⟨h.os,h.tape,h.output,h.size,fun k hk=>h.block k (by omega) (by omega)⟩
section
variable {α β:Type} {R:Rep α} {S:Rep β} {d1:Bs→Option (α × Bs)} {d2:Bs→Option (β × Bs)} {gp b:Nat} {t t1 t2:Bs} {od od1 od2:Bool} {w w1 w2:World} {x:α} {y:β} {vs us:List Value} {T:TypeId} {cs:Array Value}
theorem RMid.over (h:RMid R d1 gp gp t od w w1 x vs t1 od1) (hN:KeepN T R) (hb:w.heap.size≤b) (hk:Blk w1 b T cs) (ho:Only b w1 w2):RMid R d1 gp gp t od w w2 x vs t1 od1 where
 at_:=hN _ _ _ _ _ h.at_ fun k c e he hF hc=>ho.block k (Array.getElem?_eq_some_iff.1 hc).1 fun e1=>by
  subst e1
  rw [show w1.heap[k]? = _ from hk] at hc
  injection hc with hc
  injection hc with _ hc
  exact he hc.symm
 fr:=⟨ho.os.trans h.fr.os,ho.tape.trans h.fr.tape,ho.output.trans h.fr.output,Nat.le_trans h.fr.size ho.size,fun k hk1 h1 h2=>(ho.block k (Nat.lt_of_lt_of_le hk1 h.fr.size) (by omega)).trans (h.fr.block k hk1 h1 h2),fun k T' cs' hk' => by
  obtain ⟨c2,e2,k2⟩:=h.fr.shape k T' cs' hk'
  exact ⟨c2,e2,ho.blk k2 (by have:=hk'.lt;omega)⟩⟩
 le:=h.le
 ok:=h.ok
 bad:=h.bad
theorem RMid.ahead {w0:World} (h:RMid R d1 gp gp t od w w1 x vs t1 od1) (hB:Below w0.heap.size w0 w):RMid R d1 gp gp t od w0 w1 x vs t1 od1 where
 at_:=R.mono h.at_ hB.size
 fr:=(show FrR gp gp w0 w from ⟨hB.os,hB.tape,hB.output,hB.size,fun k hk _ _=>hB.block k hk,shape_below hB⟩).trans h.fr
 le:=h.le
 ok:=h.ok
 bad:=h.bad
end
end Go.Proofs.Ytfdldbfjeamlcaa.RfRd
namespace Go.Proofs.Ytfdldbfjeamlcaa.RfByte
set_option maxRecDepth 100000
set_option maxHeartbeats 4000000
open Go.RowKit Mem RecMem RecByte RecNum RecEach RecMath RecCod RecCods RecPort RecCommand RecCmdJ RecVal RecSame RecOwn RecRd RecRByte RecRNum RecREach RecRFlat RecRClass RecRL0 RecRListI RecRAsk RecRState RecRCmd RecRRec RfRd Go.Sort
def BRet (B gp:Nat) (X:Option Addr) (t:Bs) (c k:Nat) (od:Bool) (w:World) (e:Ending) (w':World):Prop:=∃ k' od' x,e = .returned (.int .u8 x)∧0≤x∧x < 256∧RS B w' gp X t c k' od'∧RMid byteR byteDec gp gp (t.drop k) od w w' x [.int .u8 x] (t.drop k') od'∧(od' = false→od=false∧k' = k+1∧t[k]? = some x)∧(od' = true→od=false→t.length≤k)
theorem rfbyte (B gp:Nat) (X:Option Addr) (t:Bs) (c k:Nat) (od:Bool) (w:World) (hS:RS B w gp X t c k od) :
    Calls Try.prog 82 #[.pointer (some ⟨gp,0,none⟩)] w fun e w' => BRet B gp X t c k od w e w':=by
 have HS:=Lib.hid hS
 have hgs:=hS.lt
 have p0:w.cell? ⟨gp,0,none⟩=some (.slice X t.length c):=hS.blk.cell 0
 have p1:w.cell? ⟨gp,1,none⟩=some (.int .i64 k):=hS.blk.cell 1
 have p2:w.cell? ⟨gp,2,none⟩=some (.bool od):=hS.blk.cell 2
 have hle:k≤t.length:=hS.le
 have htop:t.length≤65536:=hS.top
 clear hS
 by_cases hbad:od=true∨¬ k < t.length
 ·have HBD:=Lib.hid hbad
  go_enter Try.func82,Try.ntmps82
  go_wp2_with fail
  obtain ⟨D,hD⟩:∃ D,D=decide ((t.length:Int)≤(k:Int)):=⟨_,rfl⟩
  have hDn:decide (t.length≤k)=D:=by rw [hD];simp
  have hOD:od=true∨D=true:=by
   rcases hbad with h | h
   ·exact .inl h
   ·exact .inr (by rw [hD];exact decide_eq_true (by omega))
  clear hbad
  rcases od with _ | _
  ·obtain rfl:D=true:=hOD.resolve_left (by simp)
   have hD':=hD.symm
   clear hD hOD
   have kq0:=cell_regrown p0
   have kq1:=cell_regrown p1
   have kq2:=cell_regrown p2
   refine wp_region_quiet_below (by kernel_rfl) (by kernel_rfl) ?_
   repeat (go_big_quiet_step (first | fail))
   refine wpQuiet_nil ?_
   intro _ hw'
   obtain ⟨⟨dq,osq⟩,hw''⟩:=hw'
   subst hw''
   have hBq:=below_regrown w dq osq
   clear kq0 kq1 kq2
   generalize grow (redrawn w dq) osq=w1 at *
   clear hD' hDn
   have HS1:=Lib.hid (HS.out.up hBq)
   have p2':w1.cell? ⟨gp,2,none⟩=some (.bool false):=HS1.out.blk.cell 2
   have z2:=HS1.out.blk.frozen 2
   clear p0 p1 p2
   go_wp2_with fail
   go_ret
   unfold BRet
   refine ⟨k,true,0,rfl,by omega,by omega,HS1.out.odd,⟨rfl,((FrR.refl gp gp w).up hBq).set_ (p:=⟨gp,2,none⟩) (.inl rfl) _,Nat.le_refl _,(fun e=>by cases e),fun _ e0=>?_⟩,(fun e=>by cases e),fun _ e0=>?_⟩
   ·rcases HBD.out with h | h
    ·rw [e0] at h;cases h
    ·rw [List.drop_eq_nil_of_le (by omega)];rfl
   ·rcases HBD.out with h | h
    ·rw [e0] at h;cases h
    ·omega
  ·clear hD hDn hOD
   have kq0:=cell_regrown p0
   have kq1:=cell_regrown p1
   have kq2:=cell_regrown p2
   refine wp_region_quiet_below (by kernel_rfl) (by kernel_rfl) ?_
   repeat (go_big_quiet_step (first | fail))
   refine wpQuiet_nil ?_
   intro _ hw'
   obtain ⟨⟨dq,osq⟩,hw''⟩:=hw'
   subst hw''
   have hBq:=below_regrown w dq osq
   clear kq0 kq1 kq2
   generalize grow (redrawn w dq) osq=w1 at *
   have HS1:=Lib.hid (HS.out.up hBq)
   have p2':w1.cell? ⟨gp,2,none⟩=some (.bool true):=HS1.out.blk.cell 2
   have z2:=HS1.out.blk.frozen 2
   clear p0 p1 p2
   go_wp2_with fail
   go_ret
   unfold BRet
   refine ⟨k,true,0,rfl,by omega,by omega,HS1.out.odd,⟨rfl,((FrR.refl gp gp w).up hBq).set_ (p:=⟨gp,2,none⟩) (.inl rfl) _,Nat.le_refl _,(fun e=>by cases e),fun _ e0=>?_⟩,(fun e=>by cases e),fun _ e0=>?_⟩
   ·cases e0
   ·cases e0
 ·obtain ⟨hod,hlt⟩:od=false∧k < t.length:=by
   refine ⟨?_,Decidable.byContradiction fun h=>hbad (.inr h)⟩
   cases od with
   | false=>rfl
   | true=>exact absurd (.inl rfl) hbad
  subst hod
  obtain ⟨tb,o,rfl,htb,hc⟩:=HS.out.txt k t[k] (List.getElem?_eq_getElem hlt)
  have hx:=HS.out.oct t[k] (List.getElem_mem hlt)
  have hg:t[k]? = some t[k]:=List.getElem?_eq_getElem hlt
  generalize t[k]=x at hc hx hg
  have HG:=Lib.hid (And.intro hg hx)
  have hD:decide ((t.length:Int)≤(k:Int))=false:=decide_eq_false (by omega)
  have hD2:decide (t.length≤k)=false:=decide_eq_false (by omega)
  clear hbad hg hx
  go_enter Try.func82,Try.ntmps82
  go_wp2_with fail
  have kq0:=cell_regrown p0
  have kq1:=cell_regrown p1
  have kq2:=cell_regrown p2
  refine wp_region_quiet_below (by kernel_rfl) (by kernel_rfl) ?_
  repeat (go_big_quiet_step (first | fail))
  refine wpQuiet_nil ?_
  intro _ hw'
  obtain ⟨⟨dq,osq⟩,hw''⟩:=hw'
  subst hw''
  have hBq:=below_regrown w dq osq
  clear kq0 kq1 kq2
  generalize grow (redrawn w dq) osq=w1 at *
  clear hD hD2
  have HS1:=Lib.hid (HS.out.up hBq)
  have p1':w1.cell? ⟨gp,1,none⟩=some (.int .i64 k):=HS1.out.blk.cell 1
  have z1:=HS1.out.blk.frozen 1
  have hk1:(k:Int)+1≤9223372036854775807:=by omega
  have hc1:=keep_cell hc hBq
  have HBq:=Lib.hid hBq
  have HC1:=Lib.hid hc1
  clear p0 p1 p2 hc hc1 hBq
  go_upto_region 5 with fail
  have HS2:=Lib.hid (show RS B (w1.setCell ⟨gp,1,none⟩ (.int .i64 ((k:Int)+1))) gp (some ⟨tb,o,none⟩) t c (k+1) false from HS1.out.step hlt)
  have hF2:FrR gp gp w (w1.setCell ⟨gp,1,none⟩ (.int .i64 ((k:Int)+1))):=((FrR.refl gp gp w).up HBq.out).set_ (p:=⟨gp,1,none⟩) (.inl rfl) _
  have hc2:(w1.setCell ⟨gp,1,none⟩ (.int .i64 ((k:Int)+1))).cell? ⟨tb,o+k,none⟩=some (.int .u8 x):=by
   rw [World.cell?_setCell_other _ _ _ _ (fun e=>by injection e with e;have:=HS1.out.low;omega)]
   exact HC1.out
  generalize w1.setCell ⟨gp,1,none⟩ (.int .i64 ((k:Int)+1))=w2 at *
  have p0:w2.cell? ⟨gp,0,none⟩=some (.slice (some ⟨tb,o,none⟩) t.length c):=HS2.out.blk.cell 0
  have p1:w2.cell? ⟨gp,1,none⟩=some (.int .i64 ((k:Int)+1)):=HS2.out.blk.cell 1
  have HF2:=Lib.hid hF2
  clear hF2 HS1 HBq HC1 p1' z1
  have hki:(k:Int) < (t.length:Int):=by omega
  have hk0:(0:Int)≤(k:Int):=by omega
  have kq0:=cell_regrown p0
  have kq1:=cell_regrown p1
  have kq2:=cell_regrown hc2
  refine wp_region_quiet_below (by kernel_rfl) (by kernel_rfl) ?_
  repeat (go_big_quiet_step (first | fail))
  refine wpQuiet_nil ?_
  intro _ hw'
  obtain ⟨⟨dq,osq⟩,hw''⟩:=hw'
  subst hw''
  have hBq:=below_regrown w2 dq osq
  clear kq0 kq1 kq2
  generalize grow (redrawn w2 dq) osq=w3 at *
  clear hc2 hki hk0
  have HS3:=Lib.hid (HS2.out.up hBq)
  have HF3:=Lib.hid (HF2.out.up hBq)
  clear hBq HS2 HF2
  go_wp2_with fail
  go_ret
  unfold BRet
  refine ⟨k+1,false,x,rfl,HG.out.2.1,HG.out.2.2,HS3.out,⟨rfl,HF3.out,by rw [List.length_drop,List.length_drop];omega,fun _=>⟨rfl,?_⟩,(fun e=>by cases e)⟩,fun _=>⟨rfl,rfl,HG.out.1⟩,(fun e=>by cases e)⟩
  rw [List.drop_eq_getElem_cons hlt]
  have:t[k]=x:=by
   have h:=HG.out.1
   rw [List.getElem?_eq_getElem hlt] at h
   injection h
  rw [this]
  rfl
end Go.Proofs.Ytfdldbfjeamlcaa.RfByte
namespace Go.Proofs.Ytfdldbfjeamlcaa.RfNum
set_option maxRecDepth 100000
set_option maxHeartbeats 4000000
open Go.RowKit Mem RecMem RecByte RecNum RecEach RecMath RecCod RecCods RecPort RecCommand RecCmdJ RecVal RecSame RecOwn RecRd RecRByte RecRNum RecREach RecRFlat RecRClass RecRL0 RecRListI RecRAsk RecRState RecRCmd RecRRec RfRd RfByte
def VRet {α:Type} (R:Rep α) (dec:Bs→Option (α × Bs)) (pk:α→Value) (L:α→List Value) (B gp:Nat) (X:Option Addr) (t:Bs) (c k:Nat) (od:Bool) (w:World) (e:Ending) (w':World):Prop:=
 ∃ k' od' x,e = .returned (pk x)∧RS B w' gp X t c k' od'∧RMid R dec gp gp (t.drop k) od w w' x (L x) (t.drop k') od'
theorem VRet.mk {α:Type} {R:Rep α} {dec:Bs→Option (α × Bs)} {pk:α→Value} {L:α→List Value} {B gp:Nat} {X:Option Addr} {t:Bs} {c k:Nat} {od:Bool} {w w':World} (k':Nat) (od':Bool) (x:α) {v:Value} (hv:v=pk x) (h1:RS B w' gp X t c k' od') (h2:RMid R dec gp gp (t.drop k) od w w' x (L x) (t.drop k') od'):VRet R dec pk L B gp X t c k od w (.returned v) w':=⟨k',od',x,by rw [hv],h1,h2⟩
abbrev tPk (p:Bool):Value:=.bool p
abbrev nPk (n:Int):Value:=.int .i64 n
theorem truth_none {s:Bs} (h:byteDec s=none):truthDec s=none:=by
 cases s with
 | nil=>rfl
 | cons b u=>cases h
theorem truth_some {s r:Bs} {b:Int} (h:byteDec s=some (b,r)) (hb:b≤1):truthDec s=some (b == 1,r):=by
 cases s with
 | nil=>cases h
 | cons x u=>cases h;simp [truthDec,hb]
theorem truth_big {s r:Bs} {b:Int} (h:byteDec s=some (b,r)) (hb:¬ b≤1):truthDec s=none:=by
 cases s with
 | nil=>cases h
 | cons x u=>cases h;simp [truthDec,hb]
theorem rftruth (B gp:Nat) (X:Option Addr) (t:Bs) (c k:Nat) (od:Bool) (w:World) (hS:RS B w gp X t c k od) :
    Calls Try.prog 86 #[.pointer (some ⟨gp,0,none⟩)] w fun e w' => VRet truthR truthDec tPk truthL B gp X t c k od w e w':=by
 go_enter Try.func86,Try.ntmps86
 go_wp2_with fail
 refine (rfbyte B gp X t c k od w hS).mono ?_
 rintro e w1 h1
 obtain ⟨k1,od1,x,rfl,hx0,hx1,hS1,hM1,_,_⟩:=h1
 have H1:=Lib.hid (And.intro hS1 hM1)
 have p2:w1.cell? ⟨gp,2,none⟩=some (.bool od1):=hS1.blk.cell 2
 have z2:=hS1.blk.frozen 2
 clear hS hS1 hM1
 by_cases hb:1 < x
 ·have hxe:(x == 1)=false:=by simp;omega
  go_wp2_with fail
  go_ret
  refine VRet.mk k1 true false rfl H1.out.1.odd ⟨rfl,H1.out.2.fr.set_ (p:=⟨gp,2,none⟩) (.inl rfl) _,H1.out.2.le,(fun e=>by cases e),fun _ e0=>?_⟩
  cases od1 with
  | true=>exact truth_none (H1.out.2.bad rfl e0)
  | false=>exact truth_big (H1.out.2.ok rfl).2 (by omega)
 ·go_wp2_with fail
  go_ret
  refine VRet.mk k1 od1 (x == 1) rfl H1.out.1 ⟨rfl,H1.out.2.fr,H1.out.2.le,(fun e=>⟨(H1.out.2.ok e).1,truth_some (H1.out.2.ok e).2 (by omega)⟩),fun e e0=>truth_none (H1.out.2.bad e e0)⟩
theorem Oct.drop {t:Bs} (h:Oct t) (m:Nat):Oct (t.drop m):=fun b hb=>h b (List.mem_of_mem_drop hb)
theorem Oct.take {t:Bs} (h:Oct t) (m:Nat):Oct (t.take m):=fun b hb=>h b (List.mem_of_mem_take hb)
theorem valB_snoc:∀ (s:Bs) (b:Int),valB (s ++ [b])=valB s+256 ^ s.length*b
 | [],b=>by simp [valB]
 | x :: s,b=>by
  rw [List.cons_append,valB,valB_snoc s b,valB,List.length_cons,Int.pow_succ,Int.mul_add,Int.add_assoc]
  congr 2
  rw [Int.mul_comm (256 ^ s.length) 256,Int.mul_assoc]
theorem valB_in:∀ {s:Bs},Oct s→0≤valB s∧valB s < 256 ^ s.length
 | [],_=>by simp [valB]
 | x :: s,h=>by
  have h1:=h x (by simp)
  have h2:=valB_in (s:=s) fun b hb=>h b (by simp [hb])
  rw [valB,List.length_cons,Int.pow_succ]
  omega
def NSt (B gp:Nat) (X:Option Addr) (t:Bs) (c k:Nat) (od:Bool) (w:World) (j:Nat) (x h:Int) (wr:World):Prop:=
 ∃ k1 o1,RS B wr gp X t c k1 o1∧FrR gp gp w wr∧(0≤x∧x < 18446744073709551616)∧(0≤h∧h < 18446744073709551616)∧(j < 8→h=256 ^ j)∧(o1=false→od=false∧k1=k+j∧x=valB ((t.drop k).take j))∧(o1=true→od=false→t.length < k+8)∧k≤k1
theorem NSt.byte {B gp:Nat} {X:Option Addr} {t:Bs} {c k:Nat} {od:Bool} {w:World} {j:Nat} {x h:Int} {wr w2:World} (hN:NSt B gp X t c k od w j x h wr) (hj:j < 8) {x2 h2:Int} {k1:Nat} {o1:Bool} {k2:Nat} {o2:Bool} {b:Int}
    (hk:RS B w2 gp X t c k2 o2) (hf:FrR gp gp w w2) (hb:0≤b∧b < 256) (hok0:o1=false→od=false∧k1=k+j∧x=valB ((t.drop k).take j)) (hbad0:o1=true→od=false→t.length < k+8) (hle:k≤k2)
    (hok:o2=false→o1=false∧k2=k1+1∧t[k1]? = some b) (hbad:o2=true→o1=false→t.length≤k1) (hh:h=256 ^ j) (hx0:0≤x)
    (e2:x2=(x+h*b % 18446744073709551616) % 18446744073709551616) (eh:h2=h*256 % 18446744073709551616):NSt B gp X t c k od w (j+1) x2 h2 w2:=by
 refine ⟨k2,o2,hk,hf,by omega,by omega,fun h8=>?_,fun e=>?_,fun e e0=>?_,hle⟩
 ·have:j=0∨j=1∨j=2∨j=3∨j=4∨j=5∨j=6:=by omega
  rw [eh,hh]
  rcases this with rfl | rfl | rfl | rfl | rfl | rfl | rfl <;> decide
 ·obtain ⟨e1,e3,e4⟩:=hok e
  obtain ⟨e5,e6,e7⟩:=hok0 e1
  refine ⟨e5,by omega,?_⟩
  have hg:(t.drop k)[j]? = some b:=by rw [List.getElem?_drop,← e6];exact e4
  have hjl:j < (t.drop k).length:=(List.getElem?_eq_some_iff.1 hg).1
  have ht:(t.drop k).take (j+1)=(t.drop k).take j ++ [b]:=by
   rw [List.take_succ_eq_append_getElem hjl]
   have:=(List.getElem?_eq_some_iff.1 hg).2
   rw [this]
  have hl:((t.drop k).take j).length=j:=by rw [List.length_take];omega
  have hv:=valB_snoc ((t.drop k).take j) b
  have hbd:=valB_in (s:=(t.drop k).take (j+1)) (Oct.take (Oct.drop hk.oct k) (j+1))
  have hl2:((t.drop k).take (j+1)).length=j+1:=by rw [List.length_take];omega
  rw [hl,← e7,← hh,← ht] at hv
  rw [hl2] at hbd
  have hp:(256:Int) ^ (j+1)≤18446744073709551616:=by
   have:j=0∨j=1∨j=2∨j=3∨j=4∨j=5∨j=6∨j=7:=by omega
   rcases this with rfl | rfl | rfl | rfl | rfl | rfl | rfl | rfl <;> decide
  have hhb:0≤h*b:=by
   have:0≤h:=by rw [hh];exact Int.pow_nonneg (by omega)
   exact Int.mul_nonneg this hb.1
  rw [e2,Int.emod_eq_of_lt hhb (by omega),Int.emod_eq_of_lt (by omega) (by omega),hv]
 ·cases o1 with
  | true=>exact hbad0 rfl e0
  | false=>have:=hbad e rfl;have:=(hok0 rfl).2.1;omega
theorem rfnum (B gp:Nat) (X:Option Addr) (t:Bs) (c k:Nat) (od:Bool) (w:World) (hS:RS B w gp X t c k od) :
    Calls Try.prog 54 #[.pointer (some ⟨gp,0,none⟩)] w fun e w' => VRet numR numDec nPk numL B gp X t c k od w e w':=by
 have HS:=Lib.hid hS
 clear hS
 go_enter Try.func54,Try.ntmps54
 go_wp2_with fail
 go_loopw [3,4,5] (fun xx hh i wr=>∃ (j:Nat) (x h:Int),j≤8∧i = .int .i64 j∧xx = .int .u64 x∧hh = .int .u64 h∧Hid (NSt B gp X t c k od w j x h wr))
  (fun xx hh i _=>8 - (intOf i).toNat)
 case atStart=>exact ⟨0,0,1,by omega,rfl,rfl,rfl,⟨k,od,HS.out,FrR.refl _ _ _,by omega,by omega,(fun _=>rfl),(fun e=>⟨e,rfl,rfl⟩),(fun e e0=>by rw [e] at e0;cases e0),Nat.le_refl _⟩⟩
 case round =>
  obtain ⟨j,x,h,hj,rfl,rfl,rfl,hN⟩:=hrel
  by_cases hlt:j < 8
  ·have hji:(j:Int) < 8:=by omega
   obtain ⟨k1,o1,hS1,hf1,hx,hh,hpw,hok1,hbad1,hkk⟩:=hN.out
   have H1:=Lib.hid (And.intro hS1 (And.intro hf1 (And.intro hx (And.intro (hpw hlt) (And.intro hok1 (And.intro hbad1 hkk))))))
   have hS1':=Lib.hid hS1
   clear hS1 hf1 hx hh hpw hok1 hbad1 hkk
   go_wp2_with fail
   refine (rfbyte B gp X t c k1 o1 wr hS1'.out).mono ?_
   rintro e w2 h2
   obtain ⟨k2,o2,b,rfl,hb0,hb1,hS2,hM2,hok2,hbad2⟩:=h2
   have H2:=Lib.hid (And.intro hS2 (And.intro hM2 (And.intro hok2 hbad2)))
   clear hS2 hM2 hok2 hbad2
   go_wp2_with fail
   go_roundw
   case rel =>
    refine ⟨j+1,_,_,by omega,by go_num,rfl,rfl,NSt.byte hN.out hlt H2.out.1 (H1.out.2.1.trans H2.out.2.1.fr) ⟨hb0,hb1⟩ H1.out.2.2.2.2.1 H1.out.2.2.2.2.2.1 ?_ H2.out.2.2.1 H2.out.2.2.2 H1.out.2.2.2.1 H1.out.2.2.1.1 (by rw [IntKind.wrap_u64,IntKind.wrap_u64]) (by rw [IntKind.wrap_u64])⟩
    have h1:=H2.out.2.1.le
    have h2:=H2.out.1.le
    have h3:=H1.out.1.le
    have h4:=H1.out.2.2.2.2.2.2
    rw [List.length_drop,List.length_drop] at h1
    omega
   case measure=>simp [intOf];omega
  ·obtain rfl:j=8:=by omega
   obtain ⟨k1,o1,hS1,hf1,hx,hh,hpw,hok1,hbad1,hkk⟩:=hN.out
   have H1:=Lib.hid (And.intro hS1 (And.intro hf1 (And.intro hx (And.intro hok1 (And.intro hbad1 hkk)))))
   clear hS1 hf1 hh hpw hok1 hbad1 hkk hN
   go_wp2_with fail
   go_ret
   refine VRet.mk k1 o1 (wrap64 x) rfl H1.out.1 ⟨rfl,H1.out.2.1,?_,fun e=>?_,fun e e0=>?_⟩
   ·rw [List.length_drop,List.length_drop]
    have:=H1.out.2.2.2.2.2
    omega
   ·obtain ⟨h1,h2,h3⟩:=H1.out.2.2.2.1 e
    have h4:=H1.out.1.le
    refine ⟨h1,?_⟩
    unfold numDec
    rw [if_pos (by rw [List.length_drop];omega),List.drop_drop,← h2]
    unfold numV
    rw [← h3,IntWalk.i64_left]
   ·have h1:=H1.out.2.2.2.2.1 e e0
    unfold numDec
    rw [if_neg (by rw [List.length_drop];omega)]
end Go.Proofs.Ytfdldbfjeamlcaa.RfNum
namespace Go.Proofs.Ytfdldbfjeamlcaa.RfMany
set_option maxRecDepth 100000
set_option maxHeartbeats 4000000
open Go.RowKit Mem RecMem RecByte RecNum RecEach RecMath RecCod RecCods RecPort RecCommand RecCmdJ RecVal RecSame RecOwn RecRd RecRByte RecRNum RecREach RecRFlat RecRClass RecRL0 RecRListI RecRAsk RecRState RecRCmd RecRRec RfRd RfByte RfNum
def manyDec (s:Bs):Option (Int × Bs):=(numDec s).bind fun p=>if p.1 < 0∨1000 < p.1 then none else some p
theorem many_none {s:Bs} (h:numDec s=none):manyDec s=none:=by unfold manyDec;rw [h];rfl
theorem many_odd {s r:Bs} {n:Int} (h:numDec s=some (n,r)) (hn:n < 0∨1000 < n):manyDec s=none:=by unfold manyDec;rw [h,Option.bind_some,if_pos hn]
theorem many_some {s r:Bs} {n:Int} (h:numDec s=some (n,r)) (hn:¬ (n < 0∨1000 < n)):manyDec s=some (n,r):=by unfold manyDec;rw [h,Option.bind_some,if_neg hn]
theorem list_many_none {α:Type} {c:Cod α} {s:Bs} (h:manyDec s=none):listDec c s=none:=by
 unfold listDec
 show (numDec s).bind _=none
 unfold manyDec at h
 cases hd:numDec s with
 | none=>rfl
 | some p =>
  rw [hd,Option.bind_some] at h
  rw [Option.bind_some]
  split at h
  ·rename_i hp;rw [if_pos hp]
  ·cases h
theorem list_many {α:Type} {c:Cod α} {s r:Bs} {n:Int} (h:manyDec s=some (n,r)):0≤n∧n≤1000∧listDec c s=decN c n.toNat r:=by
 unfold manyDec at h
 cases hd:numDec s with
 | none=>rw [hd] at h;cases h
 | some p =>
  rw [hd,Option.bind_some] at h
  split at h
  ·cases h
  ·rename_i hp
   cases h
   refine ⟨by omega,by omega,?_⟩
   exact listDec_eq hd (by omega) (by omega)
def MRet (B gp:Nat) (X:Option Addr) (t:Bs) (c k:Nat) (od:Bool) (w:World) (e:Ending) (w':World):Prop:=
 ∃ k' od' n,e = .returned (.int .i64 n)∧RS B w' gp X t c k' od'∧0≤n∧n≤1000∧(od' = true→n=0)∧RMid numR manyDec gp gp (t.drop k) od w w' n (numL n) (t.drop k') od'
theorem MRet.mk {B gp:Nat} {X:Option Addr} {t:Bs} {c k:Nat} {od:Bool} {w w':World} (k':Nat) (od':Bool) (n:Int) {v:Value} (hv:v = .int .i64 n) (h1:RS B w' gp X t c k' od') (h2:0≤n) (h3:n≤1000) (h4:od' = true→n=0) (h5:RMid numR manyDec gp gp (t.drop k) od w w' n (numL n) (t.drop k') od'):MRet B gp X t c k od w (.returned v) w':=⟨k',od',n,by rw [hv],h1,h2,h3,h4,h5⟩
theorem rfmany (B gp:Nat) (X:Option Addr) (t:Bs) (c k:Nat) (od:Bool) (w:World) (hS:RS B w gp X t c k od) :
    Calls Try.prog 88 #[.pointer (some ⟨gp,0,none⟩)] w fun e w' => MRet B gp X t c k od w e w':=by
 go_enter Try.func88,Try.ntmps88
 go_wp2_with fail
 refine (rfnum B gp X t c k od w hS).mono ?_
 rintro e w1 h1
 obtain ⟨k1,od1,n,rfl,hS1,hM1⟩:=h1
 have H1:=Lib.hid (And.intro hS1 hM1)
 have p2:w1.cell? ⟨gp,2,none⟩=some (.bool od1):=hS1.blk.cell 2
 have z2:=hS1.blk.frozen 2
 clear hS hS1 hM1
 by_cases hb:n < 0∨1000 < n
 ·have HBD:=Lib.hid hb
  have q2:(w1.setCell ⟨gp,2,none⟩ (.bool true)).cell? ⟨gp,2,none⟩=some (.bool true):=H1.out.1.odd.blk.cell 2
  have fin:MRet B gp X t c k od w (.returned (.int .i64 0)) (w1.setCell ⟨gp,2,none⟩ (.bool true)):=
   MRet.mk k1 true 0 rfl H1.out.1.odd (by omega) (by omega) (fun _=>rfl) ⟨rfl,H1.out.2.fr.set_ (p:=⟨gp,2,none⟩) (.inl rfl) _,H1.out.2.le,(fun e=>by cases e),fun _ e0=>by
    cases od1 with
    | true=>exact many_none (H1.out.2.bad rfl e0)
    | false=>exact many_odd (H1.out.2.ok rfl).2 HBD.out⟩
  have FIN:=Lib.hid fin
  clear fin
  rcases hb with hb | hb
  ·have hi:decide (n < 0)=true:=decide_eq_true hb
   go_wp2_with fail
   go_ret
   exact FIN.out
  ·have h0:¬ n < 0:=by omega
   go_wp2_with fail
   go_ret
   exact FIN.out
 ·have HBD:=Lib.hid hb
  have h0:¬ n < 0:=by omega
  have h1:¬ 1000 < n:=by omega
  clear hb
  rcases od1 with _ | _
  ·go_wp2_with fail
   go_ret
   exact MRet.mk k1 false n rfl H1.out.1 (by omega) (by omega) (fun e=>by cases e) ⟨rfl,H1.out.2.fr,H1.out.2.le,(fun e=>⟨(H1.out.2.ok e).1,many_some (H1.out.2.ok e).2 HBD.out⟩),fun e=>by cases e⟩
  ·go_wp2_with fail
   go_ret
   exact MRet.mk k1 true 0 rfl H1.out.1 (by omega) (by omega) (fun _=>rfl) ⟨rfl,H1.out.2.fr,H1.out.2.le,(fun e=>by cases e),fun e e0=>many_none (H1.out.2.bad e e0)⟩
end Go.Proofs.Ytfdldbfjeamlcaa.RfMany
namespace Go.Proofs.Ytfdldbfjeamlcaa.RfFlat
set_option maxRecDepth 100000
set_option maxHeartbeats 4000000
open Go.RowKit Mem RecMem RecByte RecNum RecEach RecMath RecCod RecCods RecPort RecCommand RecCmdJ RecVal RecSame RecOwn RecRd RecRByte RecRNum RecREach RecRFlat RecRClass RecRL0 RecRListI RecRAsk RecRState RecRCmd RecRRec RfRd RfByte RfNum RfMany
def t3R:Rep B3:=flatR 3 t3L fun _=>rfl
def boxR:Rep (I3 × I3):=flatR 6 boxL fun _=>rfl
def spanR:Rep (Int × Int):=flatR 2 spanL fun _=>rfl
def aPk {α:Type} (L:α→List Value) (x:α):Value:=.agg (L x).toArray
theorem blk_set2 {w:World} {g:Nat} {T:TypeId} {a b:Value} (h:Blk w g T #[a,b]) (x y:Value):Blk ((w.setCell ⟨g,0,none⟩ x).setCell ⟨g,1,none⟩ y) g T #[x,y]:=(h.set_ 0 x).set_ 1 y
theorem blk_set3 {w:World} {g:Nat} {T:TypeId} {a b c:Value} (h:Blk w g T #[a,b,c]) (x y z:Value):Blk (((w.setCell ⟨g,0,none⟩ x).setCell ⟨g,1,none⟩ y).setCell ⟨g,2,none⟩ z) g T #[x,y,z]:=((h.set_ 0 x).set_ 1 y).set_ 2 z
theorem only_set2 (w:World) (g:Nat) (x y:Value):Only g w ((w.setCell ⟨g,0,none⟩ x).setCell ⟨g,1,none⟩ y):=((Only.refl g w).set_ 0 x).set_ 1 y
theorem only_set3 (w:World) (g:Nat) (x y z:Value):Only g w (((w.setCell ⟨g,0,none⟩ x).setCell ⟨g,1,none⟩ y).setCell ⟨g,2,none⟩ z):=(((Only.refl g w).set_ 0 x).set_ 1 y).set_ 2 z
theorem RS.only {B:Nat} {w w':World} {gp:Nat} {X:Option Addr} {t:Bs} {c k:Nat} {od:Bool} {b:Nat} (h:RS B w gp X t c k od) (ho:Only b w w') (hb:B≤b) (hne:b≠gp):RS B w' gp X t c k od:=
 h.fr h.le (ho.blk h.blk hne.symm) fun i hi=>ho.block i (by have:=h.lt;have:=h.low;omega) (by omega)
theorem rfthree (B gp:Nat) (X:Option Addr) (t:Bs) (c k:Nat) (od:Bool) (w:World) (hS:RS B w gp X t c k od) :
    Calls Try.prog 87 #[.pointer (some ⟨gp,0,none⟩)] w fun e w' => VRet n3R n3C.dec (aPk n3L) n3L B gp X t c k od w e w':=by
 have hlt:=hS.lt
 have hlow:=hS.low
 have HS:=Lib.hid (hS.alloc (.cells #[.int .i64 0,.int .i64 0,.int .i64 0] 22))
 have K0:=Lib.hid (Blk.new w 22 #[.int .i64 0,.int .i64 0,.int .i64 0])
 have HB:=Lib.hid (below_alloc (o:=.cells #[.int .i64 0,.int .i64 0,.int .i64 0] 22) (Below.refl w.heap.size w))
 have hsz:w.heap.size < (w.alloc (.cells #[.int .i64 0,.int .i64 0,.int .i64 0] 22)).heap.size:=by simp
 clear hS
 go_enter Try.func87,Try.ntmps87
 go_upto_region 1 with fail
 generalize w.alloc (.cells #[.int .i64 0,.int .i64 0,.int .i64 0] 22)=w0 at *
 go_wp2_with fail
 refine (rfnum B gp X t c k od w0 HS.out).mono ?_
 rintro e w1 h1
 obtain ⟨k1,od1,x1,rfl,hS1,hM1⟩:=h1
 have K1:=Lib.hid (hM1.fr.blk K0.out (by omega) (by omega))
 have H1:=Lib.hid (And.intro hS1 hM1)
 clear hS1 hM1
 go_wp2_with fail
 refine (rfnum B gp X t c k1 od1 w1 H1.out.1).mono ?_
 rintro e w2 h2
 obtain ⟨k2,od2,x2,rfl,hS2,hM2⟩:=h2
 have K2:=Lib.hid (hM2.fr.blk K1.out (by omega) (by omega))
 have H2:=Lib.hid (And.intro hS2 hM2)
 clear hS2 hM2
 go_wp2_with fail
 refine (rfnum B gp X t c k2 od2 w2 H2.out.1).mono ?_
 rintro e w3 h3
 obtain ⟨k3,od3,x3,rfl,hS3,hM3⟩:=h3
 have K3:=Lib.hid (hM3.fr.blk K2.out (by omega) (by omega))
 have H3:=Lib.hid (And.intro hS3 hM3)
 clear hS3 hM3
 have c0:w3.cell? ⟨w.heap.size,0,none⟩=some (.int .i64 0):=K3.out.cell 0
 have c1:w3.cell? ⟨w.heap.size,1,none⟩=some (.int .i64 0):=K3.out.cell 1
 have c2:w3.cell? ⟨w.heap.size,2,none⟩=some (.int .i64 0):=K3.out.cell 2
 have z0:=K3.out.frozen 0
 have z1:=K3.out.frozen 1
 have z2:=K3.out.frozen 2
 go_wp2_with fail
 have hM:=((H1.out.2.pair H2.out.2 (by omega) (by omega)).pair H3.out.2 (by omega) (by omega))
 have hM2:RMid n3R n3C.dec gp gp (t.drop k) od w0 w3 ((x1,x2),x3) (n3L ((x1,x2),x3)) (t.drop k3) od3:=⟨rfl,hM.fr,hM.le,hM.ok,hM.bad⟩
 have hM3:=RMid.over (RMid.ahead hM2 HB.out) (T:=22) keepN_flat (Nat.le_refl _) K3.out (only_set3 w3 w.heap.size (.int .i64 x1) (.int .i64 x2) (.int .i64 x3))
 have hS9:=RS.only H3.out.1 (only_set3 w3 w.heap.size (.int .i64 x1) (.int .i64 x2) (.int .i64 x3)) (by omega) (by omega)
 have K9:=blk_set3 K3.out (.int .i64 x1) (.int .i64 x2) (.int .i64 x3)
 clear hM hM2 c0 z0 c1 z1 c2 z2
 generalize ((w3.setCell ⟨w.heap.size,0,none⟩ (.int .i64 x1)).setCell ⟨w.heap.size,1,none⟩ (.int .i64 x2)).setCell ⟨w.heap.size,2,none⟩ (.int .i64 x3)=w9 at *
 have c0:w9.cell? ⟨w.heap.size,0,none⟩=some (.int .i64 x1):=K9.cell 0
 have c1:w9.cell? ⟨w.heap.size,1,none⟩=some (.int .i64 x2):=K9.cell 1
 have c2:w9.cell? ⟨w.heap.size,2,none⟩=some (.int .i64 x3):=K9.cell 2
 exact bodyPost_ret (v:=.agg #[.int .i64 x1,.int .i64 x2,.int .i64 x3]) (by simp [results,Try.results87,go_sem,c0,c1,c2]) rfl (VRet.mk k3 od3 ((x1,x2),x3) rfl hS9 hM3)
theorem rftruths (B gp:Nat) (X:Option Addr) (t:Bs) (c k:Nat) (od:Bool) (w:World) (hS:RS B w gp X t c k od) :
    Calls Try.prog 89 #[.pointer (some ⟨gp,0,none⟩)] w fun e w' => VRet t3R t3C.dec (aPk t3L) t3L B gp X t c k od w e w':=by
 have hlt:=hS.lt
 have hlow:=hS.low
 have HS:=Lib.hid (hS.alloc (.cells #[.bool false,.bool false,.bool false] 23))
 have K0:=Lib.hid (Blk.new w 23 #[.bool false,.bool false,.bool false])
 have HB:=Lib.hid (below_alloc (o:=.cells #[.bool false,.bool false,.bool false] 23) (Below.refl w.heap.size w))
 have hsz:w.heap.size < (w.alloc (.cells #[.bool false,.bool false,.bool false] 23)).heap.size:=by simp
 clear hS
 go_enter Try.func89,Try.ntmps89
 go_upto_region 1 with fail
 generalize w.alloc (.cells #[.bool false,.bool false,.bool false] 23)=w0 at *
 go_wp2_with fail
 refine (rftruth B gp X t c k od w0 HS.out).mono ?_
 rintro e w1 h1
 obtain ⟨k1,od1,x1,rfl,hS1,hM1⟩:=h1
 have K1:=Lib.hid (hM1.fr.blk K0.out (by omega) (by omega))
 have H1:=Lib.hid (And.intro hS1 hM1)
 clear hS1 hM1
 go_wp2_with fail
 refine (rftruth B gp X t c k1 od1 w1 H1.out.1).mono ?_
 rintro e w2 h2
 obtain ⟨k2,od2,x2,rfl,hS2,hM2⟩:=h2
 have K2:=Lib.hid (hM2.fr.blk K1.out (by omega) (by omega))
 have H2:=Lib.hid (And.intro hS2 hM2)
 clear hS2 hM2
 go_wp2_with fail
 refine (rftruth B gp X t c k2 od2 w2 H2.out.1).mono ?_
 rintro e w3 h3
 obtain ⟨k3,od3,x3,rfl,hS3,hM3⟩:=h3
 have K3:=Lib.hid (hM3.fr.blk K2.out (by omega) (by omega))
 have H3:=Lib.hid (And.intro hS3 hM3)
 clear hS3 hM3
 have c0:w3.cell? ⟨w.heap.size,0,none⟩=some (.bool false):=K3.out.cell 0
 have c1:w3.cell? ⟨w.heap.size,1,none⟩=some (.bool false):=K3.out.cell 1
 have c2:w3.cell? ⟨w.heap.size,2,none⟩=some (.bool false):=K3.out.cell 2
 have z0:=K3.out.frozen 0
 have z1:=K3.out.frozen 1
 have z2:=K3.out.frozen 2
 go_wp2_with fail
 have hM:=((H1.out.2.pair H2.out.2 (by omega) (by omega)).pair H3.out.2 (by omega) (by omega))
 have hM2:RMid t3R t3C.dec gp gp (t.drop k) od w0 w3 ((x1,x2),x3) (t3L ((x1,x2),x3)) (t.drop k3) od3:=⟨rfl,hM.fr,hM.le,hM.ok,hM.bad⟩
 have hM3:=RMid.over (RMid.ahead hM2 HB.out) (T:=23) keepN_flat (Nat.le_refl _) K3.out (only_set3 w3 w.heap.size (.bool x1) (.bool x2) (.bool x3))
 have hS9:=RS.only H3.out.1 (only_set3 w3 w.heap.size (.bool x1) (.bool x2) (.bool x3)) (by omega) (by omega)
 have K9:=blk_set3 K3.out (.bool x1) (.bool x2) (.bool x3)
 clear hM hM2 c0 z0 c1 z1 c2 z2
 generalize ((w3.setCell ⟨w.heap.size,0,none⟩ (.bool x1)).setCell ⟨w.heap.size,1,none⟩ (.bool x2)).setCell ⟨w.heap.size,2,none⟩ (.bool x3)=w9 at *
 have c0:w9.cell? ⟨w.heap.size,0,none⟩=some (.bool x1):=K9.cell 0
 have c1:w9.cell? ⟨w.heap.size,1,none⟩=some (.bool x2):=K9.cell 1
 have c2:w9.cell? ⟨w.heap.size,2,none⟩=some (.bool x3):=K9.cell 2
 exact bodyPost_ret (v:=.agg #[.bool x1,.bool x2,.bool x3]) (by simp [results,Try.results89,go_sem,c0,c1,c2]) rfl (VRet.mk k3 od3 ((x1,x2),x3) rfl hS9 hM3)
theorem rfspan (B gp:Nat) (X:Option Addr) (t:Bs) (c k:Nat) (od:Bool) (w:World) (hS:RS B w gp X t c k od) :
    Calls Try.prog 85 #[.pointer (some ⟨gp,0,none⟩)] w fun e w' => VRet spanR spanC.dec (aPk spanL) spanL B gp X t c k od w e w':=by
 have hlt:=hS.lt
 have hlow:=hS.low
 have HS:=Lib.hid (hS.alloc (.cells #[.int .i64 0,.int .i64 0] 32))
 have K0:=Lib.hid (Blk.new w 32 #[.int .i64 0,.int .i64 0])
 have HB:=Lib.hid (below_alloc (o:=.cells #[.int .i64 0,.int .i64 0] 32) (Below.refl w.heap.size w))
 have hsz:w.heap.size < (w.alloc (.cells #[.int .i64 0,.int .i64 0] 32)).heap.size:=by simp
 clear hS
 go_enter Try.func85,Try.ntmps85
 go_upto_region 1 with fail
 generalize w.alloc (.cells #[.int .i64 0,.int .i64 0] 32)=w0 at *
 go_wp2_with fail
 refine (rfnum B gp X t c k od w0 HS.out).mono ?_
 rintro e w1 h1
 obtain ⟨k1,od1,x1,rfl,hS1,hM1⟩:=h1
 have K1:=Lib.hid (hM1.fr.blk K0.out (by omega) (by omega))
 have H1:=Lib.hid (And.intro hS1 hM1)
 clear hS1 hM1
 go_wp2_with fail
 refine (rfnum B gp X t c k1 od1 w1 H1.out.1).mono ?_
 rintro e w2 h2
 obtain ⟨k2,od2,x2,rfl,hS2,hM2⟩:=h2
 have K2:=Lib.hid (hM2.fr.blk K1.out (by omega) (by omega))
 have H2:=Lib.hid (And.intro hS2 hM2)
 clear hS2 hM2
 have c0:w2.cell? ⟨w.heap.size,0,none⟩=some (.int .i64 0):=K2.out.cell 0
 have c1:w2.cell? ⟨w.heap.size,1,none⟩=some (.int .i64 0):=K2.out.cell 1
 have z0:=K2.out.frozen 0
 have z1:=K2.out.frozen 1
 go_wp2_with fail
 have hM:=(H1.out.2.pair H2.out.2 (by omega) (by omega))
 have hM2:RMid spanR spanC.dec gp gp (t.drop k) od w0 w2 (x1,x2) (spanL (x1,x2)) (t.drop k2) od2:=⟨rfl,hM.fr,hM.le,hM.ok,hM.bad⟩
 have hM3:=RMid.over (RMid.ahead hM2 HB.out) (T:=32) keepN_flat (Nat.le_refl _) K2.out (only_set2 w2 w.heap.size (.int .i64 x1) (.int .i64 x2))
 have hS9:=RS.only H2.out.1 (only_set2 w2 w.heap.size (.int .i64 x1) (.int .i64 x2)) (by omega) (by omega)
 have K9:=blk_set2 K2.out (.int .i64 x1) (.int .i64 x2)
 clear hM hM2 c0 z0 c1 z1
 generalize (w2.setCell ⟨w.heap.size,0,none⟩ (.int .i64 x1)).setCell ⟨w.heap.size,1,none⟩ (.int .i64 x2)=w9 at *
 have c0:w9.cell? ⟨w.heap.size,0,none⟩=some (.int .i64 x1):=K9.cell 0
 have c1:w9.cell? ⟨w.heap.size,1,none⟩=some (.int .i64 x2):=K9.cell 1
 exact bodyPost_ret (v:=.agg #[.int .i64 x1,.int .i64 x2]) (by simp [results,Try.results85,go_sem,c0,c1]) rfl (VRet.mk k2 od2 (x1,x2) rfl hS9 hM3)
end Go.Proofs.Ytfdldbfjeamlcaa.RfFlat
namespace Go.Proofs.Ytfdldbfjeamlcaa.RfBox
set_option maxRecDepth 100000
set_option maxHeartbeats 4000000
open Go.RowKit Mem RecMem RecByte RecNum RecEach RecMath RecCod RecCods RecPort RecCommand RecCmdJ RecVal RecSame RecOwn RecRd RecRByte RecRNum RecREach RecRFlat RecRClass RecRL0 RecRListI RecRAsk RecRState RecRCmd RecRRec RfRd RfByte RfNum RfMany RfFlat
theorem blk_set6 {w:World} {g:Nat} {T:TypeId} {a b c d e f:Value} (h:Blk w g T #[a,b,c,d,e,f]) (p q r s t u:Value):Blk ((((((w.setCell ⟨g,0,none⟩ p).setCell ⟨g,1,none⟩ q).setCell ⟨g,2,none⟩ r).setCell ⟨g,3,none⟩ s).setCell ⟨g,4,none⟩ t).setCell ⟨g,5,none⟩ u) g T #[p,q,r,s,t,u]:=(((((h.set_ 0 p).set_ 1 q).set_ 2 r).set_ 3 s).set_ 4 t).set_ 5 u
theorem only_set6 (w:World) (g:Nat) (p q r s t u:Value):Only g w ((((((w.setCell ⟨g,0,none⟩ p).setCell ⟨g,1,none⟩ q).setCell ⟨g,2,none⟩ r).setCell ⟨g,3,none⟩ s).setCell ⟨g,4,none⟩ t).setCell ⟨g,5,none⟩ u):=((((((Only.refl g w).set_ 0 p).set_ 1 q).set_ 2 r).set_ 3 s).set_ 4 t).set_ 5 u
theorem rfbox (B gp:Nat) (X:Option Addr) (t:Bs) (c k:Nat) (od:Bool) (w:World) (hS:RS B w gp X t c k od) :
    Calls Try.prog 84 #[.pointer (some ⟨gp,0,none⟩)] w fun e w' => VRet boxR boxC.dec (aPk boxL) boxL B gp X t c k od w e w':=by
 have hlt:=hS.lt
 have hlow:=hS.low
 have HS:=Lib.hid (hS.alloc (.cells #[.int .i64 0,.int .i64 0,.int .i64 0,.int .i64 0,.int .i64 0,.int .i64 0] 30))
 have K0:=Lib.hid (Blk.new w 30 #[.int .i64 0,.int .i64 0,.int .i64 0,.int .i64 0,.int .i64 0,.int .i64 0])
 have HB:=Lib.hid (below_alloc (o:=.cells #[.int .i64 0,.int .i64 0,.int .i64 0,.int .i64 0,.int .i64 0,.int .i64 0] 30) (Below.refl w.heap.size w))
 have hsz:w.heap.size < (w.alloc (.cells #[.int .i64 0,.int .i64 0,.int .i64 0,.int .i64 0,.int .i64 0,.int .i64 0] 30)).heap.size:=by simp
 clear hS
 go_enter Try.func84,Try.ntmps84
 go_upto_region 1 with fail
 generalize w.alloc (.cells #[.int .i64 0,.int .i64 0,.int .i64 0,.int .i64 0,.int .i64 0,.int .i64 0] 30)=w0 at *
 go_wp2_with fail
 refine (rfthree B gp X t c k od w0 HS.out).mono ?_
 rintro e w1 h1
 obtain ⟨k1,od1,x1,rfl,hS1,hM1⟩:=h1
 have K1:=Lib.hid (hM1.fr.blk K0.out (by omega) (by omega))
 have H1:=Lib.hid (And.intro hS1 hM1)
 have hs1:=hM1.fr.size
 clear hS1 hM1
 simp only [aPk,n3L,numL,List.append_eq,List.cons_append,List.nil_append]
 go_upto_region 2 with fail
 have K2:=Lib.hid (K1.out.alloc (.cells #[.int .i64 x1.1.1,.int .i64 x1.1.2,.int .i64 x1.2] 22))
 have KB:=Lib.hid (Blk.new w1 22 #[.int .i64 x1.1.1,.int .i64 x1.1.2,.int .i64 x1.2])
 have H2:=Lib.hid (And.intro (H1.out.1.alloc (.cells #[.int .i64 x1.1.1,.int .i64 x1.1.2,.int .i64 x1.2] 22)) (RMid.up H1.out.2 (below_alloc (o:=.cells #[.int .i64 x1.1.1,.int .i64 x1.1.2,.int .i64 x1.2] 22) (Below.refl _ w1))))
 have hs2:w1.heap.size < (w1.alloc (.cells #[.int .i64 x1.1.1,.int .i64 x1.1.2,.int .i64 x1.2] 22)).heap.size:=by simp
 generalize w1.alloc (.cells #[.int .i64 x1.1.1,.int .i64 x1.1.2,.int .i64 x1.2] 22)=v1 at *
 have hg1:w1.heap.size≠gp:=by omega
 have hg2:w.heap.size≠gp:=by omega
 have hg3:w1.heap.size≠w.heap.size:=by omega
 generalize w1.heap.size=g1 at *
 have q0:v1.drew.cell? ⟨g1,0,none⟩=some (.int .i64 x1.1.1):=KB.out.drew.cell 0
 have q1:v1.drew.cell? ⟨g1,1,none⟩=some (.int .i64 x1.1.2):=KB.out.drew.cell 1
 have q2:v1.drew.cell? ⟨g1,2,none⟩=some (.int .i64 x1.2):=KB.out.drew.cell 2
 have hg1':=Lib.hid hg1
 have HH:=Lib.hid (And.intro hg2 hg3)
 clear hg1 hg2 hg3
 go_region_law (first | (go_simp;refine (rfthree B gp X t c k1 od1 v1.drew H2.out.1.drew).mono ?_;rintro e w3 h3;obtain ⟨k3,od3,x2,rfl,hS3,hM3⟩:=h3;have K3:=Lib.hid (hM3.fr.blk K2.out.drew HH.out.1 HH.out.1);have KC:=Lib.hid (hM3.fr.blk KB.out.drew hg1'.out hg1'.out);have H3:=Lib.hid (And.intro hS3 hM3);clear hS3 hM3;have r0:w3.cell? ⟨g1,0,none⟩=some (.int .i64 x1.1.1):=KC.out.cell 0;have r1:w3.cell? ⟨g1,1,none⟩=some (.int .i64 x1.1.2):=KC.out.cell 1;have r2:w3.cell? ⟨g1,2,none⟩=some (.int .i64 x1.2):=KC.out.cell 2;have c0:w3.cell? ⟨w.heap.size,0,none⟩=some (.int .i64 0):=K3.out.cell 0;have c1:w3.cell? ⟨w.heap.size,1,none⟩=some (.int .i64 0):=K3.out.cell 1;have c2:w3.cell? ⟨w.heap.size,2,none⟩=some (.int .i64 0):=K3.out.cell 2;have c3:w3.cell? ⟨w.heap.size,3,none⟩=some (.int .i64 0):=K3.out.cell 3;have c4:w3.cell? ⟨w.heap.size,4,none⟩=some (.int .i64 0):=K3.out.cell 4;have c5:w3.cell? ⟨w.heap.size,5,none⟩=some (.int .i64 0):=K3.out.cell 5;have z0:=K3.out.frozen 0;have z1:=K3.out.frozen 1;have z2:=K3.out.frozen 2;have z3:=K3.out.frozen 3;have z4:=K3.out.frozen 4;have z5:=K3.out.frozen 5;simp only [aPk,n3L,numL,List.append_eq,List.cons_append,List.nil_append]))
 all_goals
  clear r0 r1 r2 c0 z0 c1 z1 c2 z2 c3 z3 c4 z4 c5 z5 q0 q1 q2
  have hM:=(RMid.up H2.out.2 (Below.drew (Below.refl _ v1))).pair H3.out.2 (by omega) (by omega)
  have hM2:RMid boxR boxC.dec gp gp (t.drop k) od w0 w3 (x1,x2) (boxL (x1,x2)) (t.drop k3) od3:=⟨rfl,hM.fr,hM.le,hM.ok,hM.bad⟩
  have ho:=only_set6 w3 w.heap.size (.int .i64 x1.1.1) (.int .i64 x1.1.2) (.int .i64 x1.2) (.int .i64 x2.1.1) (.int .i64 x2.1.2) (.int .i64 x2.2)
  have hM3:=RMid.over (RMid.ahead hM2 HB.out) (T:=30) keepN_flat (Nat.le_refl _) K3.out ho
  have hS9:=RS.only H3.out.1 ho (by omega) (by omega)
  have K9:=blk_set6 K3.out (.int .i64 x1.1.1) (.int .i64 x1.1.2) (.int .i64 x1.2) (.int .i64 x2.1.1) (.int .i64 x2.1.2) (.int .i64 x2.2)
  clear hM hM2 ho
  generalize ((((((w3.setCell ⟨w.heap.size,0,none⟩ (.int .i64 x1.1.1)).setCell ⟨w.heap.size,1,none⟩ (.int .i64 x1.1.2)).setCell ⟨w.heap.size,2,none⟩ (.int .i64 x1.2)).setCell ⟨w.heap.size,3,none⟩ (.int .i64 x2.1.1)).setCell ⟨w.heap.size,4,none⟩ (.int .i64 x2.1.2)).setCell ⟨w.heap.size,5,none⟩ (.int .i64 x2.2))=w9 at *
  have c0:w9.cell? ⟨w.heap.size,0,none⟩=some (.int .i64 x1.1.1):=K9.cell 0
  have c1:w9.cell? ⟨w.heap.size,1,none⟩=some (.int .i64 x1.1.2):=K9.cell 1
  have c2:w9.cell? ⟨w.heap.size,2,none⟩=some (.int .i64 x1.2):=K9.cell 2
  have c3:w9.cell? ⟨w.heap.size,3,none⟩=some (.int .i64 x2.1.1):=K9.cell 3
  have c4:w9.cell? ⟨w.heap.size,4,none⟩=some (.int .i64 x2.1.2):=K9.cell 4
  have c5:w9.cell? ⟨w.heap.size,5,none⟩=some (.int .i64 x2.2):=K9.cell 5
  go_wp2_with fail
  exact bodyPost_ret (v:=.agg #[.int .i64 x1.1.1,.int .i64 x1.1.2,.int .i64 x1.2,.int .i64 x2.1.1,.int .i64 x2.1.2,.int .i64 x2.2]) (by simp [results,Try.results84,go_sem,c0,c1,c2,c3,c4,c5]) rfl (VRet.mk k3 od3 (x1,x2) rfl hS9 hM3)
end Go.Proofs.Ytfdldbfjeamlcaa.RfBox
namespace Go.Proofs.Ytfdldbfjeamlcaa.RfList
set_option maxRecDepth 100000
set_option maxHeartbeats 4000000
open Go.RowKit Mem RecMem RecByte RecNum RecEach RecMath RecCod RecCods RecPort RecCommand RecCmdJ RecVal RecSame RecOwn RecRd RecRByte RecRNum RecREach RecRFlat RecRClass RecRL0 RecRListI RecRAsk RecRState RecRCmd RecRRec RfRd RfByte RfNum RfMany RfFlat
structure RLt {α:Type} (R:Rep α) (c:Cod α) (e:TypeId) (F:Nat) (t1:Bs) (od:Bool) (j:Nat) (l:List α) (t2:Bs) (od2:Bool) (V:Option Addr) (cv:Nat) (xs:List Value) (w:World):Prop where
 len:l.length=j
 own:w.ownsRow F e R.n (.slice V j cv) j xs
 els:∀ i x,l[i]? = some x→R.At w F x ((xs.drop (i*R.n)).take R.n)
 le:t2.length≤t1.length
 ok:od2=false→od=false∧decN c j t1=some (l,t2)
 bad:od2=true→od=false→decN c j t1=none
section
variable {α:Type} {R:Rep α} {c:Cod α} {e:TypeId} {F gp:Nat} {t1 t2 t3:Bs} {od od2 od3:Bool} {j:Nat} {l:List α} {V:Option Addr} {cv:Nat} {xs vs:List Value} {w w2 w3:World} {x:α}
theorem RLt.nil (R:Rep α) (c:Cod α) (e:TypeId) (F:Nat) (t:Bs) (od:Bool) (w:World):RLt R c e F t od 0 [] t od none 0 [] w:=
 ⟨rfl,World.ownsRow_nil _ _ _ _,fun i x h=>by simp at h,Nat.le_refl _,fun h=>⟨h,rfl⟩,fun h h2=>by rw [h] at h2;cases h2⟩
theorem RLt.keep (h:RLt R c e F t1 od j l t2 od2 V cv xs w) (hk:∀ k,F≤k→k < w.heap.size→w2.heap[k]? = w.heap[k]?) (hs:w.heap.size≤w2.heap.size):RLt R c e F t1 od j l t2 od2 V cv xs w2:=
 ⟨h.len,ownsRow_agree h.own (fun g cur hg hh=>hk g hg (Array.getElem?_eq_some_iff.1 hh).1),fun i y hi=>R.keep (h.els i y hi) hk hs,h.le,h.ok,h.bad⟩
theorem RLt.at_ (h:RLt R c e F t1 od j l t2 od2 V cv xs w):(listR R e).At w F l [.slice V l.length cv]:=by
 obtain ⟨rfl,h1,h2,_⟩:=h
 exact ⟨V,cv,xs,rfl,h1,h2⟩
theorem RLt.push (h:RLt R c e F t1 od j l t2 od2 V cv xs w) (hN:KeepN e R) (hg:gp < F) (hF:F≤w.heap.size) (hM:RMid R c.dec gp gp t2 od2 w w2 x vs t3 od3) {ob:Obj} {V2:Option Addr} {cv2:Nat}
    (ho:w3.ownsRow F e R.n (.slice V2 (j+1) cv2) (j+1) (xs ++ vs)) (hgr:(w2.alloc ob).grownBy w3 (Value.slice V j cv).ownBlock):RLt R c e F t1 od (j+1) (l ++ [x]) t3 od3 V2 cv2 (xs ++ vs) w3:=by
 have hk:=h.keep (w2:=w2) (fun k hk hl=>hM.fr.block k hl (by omega) (by omega)) hM.fr.size
 have hown:∀ g,(Value.slice V j cv).ownBlock=some g→F≤g∧∃ cur,w2.heap[g]? = some (.cells cur e (0,0)):=fun g hgo=>by
  obtain ⟨a,_,q⟩:=own_ge hk.own hgo
  exact ⟨a,q⟩
 have hag:∀ g cs' e',e'≠e→F≤g→w2.heap[g]? = some (.cells cs' e' (0,0))→w3.heap[g]? = w2.heap[g]?:=fun g cs' e' he hg2 hh=>by
  have hl:=(Array.getElem?_eq_some_iff.1 hh).1
  rw [hgr.block g (by simp;omega) (fun e1=>by
   obtain ⟨_,cur,hc⟩:=hown g e1.symm
   rw [hc] at hh
   injection hh with hh
   injection hh with _ hh
   exact he hh.symm),Below.heap_alloc w2 ob g hl]
 have hxl:xs.length=j*R.n:=hk.own.1
 have hvl:vs.length=R.n:=R.len hM.at_
 refine ⟨by rw [List.length_append,h.len];rfl,ho,?_,Nat.le_trans hM.le h.le,fun e2=>?_,fun e2 e0=>?_⟩
 ·intro i y hi
  rcases Nat.lt_or_ge i l.length with hlt | hge
  ·rw [List.getElem?_append_left hlt] at hi
   have hik:(i+1)*R.n≤j*R.n:=Nat.mul_le_mul_right _ (by have:=h.len;omega)
   rw [Nat.add_mul,Nat.one_mul] at hik
   rw [List.drop_append_of_le_length (by omega),List.take_append_of_le_length (by rw [List.length_drop];omega)]
   exact hN _ _ _ _ _ (hk.els i y hi) hag
  ·rw [List.getElem?_append_right hge] at hi
   have hi0:i=l.length:=by
    have:=(List.getElem?_eq_some_iff.1 hi).1
    simp at this;omega
   subst hi0
   simp at hi
   subst hi
   rw [h.len,← hxl,List.drop_left,List.take_of_length_le (by omega)]
   exact hN _ _ _ _ _ (R.mono hM.at_ hF) hag
 ·obtain ⟨e1,d2⟩:=hM.ok e2
  obtain ⟨e0,d1⟩:=h.ok e1
  exact ⟨e0,by rw [decN_snoc,d1,Option.bind_some];simp only [d2];rfl⟩
 ·rw [decN_snoc]
  cases ho':od2 with
  | true=>rw [h.bad ho' e0];rfl
  | false=>rw [(h.ok ho').2,Option.bind_some];simp only [hM.bad e2 ho'];rfl
theorem RLt.done {k k1:Nat} {n:Int} {s:Bs} {od0:Bool} (hm:od=false→od0=false∧manyDec s=some (n,t1)) (hb:od=true→od0=false→manyDec s=none) (h:RLt R c e F t1 od j l t2 od2 V cv xs w) (hj:j≤n.toNat) (hn:od2=false→j=n.toNat) :
    (od2=false→od0=false∧listDec c s=some (l,t2))∧(od2=true→od0=false→listDec c s=none):=by
 refine ⟨fun e2=>?_,fun e2 e0=>?_⟩
 ·obtain ⟨e1,d⟩:=h.ok e2
  obtain ⟨e0,m⟩:=hm e1
  refine ⟨e0,?_⟩
  rw [(list_many m).2.2,← hn e2,d]
 ·cases ho:od with
  | true=>exact list_many_none (hb ho e0)
  | false =>
   rw [(list_many (hm ho).2).2.2]
   exact decN_up (h.bad e2 ho) hj
end
def LRet (B gp:Nat) (X:Option Addr) (t:Bs) (c k:Nat) (od:Bool) (w:World) (e:Ending) (w':World):Prop:=
 ∃ k' od' l V cv,e = .returned (.slice V l.length cv)∧RS B w' gp X t c k' od'∧RMid afR (listDec numC) gp gp (t.drop k) od w w' l [.slice V l.length cv] (t.drop k') od'
theorem LRet.mk {B gp:Nat} {X:Option Addr} {t:Bs} {c k:Nat} {od:Bool} {w w':World} (k':Nat) (od':Bool) (l:List Int) (V:Option Addr) (cv:Nat) {v:Value} (hv:v = .slice V l.length cv) (h1:RS B w' gp X t c k' od') (h2:RMid afR (listDec numC) gp gp (t.drop k) od w w' l [.slice V l.length cv] (t.drop k') od'):LRet B gp X t c k od w (.returned v) w':=⟨k',od',l,V,cv,by rw [hv],h1,h2⟩
theorem int_info:(Try.prog.info? INT).map (fun i=>(i.zero,i.size,i.bytes))=some (some (.int .i64 0),1,8):=by kernel_rfl
def LNt (B gp:Nat) (X:Option Addr) (t:Bs) (c k1:Nat) (od1:Bool) (w1:World) (j:Nat) (out:Value) (wr:World):Prop:=
 ∃ l V cv xs k2 od2,out = .slice V j cv∧RS B wr gp X t c k2 od2∧FrR gp gp w1 wr∧RLt numR numC INT w1.heap.size (t.drop k1) od1 j l (t.drop k2) od2 V cv xs wr∧wr.cell? ⟨gp,2,none⟩=some (.bool od2)
theorem RS.grown {B:Nat} {w w':World} {gp:Nat} {X:Option Addr} {t:Bs} {c k:Nat} {od:Bool} {row:Option Nat} (h:RS B w gp X t c k od) (hg:w.grownBy w' row) (hr:∀ j,row=some j→gp < j):RS B w' gp X t c k od:=
 h.fr h.le (h.blk.grown hg (fun e=>by have:=hr gp e.symm;omega)) fun i hi=>hg.block i (by have:=h.lt;have:=h.low;omega) (fun e=>by have:=hr i e.symm;have:=h.low;omega)
theorem own_up' {w w':World} {B size n:Nat} {e:TypeId} {v:Value} {xs:List Value} (h:w.ownsRow B e size v n xs) (hB:Below w.heap.size w w'):w'.ownsRow B e size v n xs:=ownsRow_agree h fun g cur _ hh=>hB.block g (Array.getElem?_eq_some_iff.1 hh).1
theorem rflist (B gp:Nat) (X:Option Addr) (t:Bs) (c k:Nat) (od:Bool) (w:World) (hS:RS B w gp X t c k od) :
    Calls Try.prog 90 #[.pointer (some ⟨gp,0,none⟩)] w fun e w' => LRet B gp X t c k od w e w':=by
 have hlt:=hS.lt
 obtain ⟨j0,hj0,hk0,hk1,hk2⟩:=info_parts int_info
 have HJ0:=Lib.hid (And.intro hj0 (And.intro hk0 (And.intro hk1 hk2)))
 clear hj0 hk0 hk1 hk2
 go_enter Try.func90,Try.ntmps90
 go_wp2_with fail
 refine (rfmany B gp X t c k od w hS).mono ?_
 rintro e w1 h1
 obtain ⟨k1,od1,n,rfl,hS1,hn0,hn1,hz,hM1⟩:=h1
 obtain ⟨N,rfl⟩:=Int.eq_ofNat_of_zero_le hn0
 have HN:=Lib.hid (show N≤1000 by omega)
 have HM1:=Lib.hid (And.intro hM1 hz)
 have hsz:=hM1.fr.size
 have HS1:=Lib.hid hS1
 clear hS hS1 hn0 hn1 hz hM1
 go_wp2_with fail
 go_loopw [3,4] (fun out nn wr=>∃ (j:Nat),j≤N∧nn = .int .i64 ((N - j:Nat):Int)∧Hid (LNt B gp X t c k1 od1 w1 j out wr))
  (fun out nn _=>(intOf nn).toNat)
 case atStart=>exact ⟨0,Nat.zero_le _,rfl,⟨[],none,0,[],k1,od1,rfl,HS1.out,FrR.refl _ _ _,RLt.nil _ _ _ _ _ _ _,HS1.out.blk.cell 2⟩⟩
 case round =>
  obtain ⟨j,hj,rfl,hL⟩:=hrel
  obtain ⟨l,V,cv,xs,k2,od2,rfl,hS2,hF2,hR2,hc2⟩:=hL.out
  have H2:=Lib.hid (And.intro hS2 (And.intro hF2 hR2))
  clear hS2 hF2 hR2 hL
  have fin:(od2=false→j=N)→LRet B gp X t c k od w (.returned (.slice V j cv)) wr:=fun hfin=>by
   obtain ⟨d1,d2⟩:=RLt.done (n:=(N:Int)) (k:=0) (k1:=0) (fun e=>HM1.out.1.ok e) (fun e e0=>HM1.out.1.bad e e0) H2.out.2.2 (by omega) (fun e=>by rw [hfin e];rfl)
   refine LRet.mk k2 od2 l V cv (by rw [H2.out.2.2.len]) H2.out.1 ⟨(listR numR INT).mono H2.out.2.2.at_ HM1.out.1.fr.size,HM1.out.1.fr.trans H2.out.2.1,Nat.le_trans H2.out.2.2.le HM1.out.1.le,d1,d2⟩
  have FIN:=Lib.hid fin
  clear fin
  by_cases hjN:j < N
  ·have hpos:(0:Int) < ((N - j:Nat):Int):=by omega
   rcases od2 with _ | _
   ·have hN9:((N - j:Nat):Int)≤1000:=by have:=HN.out;omega
    go_wp2_with fail
    refine (rfnum B gp X t c k2 false wr H2.out.1).mono ?_
    rintro e w3 h3
    obtain ⟨k3,od3,x,rfl,hS3,hM3⟩:=h3
    have HO3:=Lib.hid (own_up' (H2.out.2.2.keep (w2:=w3) (fun i hi hl=>hM3.fr.block i hl (by omega) (by omega)) hM3.fr.size).own (below_alloc (o:=.cells #[.int .i64 x] INT) (Below.refl _ w3)))
    have hbase:w1.heap.size≤(w3.alloc (.cells #[.int .i64 x] INT)).heap.size:=by have:=H2.out.2.1.size;have:=hM3.fr.size;simp;omega
    have H3:=Lib.hid (And.intro hS3 hM3)
    have hj9:j≤1000:=by have:=HN.out;omega
    clear hS3 hM3 hc2 FIN
    go_wp2_with (first | (at_builtin;refine wpList_append_any _ rfl (.tmp 18) (.tmp 21) _ rfl w1.heap.size INT j0 (.int .i64 0) 1 8 Try.underlying26 HJ0.out.1 HJ0.out.2.1 HJ0.out.2.2.1 HJ0.out.2.2.2 rfl (by decide) _ _ _ rfl HO3.out _ (some ⟨w3.heap.size,0,none⟩) 1 1 [.int .i64 x] rfl (reads_box w3 INT [.int .i64 x]) (fun u hu=>by simp at hu;subst hu;rfl) (by simp only [maxLen];omega) (by omega) hbase ?_;intro v5 w5 hown hg hat;obtain ⟨U5,c5,rfl⟩:=own_form2 hown;have H5:=Lib.hid (And.intro hown hg);clear hown hg hat))
    go_roundw
    case rel => 
     have hrow:∀ i,(Value.slice V j cv).ownBlock=some i→w1.heap.size≤i:=fun i hi=>(HO3.out.lt i hi).1
     have hS5:=RS.grown (H3.out.1.alloc (.cells #[.int .i64 x] INT)) H5.out.2 (fun i hi=>by have:=hrow i hi;omega)
     refine ⟨j+1,by omega,by congr 1;omega,⟨l ++ [x],U5,c5,xs ++ numL x,k3,od3,rfl,hS5,((H2.out.2.1.trans H3.out.2.fr).alloc _).grown H5.out.2 hrow,RLt.push H2.out.2.2 keepN_flat (by omega) H2.out.2.1.size H3.out.2 H5.out.1 H5.out.2,hS5.blk.cell 2⟩⟩
    case measure=>simp [intOf];omega
   ·go_wp2_with fail
    go_ret
    exact FIN.out (fun e=>by cases e)
  ·obtain rfl:j=N:=by omega
   have hz0:((j - j:Nat):Int)=0:=by omega
   go_wp2_with fail
   go_ret
   exact FIN.out (fun _=>trivial)
end Go.Proofs.Ytfdldbfjeamlcaa.RfList
