/- Several texts joined: rec.Same of any two records. -/
import Derived.BigQuiet
import Derived.Deep.QuietTactic
import Derived.Deep.RegionHeld3
import Derived.Deep.MidRow
import Derived.Deep.DeepCutAuto
import Derived.Lib.QuietBelow
import Derived.Lib.SliceRun
import Derived.Test.YtfdldbfjeamlcaaPG5
import Derived.Test.YtfdldbfjeamlcaaPG10
import Derived.Test.YtfdldbfjeamlcaaPG11
import Derived.Test.YtfdldbfjeamlcaaPG6
set_option linter.unusedVariables false
set_option linter.unusedSimpArgs false
namespace Go.Proofs.Ytfdldbfjeamlcaa.RecSameA
set_option maxRecDepth 100000
set_option maxHeartbeats 8000000
open Go.RowKit Mem RecMem RecByte RecNum RecEach RecMath RecCommand RecCmdJ RecEq RecEqA RecJobs RecJobsA RecVal RecEqual RecEqual2 RecEqJ RecCfgs RecSame
def oneB (r o:RV):Bool:=(r.g == o.g) && (configB r.s o.s && ((r.s.nw == o.s.nw) && ((r.s.nx == o.s.nx) && (decide (r.s.js=o.s.js) && (decide (r.s.ps=o.s.ps) && decide (r.s.ks=o.s.ks))))))
def twoB (r o:RV):Bool:=decide (r.s.dn=o.s.dn) && (decide (r.s.sh=o.s.sh) && decide (r.s.cu=o.s.cu))
theorem rv_eq (r o:RV):decide (r=o)=(oneB r o && (twoB r o && decide (r.c=o.c))):=by
 rw [Bool.eq_iff_iff]
 obtain ⟨_,⟨_,_,_,_,_,_,_,_,_,_,_,_,_,_,_,_⟩,_⟩:=r
 obtain ⟨_,⟨_,_,_,_,_,_,_,_,_,_,_,_,_,_,_,_⟩,_⟩:=o
 simp only [oneB,twoB,configB,dimsB,decide_eq_true_eq,Bool.and_eq_true,beq_iff_eq,RV.mk.injEq,SV.mk.injEq]
 constructor <;> intro h <;> simp_all
theorem set_sA (s:SV) (x:SA):setA Sq.zzS 0 (sL s x)=(List.toArray (sL s x)):=by
 simp only [setA,List.setIfInBounds_toArray,List.set_cons_zero,List.set_cons_succ]
theorem set_cA (c:CV) (Y:Option Addr) (cy:Nat):setA Sq.zzC 0 (cL c Y cy)=(List.toArray (cL c Y cy)):=by
 simp only [setA,List.setIfInBounds_toArray,List.set_cons_zero,List.set_cons_succ]
structure RTop (r:RV):Prop where
 C:r.s.cs.length≤9223372036854775807
 J:r.s.js.length≤9223372036854775807
 P:r.s.ps.length≤9223372036854775807
 K:r.s.ks.length≤9223372036854775807
 D:r.s.dn.length≤9223372036854775807
 S:r.s.sh.length≤9223372036854775807
 U:r.s.cu.length≤9223372036854775807
 A:∀ j ∈ r.s.js,j.q.af.length≤9223372036854775807
 F:r.c.af.length≤9223372036854775807
theorem rsameA (r o:RV) (x y:SA) (Y Z:Option Addr) (cy cz:Nat) (hs:SWf r.s) (ht:SWf o.s) (hc:CWf r.c) (hd:CWf o.c) (hl:RTop r) (hm:RTop o) (w:World) (hx:StAt w r.s x) (hy:StAt w o.s y) (hY:IntsAt w Y r.c.af) (hZ:IntsAt w Z o.c.af) :
    Calls Try.prog 18 #[.agg #[.int .i64 r.g,.int .i64 r.s.d0,.int .i64 r.s.d1,.int .i64 r.s.d2,.int .i64 r.s.bo,.int .i64 r.s.fr,.int .i64 r.s.tr,.int .i64 r.s.ag,.slice x.C r.s.cs.length x.cc,.int .i64 r.s.nw,.int .i64 r.s.nx,.slice x.J r.s.js.length x.cj,.slice x.P r.s.ps.length x.cp,.slice x.K r.s.ks.length x.ck,.slice x.D r.s.dn.length x.cd,.slice x.S r.s.sh.length x.cs,.slice x.U r.s.cu.length x.cu,.int .u8 r.c.kd,.int .i64 r.c.id,.int .i64 r.c.us,.int .i64 r.c.cl,.int .i64 r.c.a,.int .i64 r.c.b,.int .i64 r.c.c,.bool r.c.p,.bool r.c.q,.bool r.c.r,.bool r.c.tn,.int .i64 r.c.wa,.int .i64 r.c.pr,.bool r.c.he,.slice Y r.c.af.length cy,.int .u8 r.c.st,.int .i64 r.c.ca,.int .i64 r.c.ci,.int .i64 r.c.b0,.int .i64 r.c.b1,.int .i64 r.c.b2,.int .i64 r.c.b3,.int .i64 r.c.b4,.int .i64 r.c.b5,.int .i64 r.c.fr,.int .i64 r.c.to,.int .i64 r.c.n,.bool r.c.we],.agg #[.int .i64 o.g,.int .i64 o.s.d0,.int .i64 o.s.d1,.int .i64 o.s.d2,.int .i64 o.s.bo,.int .i64 o.s.fr,.int .i64 o.s.tr,.int .i64 o.s.ag,.slice y.C o.s.cs.length y.cc,.int .i64 o.s.nw,.int .i64 o.s.nx,.slice y.J o.s.js.length y.cj,.slice y.P o.s.ps.length y.cp,.slice y.K o.s.ks.length y.ck,.slice y.D o.s.dn.length y.cd,.slice y.S o.s.sh.length y.cs,.slice y.U o.s.cu.length y.cu,.int .u8 o.c.kd,.int .i64 o.c.id,.int .i64 o.c.us,.int .i64 o.c.cl,.int .i64 o.c.a,.int .i64 o.c.b,.int .i64 o.c.c,.bool o.c.p,.bool o.c.q,.bool o.c.r,.bool o.c.tn,.int .i64 o.c.wa,.int .i64 o.c.pr,.bool o.c.he,.slice Z o.c.af.length cz,.int .u8 o.c.st,.int .i64 o.c.ca,.int .i64 o.c.ci,.int .i64 o.c.b0,.int .i64 o.c.b1,.int .i64 o.c.b2,.int .i64 o.c.b3,.int .i64 o.c.b4,.int .i64 o.c.b5,.int .i64 o.c.fr,.int .i64 o.c.to,.int .i64 o.c.n,.bool o.c.we]] w fun e w' => e = .returned (.bool (decide (r=o)))∧Below w.heap.size w w':=by
 have HYZ:=Lib.hid (And.intro hY hZ)
 have HI0:=Lib.hid (And.intro hx hy)
 have HW:=Lib.hid (And.intro hs (And.intro ht (And.intro hc hd)))
 have HT:=Lib.hid (And.intro hl hm)
 clear hY hZ hx hy hs ht hc hd hl hm
 go_enter Try.func18,Try.ntmps18
 go_upto_region 1 with fail
 have KA:=Lib.hid ((Blk.new w 51 (rL r x Y cy).toArray).alloc (.cells (rL o y Z cz).toArray 51))
 have KB:=Lib.hid (blk1 w 51 (rL o y Z cz).toArray (o:=.cells (rL r x Y cy).toArray 51))
 have HB:=Lib.hid (below_alloc (o:=.cells (rL o y Z cz).toArray 51) (below_alloc (o:=.cells (rL r x Y cy).toArray 51) (Below.refl w.heap.size w)))
 generalize (w.alloc (.cells (rL r x Y cy).toArray 51)).alloc (.cells (rL o y Z cz).toArray 51)=WB at *
 have HRA:=Lib.hid (show WB.rangeAt w.heap.size 1 (sL r.s x) from range_part (n:=16) KA.out rfl)
 have HRB:=Lib.hid (show WB.rangeAt (w.heap.size+1) 1 (sL o.s y) from range_part (n:=16) KB.out rfl)
 go_cut [5,6] from 11 to 14 (fun s5 s6 wx=>∃ g5 g6:Nat,s5 = .pointer (some ⟨g5,0,none⟩)∧s6 = .pointer (some ⟨g6,0,none⟩)∧Blk wx g5 49 (List.toArray (sL r.s x))∧Blk wx g6 49 (List.toArray (sL o.s y))∧Below WB.heap.size WB wx)
 case first =>
  refine wp_region_noPanic ?_
  refine wp_region_held_drew (S:=(fun W=>Below WB.heap.size WB W)) (by kernel_rfl) ?_ (fun hHeld=>?_)
  ·exact (Below.refl _ _).drew
  refine' wpAnyH_take (i:=0) (v:=?v9) rfl (by kernel_rfl) (by kernel_rfl) (by kernel_rfl) (fun _ _ _ h=>h) (Or.inl ⟨by rfl,?y9⟩) (by assumption) ?r9
  case y9=>(intro W hSw;(try dsimp only at hSw);go_simp;try with_reducible rfl)
  (try simp only [Act.put,List.setIfInBounds_toArray,List.set_cons_zero,List.set_cons_succ])
  refine' wpAnyH_take (i:=1) (v:=_) rfl (by kernel_rfl) (by kernel_rfl) (by kernel_rfl) (fun _ _ _ h=>h) (yieldsIf_load_mid (by rfl) _ _ rfl _ _ rfl (sL r.s x) _ (fun W hW=>range_up HRA.out hW) Try.underlying49 rfl (by kernel_rfl)) (by assumption) ?r10
  (try simp only [Act.put,List.setIfInBounds_toArray,List.set_cons_zero,List.set_cons_succ])
  refine' wpAnyH_take (i:=2) (v:=?v11) rfl (by kernel_rfl) (by kernel_rfl) (by kernel_rfl) (fun _ _ _ h=>h) (Or.inl ⟨by rfl,?y11⟩) (by assumption) ?r11
  case y11=>(intro W hSw;(try dsimp only at hSw);go_simp;try with_reducible rfl)
  (try simp only [Act.put,List.setIfInBounds_toArray,List.set_cons_zero,List.set_cons_succ])
  refine' wpAnyH_take (i:=3) (v:=_) rfl (by kernel_rfl) (by kernel_rfl) (by kernel_rfl) (fun _ _ _ h=>h) (yieldsIf_load_mid (by rfl) _ _ rfl _ _ rfl (sL o.s y) _ (fun W hW=>range_up HRB.out hW) Try.underlying49 rfl (by kernel_rfl)) (by assumption) ?r12
  (try simp only [Act.put,List.setIfInBounds_toArray,List.set_cons_zero,List.set_cons_succ])
  refine wpAnyH_ready (rs:=[4,5]) (by kernel_rfl) (by simp) ?_
  refine AllReadyH.cons (i:=4) rfl (fun K hK=>?_) ?_
  ·go_simp
   refine hK.out _ _ ?_ (fun hHeld=>?_)
   ·exact (Below.drew (below_alloc2 (by simp) ((Below.refl WB.heap.size WB)) (.cells Sq.zzS 49)))
   clear hK K
   (try simp only [Act.put,List.setIfInBounds_toArray,List.set_cons_zero,List.set_cons_succ])
   refine wpAnyH_ready (rs:=[5]) (by kernel_rfl) (by simp) ?_
   refine AllReadyH.cons (i:=5) rfl (fun K hK=>?_) ?_
   ·go_simp
    refine hK.out _ _ ?_ (fun hHeld=>?_)
    ·exact (Below.drew (below_alloc2 (by simp) ((below_alloc2 (by simp) ((Below.refl WB.heap.size WB)) (.cells Sq.zzS 49))) (.cells Sq.zzS 49)))
    clear hK K
    (try simp only [Act.put,List.setIfInBounds_toArray,List.set_cons_zero,List.set_cons_succ])
    refine wpAnyH_ready (rs:=[6]) (by kernel_rfl) (by simp) ?_
    refine AllReadyH.cons (i:=6) rfl (fun K hK=>?_) ?_
    ·rw [if_pos (by rfl)]
     simp only [List.getElem_toArray,List.getElem_cons_zero,List.getElem_cons_succ]
     refine wp_store_mid _ _ _ rfl (WB.heap.size) 0 (List.toArray (sL r.s x)) rfl rfl (there_of (Blk.drew (Blk.alloc (Blk.new WB 49 Sq.zzS) (.cells Sq.zzS 49))) (Nat.le_of_ble_eq_true rfl)) (by kernel_rfl) (by kernel_rfl) ?_
     simp only [Act.put,List.getElem_toArray,List.getElem_cons_zero,List.getElem_cons_succ,List.setIfInBounds_toArray,List.set_cons_zero,List.set_cons_succ,List.toList_toArray]
     have j5:Blk (World.setCells (World.drew (World.alloc (World.alloc WB (.cells Sq.zzS 49)) (.cells Sq.zzS 49))) (WB.heap.size) 0 (sL r.s x)) (WB.heap.size) 49 (List.toArray (sL r.s x)):=blk_all (Blk.drew (Blk.alloc (Blk.new WB 49 Sq.zzS) (.cells Sq.zzS 49))) (set_sA r.s x)
     have j6:Blk (World.setCells (World.drew (World.alloc (World.alloc WB (.cells Sq.zzS 49)) (.cells Sq.zzS 49))) (WB.heap.size) 0 (sL r.s x)) (WB.heap.size+1) 49 Sq.zzS:=blk_sets_far (by simp) (Blk.drew (blk_new_of (W:=(World.alloc WB (.cells Sq.zzS 49))) (by simp) 49 Sq.zzS))
     have jB:Below WB.heap.size WB (World.setCells (World.drew (World.alloc (World.alloc WB (.cells Sq.zzS 49)) (.cells Sq.zzS 49))) (WB.heap.size) 0 (sL r.s x)):=below_sets (by simp) (Below.drew (below_alloc2 (by simp) ((below_alloc2 (by simp) ((Below.refl WB.heap.size WB)) (.cells Sq.zzS 49))) (.cells Sq.zzS 49)))
     generalize World.setCells _ _ _ _=w6 at *
     refine hK.out _ _ ?_ (fun hHeld=>?_)
     ·exact jB
     clear hK K
     (try simp only [Act.put,List.setIfInBounds_toArray,List.set_cons_zero,List.set_cons_succ])
     refine wpAnyH_ready (rs:=[7]) (by kernel_rfl) (by simp) ?_
     refine AllReadyH.cons (i:=7) rfl (fun K hK=>?_) ?_
     ·rw [if_pos (by rfl)]
      simp only [List.getElem_toArray,List.getElem_cons_zero,List.getElem_cons_succ]
      refine wp_store_mid _ _ _ rfl (WB.heap.size+1) 0 (List.toArray (sL o.s y)) rfl rfl (there_of j6 (Nat.le_of_ble_eq_true rfl)) (by kernel_rfl) (by kernel_rfl) ?_
      simp only [Act.put,List.getElem_toArray,List.getElem_cons_zero,List.getElem_cons_succ,List.setIfInBounds_toArray,List.set_cons_zero,List.set_cons_succ,List.toList_toArray]
      refine hK.out _ _ ?_ (fun hHeld=>?_)
      ·exact (below_sets (by have:=jB.size;omega) (jB))
      clear hK K
      (try simp only [Act.put,List.setIfInBounds_toArray,List.set_cons_zero,List.set_cons_succ])
      refine wpAnyH_done (by kernel_rfl) ?_ _
      refine NoPanic.normal ?_
      go_wp2_with fail
      go_meet
      exact ⟨_,_,rfl,rfl,(blk_sets_far (by have:=Blk.lt j5;omega) j5),(blk_all j6 (set_sA o.s y)),(below_sets (by have:=jB.size;omega) (jB))⟩
     exact AllReadyH.nil
    exact AllReadyH.nil
   exact AllReadyH.nil
  refine AllReadyH.cons (i:=5) rfl (fun K hK=>?_) ?_
  ·go_simp
   refine hK.out _ _ ?_ (fun hHeld=>?_)
   ·exact (Below.drew (below_alloc2 (by simp) ((Below.refl WB.heap.size WB)) (.cells Sq.zzS 49)))
   clear hK K
   (try simp only [Act.put,List.setIfInBounds_toArray,List.set_cons_zero,List.set_cons_succ])
   refine wpAnyH_ready (rs:=[4]) (by kernel_rfl) (by simp) ?_
   refine AllReadyH.cons (i:=4) rfl (fun K hK=>?_) ?_
   ·go_simp
    refine hK.out _ _ ?_ (fun hHeld=>?_)
    ·exact (Below.drew (below_alloc2 (by simp) ((below_alloc2 (by simp) ((Below.refl WB.heap.size WB)) (.cells Sq.zzS 49))) (.cells Sq.zzS 49)))
    clear hK K
    (try simp only [Act.put,List.setIfInBounds_toArray,List.set_cons_zero,List.set_cons_succ])
    refine wpAnyH_ready (rs:=[6]) (by kernel_rfl) (by simp) ?_
    refine AllReadyH.cons (i:=6) rfl (fun K hK=>?_) ?_
    ·rw [if_pos (by rfl)]
     simp only [List.getElem_toArray,List.getElem_cons_zero,List.getElem_cons_succ]
     refine wp_store_mid _ _ _ rfl (WB.heap.size+1) 0 (List.toArray (sL r.s x)) rfl rfl (there_of (Blk.drew (blk_new_of (W:=(World.alloc WB (.cells Sq.zzS 49))) (by simp) 49 Sq.zzS)) (Nat.le_of_ble_eq_true rfl)) (by kernel_rfl) (by kernel_rfl) ?_
     simp only [Act.put,List.getElem_toArray,List.getElem_cons_zero,List.getElem_cons_succ,List.setIfInBounds_toArray,List.set_cons_zero,List.set_cons_succ,List.toList_toArray]
     have j5:Blk (World.setCells (World.drew (World.alloc (World.alloc WB (.cells Sq.zzS 49)) (.cells Sq.zzS 49))) (WB.heap.size+1) 0 (sL r.s x)) (WB.heap.size+1) 49 (List.toArray (sL r.s x)):=blk_all (Blk.drew (blk_new_of (W:=(World.alloc WB (.cells Sq.zzS 49))) (by simp) 49 Sq.zzS)) (set_sA r.s x)
     have j6:Blk (World.setCells (World.drew (World.alloc (World.alloc WB (.cells Sq.zzS 49)) (.cells Sq.zzS 49))) (WB.heap.size+1) 0 (sL r.s x)) (WB.heap.size) 49 Sq.zzS:=blk_sets_far (by simp) (Blk.drew (Blk.alloc (Blk.new WB 49 Sq.zzS) (.cells Sq.zzS 49)))
     have jB:Below WB.heap.size WB (World.setCells (World.drew (World.alloc (World.alloc WB (.cells Sq.zzS 49)) (.cells Sq.zzS 49))) (WB.heap.size+1) 0 (sL r.s x)):=below_sets (by simp) (Below.drew (below_alloc2 (by simp) ((below_alloc2 (by simp) ((Below.refl WB.heap.size WB)) (.cells Sq.zzS 49))) (.cells Sq.zzS 49)))
     generalize World.setCells _ _ _ _=w6 at *
     refine hK.out _ _ ?_ (fun hHeld=>?_)
     ·exact jB
     clear hK K
     (try simp only [Act.put,List.setIfInBounds_toArray,List.set_cons_zero,List.set_cons_succ])
     refine wpAnyH_ready (rs:=[7]) (by kernel_rfl) (by simp) ?_
     refine AllReadyH.cons (i:=7) rfl (fun K hK=>?_) ?_
     ·rw [if_pos (by rfl)]
      simp only [List.getElem_toArray,List.getElem_cons_zero,List.getElem_cons_succ]
      refine wp_store_mid _ _ _ rfl (WB.heap.size) 0 (List.toArray (sL o.s y)) rfl rfl (there_of j6 (Nat.le_of_ble_eq_true rfl)) (by kernel_rfl) (by kernel_rfl) ?_
      simp only [Act.put,List.getElem_toArray,List.getElem_cons_zero,List.getElem_cons_succ,List.setIfInBounds_toArray,List.set_cons_zero,List.set_cons_succ,List.toList_toArray]
      refine hK.out _ _ ?_ (fun hHeld=>?_)
      ·exact (below_sets (by have:=jB.size;omega) (jB))
      clear hK K
      (try simp only [Act.put,List.setIfInBounds_toArray,List.set_cons_zero,List.set_cons_succ])
      refine wpAnyH_done (by kernel_rfl) ?_ _
      refine NoPanic.normal ?_
      go_wp2_with fail
      go_meet
      exact ⟨_,_,rfl,rfl,(blk_sets_far (by have:=Blk.lt j5;omega) j5),(blk_all j6 (set_sA o.s y)),(below_sets (by have:=jB.size;omega) (jB))⟩
     exact AllReadyH.nil
    exact AllReadyH.nil
   exact AllReadyH.nil
  exact AllReadyH.nil
 case rest =>
  obtain ⟨g5,g6,rfl,rfl,k5,k6,hB5⟩:=hcut
  obtain ⟨W1,hW1⟩:∃ W,W=wc:=⟨wc,rfl⟩
  subst hW1
  have K59:=Lib.hid k5
  have K69:=Lib.hid k6
  have HB9:=Lib.hid (Below.refl W1.heap.size W1)
  have HT1:=Lib.hid (below_up HB.out hB5)
  have HI:=Lib.hid (And.intro (HI0.out.1.up HT1.out) (HI0.out.2.up HT1.out))
  have KA2:=Lib.hid (KA.out.below hB5 KA.out.lt)
  have KB2:=Lib.hid (KB.out.below hB5 KB.out.lt)
  have a0:W1.cell? ⟨w.heap.size,0,none⟩=some (.int .i64 r.g):=KA2.out.cell 0
  have b0:W1.cell? ⟨w.heap.size+1,0,none⟩=some (.int .i64 o.g):=KB2.out.cell 0
  clear k5 k6 hB5 HRA HRB HI0 KA KB HB
  go_upto_region 2 with fail
  go_cut [7] from 15 to 61 (fun s7 wx=>s7 = .bool (oneB r o)∧Below W1.heap.size W1 wx)
  case first =>
   cases e0:(r.g == o.g)
   ·go_wp2_with fail
    go_meet
    exact ⟨by rw [show oneB r o=false from by simp only [oneB,e0,Bool.true_and,Bool.false_and]],HB9.out⟩
   ·have p0:W1.cell? ⟨g5,0,none⟩=some (.int .i64 r.s.d0):=K59.out.cell 0
    have p1:W1.cell? ⟨g5,1,none⟩=some (.int .i64 r.s.d1):=K59.out.cell 1
    have p2:W1.cell? ⟨g5,2,none⟩=some (.int .i64 r.s.d2):=K59.out.cell 2
    have p3:W1.cell? ⟨g5,3,none⟩=some (.int .i64 r.s.bo):=K59.out.cell 3
    have p4:W1.cell? ⟨g5,4,none⟩=some (.int .i64 r.s.fr):=K59.out.cell 4
    have p5:W1.cell? ⟨g5,5,none⟩=some (.int .i64 r.s.tr):=K59.out.cell 5
    have p6:W1.cell? ⟨g5,6,none⟩=some (.int .i64 r.s.ag):=K59.out.cell 6
    have p7:W1.cell? ⟨g5,7,none⟩=some (.slice x.C r.s.cs.length x.cc):=K59.out.cell 7
    have q0:W1.cell? ⟨g6,0,none⟩=some (.int .i64 o.s.d0):=K69.out.cell 0
    have q1:W1.cell? ⟨g6,1,none⟩=some (.int .i64 o.s.d1):=K69.out.cell 1
    have q2:W1.cell? ⟨g6,2,none⟩=some (.int .i64 o.s.d2):=K69.out.cell 2
    have q3:W1.cell? ⟨g6,3,none⟩=some (.int .i64 o.s.bo):=K69.out.cell 3
    have q4:W1.cell? ⟨g6,4,none⟩=some (.int .i64 o.s.fr):=K69.out.cell 4
    have q5:W1.cell? ⟨g6,5,none⟩=some (.int .i64 o.s.tr):=K69.out.cell 5
    have q6:W1.cell? ⟨g6,6,none⟩=some (.int .i64 o.s.ag):=K69.out.cell 6
    have q7:W1.cell? ⟨g6,7,none⟩=some (.slice y.C o.s.cs.length y.cc):=K69.out.cell 7
    go_wp2_with fail
    refine (rconfigs r.s o.s x.C y.C x.cc y.cc HW.out.1 HW.out.2.1 HT.out.1.C HT.out.2.C _ (HI.out.1.C.up kStays HB9.out) (HI.out.2.C.up kStays HB9.out)).mono ?_
    rintro e w1 ⟨rfl,hB⟩
    have HB1:=Lib.hid (below_up HB9.out hB)
    have K51:=Lib.hid (K59.out.below hB K59.out.lt)
    have K61:=Lib.hid (K69.out.below hB K69.out.lt)
    clear hB p0 q0 p1 q1 p2 q2 p3 q3 p4 q4 p5 q5 p6 q6 p7 q7
    cases e1:configB r.s o.s
    ·go_wp2_with fail
     go_meet
     exact ⟨by rw [show oneB r o=false from by simp only [oneB,e0,e1,Bool.true_and,Bool.false_and]],HB1.out⟩
    ·have p8:w1.cell? ⟨g5,8,none⟩=some (.int .i64 r.s.nw):=K51.out.cell 8
     have q8:w1.cell? ⟨g6,8,none⟩=some (.int .i64 o.s.nw):=K61.out.cell 8
     cases e2:(r.s.nw == o.s.nw)
     ·go_wp2_with fail
      go_meet
      exact ⟨by rw [show oneB r o=false from by simp only [oneB,e0,e1,e2,Bool.true_and,Bool.false_and]],HB1.out⟩
     ·have p9:w1.cell? ⟨g5,9,none⟩=some (.int .i64 r.s.nx):=K51.out.cell 9
      have q9:w1.cell? ⟨g6,9,none⟩=some (.int .i64 o.s.nx):=K61.out.cell 9
      cases e3:(r.s.nx == o.s.nx)
      ·go_wp2_with fail
       go_meet
       exact ⟨by rw [show oneB r o=false from by simp only [oneB,e0,e1,e2,e3,Bool.true_and,Bool.false_and]],HB1.out⟩
      ·have p10:w1.cell? ⟨g5,10,none⟩=some (.slice x.J r.s.js.length x.cj):=K51.out.cell 10
       have q10:w1.cell? ⟨g6,10,none⟩=some (.slice y.J o.s.js.length y.cj):=K61.out.cell 10
       go_wp2_with fail
       refine (equalJ x.J y.J x.cj y.cj r.s.js o.s.js HT.out.1.J HT.out.2.J (fun j hj=>⟨HW.out.1.2.2.1 j hj,HT.out.1.A j hj⟩) (fun j hj=>⟨HW.out.2.1.2.2.1 j hj,HT.out.2.A j hj⟩) _ (HI.out.1.J.up jStays HB1.out) (HI.out.2.J.up jStays HB1.out)).mono ?_
       rintro e w2 ⟨rfl,hB⟩
       have HB2:=Lib.hid (below_up HB1.out hB)
       have K52:=Lib.hid (K51.out.below hB K51.out.lt)
       have K62:=Lib.hid (K61.out.below hB K61.out.lt)
       clear hB p10 q10
       cases e4:decide (r.s.js=o.s.js)
       ·go_wp2_with fail
        go_meet
        exact ⟨by rw [show oneB r o=false from by simp only [oneB,e0,e1,e2,e3,e4,Bool.true_and,Bool.false_and]],HB2.out⟩
       ·have p11:w2.cell? ⟨g5,11,none⟩=some (.slice x.P r.s.ps.length x.cp):=K52.out.cell 11
        have q11:w2.cell? ⟨g6,11,none⟩=some (.slice y.P o.s.ps.length y.cp):=K62.out.cell 11
        go_wp2_with fail
        refine (equalP x.P y.P x.cp y.cp r.s.ps o.s.ps HT.out.1.P HT.out.2.P HW.out.1.2.2.2.1 HW.out.2.1.2.2.2.1 _ (HI.out.1.P.up pStays HB2.out) (HI.out.2.P.up pStays HB2.out)).mono ?_
        rintro e w3 ⟨rfl,hB⟩
        have HB3:=Lib.hid (below_up HB2.out hB)
        have K53:=Lib.hid (K52.out.below hB K52.out.lt)
        have K63:=Lib.hid (K62.out.below hB K62.out.lt)
        clear hB p11 q11
        cases e5:decide (r.s.ps=o.s.ps)
        ·go_wp2_with fail
         go_meet
         exact ⟨by rw [show oneB r o=false from by simp only [oneB,e0,e1,e2,e3,e4,e5,Bool.true_and,Bool.false_and]],HB3.out⟩
        ·have p12:w3.cell? ⟨g5,12,none⟩=some (.slice x.K r.s.ks.length x.ck):=K53.out.cell 12
         have q12:w3.cell? ⟨g6,12,none⟩=some (.slice y.K o.s.ks.length y.ck):=K63.out.cell 12
         go_wp2_with fail
         refine (equalE x.K y.K x.ck y.ck r.s.ks o.s.ks HT.out.1.K HT.out.2.K HW.out.1.2.2.2.2.1 HW.out.2.1.2.2.2.2.1 _ (HI.out.1.K.up eStays HB3.out) (HI.out.2.K.up eStays HB3.out)).mono ?_
         rintro e w4 ⟨rfl,hB⟩
         have HB4:=Lib.hid (below_up HB3.out hB)
         have K54:=Lib.hid (K53.out.below hB K53.out.lt)
         have K64:=Lib.hid (K63.out.below hB K63.out.lt)
         clear hB p12 q12
         go_wp2_with fail
         go_meet
         exact ⟨by rw [show oneB r o=decide (r.s.ks=o.s.ks) from by simp only [oneB,e0,e1,e2,e3,e4,e5,Bool.true_and,Bool.false_and]],HB4.out⟩
  case rest =>
   obtain ⟨rfl,hBo⟩:=hcut
   obtain ⟨W2,hW2⟩:∃ W,W=wc:=⟨wc,rfl⟩
   subst hW2
   have K58:=Lib.hid (K59.out.below hBo K59.out.lt)
   have K68:=Lib.hid (K69.out.below hBo K69.out.lt)
   have HT2:=Lib.hid (below_up HT1.out hBo)
   have HI2:=Lib.hid (And.intro (HI.out.1.up hBo) (HI.out.2.up hBo))
   have KA3:=Lib.hid (KA2.out.below hBo KA2.out.lt)
   have KB3:=Lib.hid (KB2.out.below hBo KB2.out.lt)
   have HB8:=Lib.hid (Below.refl W2.heap.size W2)
   clear hBo HI a0 b0 K59 K69 KA2 KB2 HB9 HT1
   have HI:=Lib.hid HI2.out
   clear HI2
   go_upto_region 3 with fail
   go_cut [8] from 62 to 80 (fun s8 wx=>s8 = .bool (twoB r o)∧Below W2.heap.size W2 wx)
   case first =>
    have p13:W2.cell? ⟨g5,13,none⟩=some (.slice x.D r.s.dn.length x.cd):=K58.out.cell 13
    have q13:W2.cell? ⟨g6,13,none⟩=some (.slice y.D o.s.dn.length y.cd):=K68.out.cell 13
    go_wp2_with fail
    refine (iequalA x.D y.D x.cd y.cd r.s.dn o.s.dn HT.out.1.D HT.out.2.D _ (HI.out.1.D.up HB8.out) (HI.out.2.D.up HB8.out)).mono ?_
    rintro e w1 ⟨rfl,hB⟩
    have HB1:=Lib.hid (below_up HB8.out hB)
    have K51:=Lib.hid (K58.out.below hB K58.out.lt)
    have K61:=Lib.hid (K68.out.below hB K68.out.lt)
    clear hB p13 q13
    cases e0:decide (r.s.dn=o.s.dn)
    ·go_wp2_with fail
     go_meet
     exact ⟨by rw [show twoB r o=false from by simp only [twoB,e0,Bool.true_and,Bool.false_and]],HB1.out⟩
    ·have p14:w1.cell? ⟨g5,14,none⟩=some (.slice x.S r.s.sh.length x.cs):=K51.out.cell 14
     have q14:w1.cell? ⟨g6,14,none⟩=some (.slice y.S o.s.sh.length y.cs):=K61.out.cell 14
     go_wp2_with fail
     refine (iequalA x.S y.S x.cs y.cs r.s.sh o.s.sh HT.out.1.S HT.out.2.S _ (HI.out.1.S.up HB1.out) (HI.out.2.S.up HB1.out)).mono ?_
     rintro e w2 ⟨rfl,hB⟩
     have HB2:=Lib.hid (below_up HB1.out hB)
     have K52:=Lib.hid (K51.out.below hB K51.out.lt)
     have K62:=Lib.hid (K61.out.below hB K61.out.lt)
     clear hB p14 q14
     cases e1:decide (r.s.sh=o.s.sh)
     ·go_wp2_with fail
      go_meet
      exact ⟨by rw [show twoB r o=false from by simp only [twoB,e0,e1,Bool.true_and,Bool.false_and]],HB2.out⟩
     ·have p15:w2.cell? ⟨g5,15,none⟩=some (.slice x.U r.s.cu.length x.cu):=K52.out.cell 15
      have q15:w2.cell? ⟨g6,15,none⟩=some (.slice y.U o.s.cu.length y.cu):=K62.out.cell 15
      go_wp2_with fail
      refine (iequalA x.U y.U x.cu y.cu r.s.cu o.s.cu HT.out.1.U HT.out.2.U _ (HI.out.1.U.up HB2.out) (HI.out.2.U.up HB2.out)).mono ?_
      rintro e w3 ⟨rfl,hB⟩
      have HB3:=Lib.hid (below_up HB2.out hB)
      have K53:=Lib.hid (K52.out.below hB K52.out.lt)
      have K63:=Lib.hid (K62.out.below hB K62.out.lt)
      clear hB p15 q15
      go_wp2_with fail
      go_meet
      exact ⟨by rw [show twoB r o=decide (r.s.cu=o.s.cu) from by simp only [twoB,e0,e1,Bool.true_and,Bool.false_and]],HB3.out⟩
   case rest =>
    obtain ⟨rfl,hBt⟩:=hcut
    obtain ⟨W3,hW3⟩:∃ W,W=wc:=⟨wc,rfl⟩
    subst hW3
    have HBt:=Lib.hid (below_up HT2.out hBt)
    have KA4:=Lib.hid (KA3.out.below hBt KA3.out.lt)
    have KB4:=Lib.hid (KB3.out.below hBt KB3.out.lt)
    clear hBt HI K58 K68 KA3 KB3 HB8 HT2
    have HRA:=Lib.hid (show W3.rangeAt w.heap.size 17 (cL r.c Y cy) from range_part (n:=28) KA4.out rfl)
    have HRB:=Lib.hid (show W3.rangeAt (w.heap.size+1) 17 (cL o.c Z cz) from range_part (n:=28) KB4.out rfl)
    clear KA4 KB4
    go_upto_region 4 with fail
    go_cut [9,10] from 81 to 84 (fun s5 s6 wx=>∃ g5 g6:Nat,s5 = .pointer (some ⟨g5,0,none⟩)∧s6 = .pointer (some ⟨g6,0,none⟩)∧Blk wx g5 34 (List.toArray (cL r.c Y cy))∧Blk wx g6 34 (List.toArray (cL o.c Z cz))∧Below W3.heap.size W3 wx)
    case first =>
     refine wp_region_noPanic ?_
     refine wp_region_held_drew (S:=(fun W=>Below W3.heap.size W3 W)) (by kernel_rfl) ?_ (fun hHeld=>?_)
     ·exact (Below.refl _ _).drew
     refine' wpAnyH_take (i:=0) (v:=?v13) rfl (by kernel_rfl) (by kernel_rfl) (by kernel_rfl) (fun _ _ _ h=>h) (Or.inl ⟨by rfl,?y13⟩) (by assumption) ?r13
     case y13=>(intro W hSw;(try dsimp only at hSw);go_simp;try with_reducible rfl)
     (try simp only [Act.put,List.setIfInBounds_toArray,List.set_cons_zero,List.set_cons_succ])
     refine' wpAnyH_take (i:=1) (v:=_) rfl (by kernel_rfl) (by kernel_rfl) (by kernel_rfl) (fun _ _ _ h=>h) (yieldsIf_load_mid (by rfl) _ _ rfl _ _ rfl (cL r.c Y cy) _ (fun W hW=>range_up HRA.out hW) Try.underlying34 rfl (by kernel_rfl)) (by assumption) ?r14
     (try simp only [Act.put,List.setIfInBounds_toArray,List.set_cons_zero,List.set_cons_succ])
     refine' wpAnyH_take (i:=2) (v:=?v15) rfl (by kernel_rfl) (by kernel_rfl) (by kernel_rfl) (fun _ _ _ h=>h) (Or.inl ⟨by rfl,?y15⟩) (by assumption) ?r15
     case y15=>(intro W hSw;(try dsimp only at hSw);go_simp;try with_reducible rfl)
     (try simp only [Act.put,List.setIfInBounds_toArray,List.set_cons_zero,List.set_cons_succ])
     refine' wpAnyH_take (i:=3) (v:=_) rfl (by kernel_rfl) (by kernel_rfl) (by kernel_rfl) (fun _ _ _ h=>h) (yieldsIf_load_mid (by rfl) _ _ rfl _ _ rfl (cL o.c Z cz) _ (fun W hW=>range_up HRB.out hW) Try.underlying34 rfl (by kernel_rfl)) (by assumption) ?r16
     (try simp only [Act.put,List.setIfInBounds_toArray,List.set_cons_zero,List.set_cons_succ])
     refine wpAnyH_ready (rs:=[4,5]) (by kernel_rfl) (by simp) ?_
     refine AllReadyH.cons (i:=4) rfl (fun K hK=>?_) ?_
     ·go_simp
      refine hK.out _ _ ?_ (fun hHeld=>?_)
      ·exact (Below.drew (below_alloc2 (by simp) ((Below.refl W3.heap.size W3)) (.cells Sq.zzC 34)))
      clear hK K
      (try simp only [Act.put,List.setIfInBounds_toArray,List.set_cons_zero,List.set_cons_succ])
      refine wpAnyH_ready (rs:=[5]) (by kernel_rfl) (by simp) ?_
      refine AllReadyH.cons (i:=5) rfl (fun K hK=>?_) ?_
      ·go_simp
       refine hK.out _ _ ?_ (fun hHeld=>?_)
       ·exact (Below.drew (below_alloc2 (by simp) ((below_alloc2 (by simp) ((Below.refl W3.heap.size W3)) (.cells Sq.zzC 34))) (.cells Sq.zzC 34)))
       clear hK K
       (try simp only [Act.put,List.setIfInBounds_toArray,List.set_cons_zero,List.set_cons_succ])
       refine wpAnyH_ready (rs:=[6]) (by kernel_rfl) (by simp) ?_
       refine AllReadyH.cons (i:=6) rfl (fun K hK=>?_) ?_
       ·rw [if_pos (by rfl)]
        simp only [List.getElem_toArray,List.getElem_cons_zero,List.getElem_cons_succ]
        refine wp_store_mid _ _ _ rfl (W3.heap.size) 0 (List.toArray (cL r.c Y cy)) rfl rfl (there_of (Blk.drew (Blk.alloc (Blk.new W3 34 Sq.zzC) (.cells Sq.zzC 34))) (Nat.le_of_ble_eq_true rfl)) (by kernel_rfl) (by kernel_rfl) ?_
        simp only [Act.put,List.getElem_toArray,List.getElem_cons_zero,List.getElem_cons_succ,List.setIfInBounds_toArray,List.set_cons_zero,List.set_cons_succ,List.toList_toArray]
        have j5:Blk (World.setCells (World.drew (World.alloc (World.alloc W3 (.cells Sq.zzC 34)) (.cells Sq.zzC 34))) (W3.heap.size) 0 (cL r.c Y cy)) (W3.heap.size) 34 (List.toArray (cL r.c Y cy)):=blk_all (Blk.drew (Blk.alloc (Blk.new W3 34 Sq.zzC) (.cells Sq.zzC 34))) (set_cA r.c Y cy)
        have j6:Blk (World.setCells (World.drew (World.alloc (World.alloc W3 (.cells Sq.zzC 34)) (.cells Sq.zzC 34))) (W3.heap.size) 0 (cL r.c Y cy)) (W3.heap.size+1) 34 Sq.zzC:=blk_sets_far (by simp) (Blk.drew (blk_new_of (W:=(World.alloc W3 (.cells Sq.zzC 34))) (by simp) 34 Sq.zzC))
        have jB:Below W3.heap.size W3 (World.setCells (World.drew (World.alloc (World.alloc W3 (.cells Sq.zzC 34)) (.cells Sq.zzC 34))) (W3.heap.size) 0 (cL r.c Y cy)):=below_sets (by simp) (Below.drew (below_alloc2 (by simp) ((below_alloc2 (by simp) ((Below.refl W3.heap.size W3)) (.cells Sq.zzC 34))) (.cells Sq.zzC 34)))
        generalize World.setCells _ _ _ _=w6 at *
        refine hK.out _ _ ?_ (fun hHeld=>?_)
        ·exact jB
        clear hK K
        (try simp only [Act.put,List.setIfInBounds_toArray,List.set_cons_zero,List.set_cons_succ])
        refine wpAnyH_ready (rs:=[7]) (by kernel_rfl) (by simp) ?_
        refine AllReadyH.cons (i:=7) rfl (fun K hK=>?_) ?_
        ·rw [if_pos (by rfl)]
         simp only [List.getElem_toArray,List.getElem_cons_zero,List.getElem_cons_succ]
         refine wp_store_mid _ _ _ rfl (W3.heap.size+1) 0 (List.toArray (cL o.c Z cz)) rfl rfl (there_of j6 (Nat.le_of_ble_eq_true rfl)) (by kernel_rfl) (by kernel_rfl) ?_
         simp only [Act.put,List.getElem_toArray,List.getElem_cons_zero,List.getElem_cons_succ,List.setIfInBounds_toArray,List.set_cons_zero,List.set_cons_succ,List.toList_toArray]
         refine hK.out _ _ ?_ (fun hHeld=>?_)
         ·exact (below_sets (by have:=jB.size;omega) (jB))
         clear hK K
         (try simp only [Act.put,List.setIfInBounds_toArray,List.set_cons_zero,List.set_cons_succ])
         refine wpAnyH_done (by kernel_rfl) ?_ _
         refine NoPanic.normal ?_
         go_wp2_with fail
         go_meet
         exact ⟨_,_,rfl,rfl,(blk_sets_far (by have:=Blk.lt j5;omega) j5),(blk_all j6 (set_cA o.c Z cz)),(below_sets (by have:=jB.size;omega) (jB))⟩
        exact AllReadyH.nil
       exact AllReadyH.nil
      exact AllReadyH.nil
     refine AllReadyH.cons (i:=5) rfl (fun K hK=>?_) ?_
     ·go_simp
      refine hK.out _ _ ?_ (fun hHeld=>?_)
      ·exact (Below.drew (below_alloc2 (by simp) ((Below.refl W3.heap.size W3)) (.cells Sq.zzC 34)))
      clear hK K
      (try simp only [Act.put,List.setIfInBounds_toArray,List.set_cons_zero,List.set_cons_succ])
      refine wpAnyH_ready (rs:=[4]) (by kernel_rfl) (by simp) ?_
      refine AllReadyH.cons (i:=4) rfl (fun K hK=>?_) ?_
      ·go_simp
       refine hK.out _ _ ?_ (fun hHeld=>?_)
       ·exact (Below.drew (below_alloc2 (by simp) ((below_alloc2 (by simp) ((Below.refl W3.heap.size W3)) (.cells Sq.zzC 34))) (.cells Sq.zzC 34)))
       clear hK K
       (try simp only [Act.put,List.setIfInBounds_toArray,List.set_cons_zero,List.set_cons_succ])
       refine wpAnyH_ready (rs:=[6]) (by kernel_rfl) (by simp) ?_
       refine AllReadyH.cons (i:=6) rfl (fun K hK=>?_) ?_
       ·rw [if_pos (by rfl)]
        simp only [List.getElem_toArray,List.getElem_cons_zero,List.getElem_cons_succ]
        refine wp_store_mid _ _ _ rfl (W3.heap.size+1) 0 (List.toArray (cL r.c Y cy)) rfl rfl (there_of (Blk.drew (blk_new_of (W:=(World.alloc W3 (.cells Sq.zzC 34))) (by simp) 34 Sq.zzC)) (Nat.le_of_ble_eq_true rfl)) (by kernel_rfl) (by kernel_rfl) ?_
        simp only [Act.put,List.getElem_toArray,List.getElem_cons_zero,List.getElem_cons_succ,List.setIfInBounds_toArray,List.set_cons_zero,List.set_cons_succ,List.toList_toArray]
        have j5:Blk (World.setCells (World.drew (World.alloc (World.alloc W3 (.cells Sq.zzC 34)) (.cells Sq.zzC 34))) (W3.heap.size+1) 0 (cL r.c Y cy)) (W3.heap.size+1) 34 (List.toArray (cL r.c Y cy)):=blk_all (Blk.drew (blk_new_of (W:=(World.alloc W3 (.cells Sq.zzC 34))) (by simp) 34 Sq.zzC)) (set_cA r.c Y cy)
        have j6:Blk (World.setCells (World.drew (World.alloc (World.alloc W3 (.cells Sq.zzC 34)) (.cells Sq.zzC 34))) (W3.heap.size+1) 0 (cL r.c Y cy)) (W3.heap.size) 34 Sq.zzC:=blk_sets_far (by simp) (Blk.drew (Blk.alloc (Blk.new W3 34 Sq.zzC) (.cells Sq.zzC 34)))
        have jB:Below W3.heap.size W3 (World.setCells (World.drew (World.alloc (World.alloc W3 (.cells Sq.zzC 34)) (.cells Sq.zzC 34))) (W3.heap.size+1) 0 (cL r.c Y cy)):=below_sets (by simp) (Below.drew (below_alloc2 (by simp) ((below_alloc2 (by simp) ((Below.refl W3.heap.size W3)) (.cells Sq.zzC 34))) (.cells Sq.zzC 34)))
        generalize World.setCells _ _ _ _=w6 at *
        refine hK.out _ _ ?_ (fun hHeld=>?_)
        ·exact jB
        clear hK K
        (try simp only [Act.put,List.setIfInBounds_toArray,List.set_cons_zero,List.set_cons_succ])
        refine wpAnyH_ready (rs:=[7]) (by kernel_rfl) (by simp) ?_
        refine AllReadyH.cons (i:=7) rfl (fun K hK=>?_) ?_
        ·rw [if_pos (by rfl)]
         simp only [List.getElem_toArray,List.getElem_cons_zero,List.getElem_cons_succ]
         refine wp_store_mid _ _ _ rfl (W3.heap.size) 0 (List.toArray (cL o.c Z cz)) rfl rfl (there_of j6 (Nat.le_of_ble_eq_true rfl)) (by kernel_rfl) (by kernel_rfl) ?_
         simp only [Act.put,List.getElem_toArray,List.getElem_cons_zero,List.getElem_cons_succ,List.setIfInBounds_toArray,List.set_cons_zero,List.set_cons_succ,List.toList_toArray]
         refine hK.out _ _ ?_ (fun hHeld=>?_)
         ·exact (below_sets (by have:=jB.size;omega) (jB))
         clear hK K
         (try simp only [Act.put,List.setIfInBounds_toArray,List.set_cons_zero,List.set_cons_succ])
         refine wpAnyH_done (by kernel_rfl) ?_ _
         refine NoPanic.normal ?_
         go_wp2_with fail
         go_meet
         exact ⟨_,_,rfl,rfl,(blk_sets_far (by have:=Blk.lt j5;omega) j5),(blk_all j6 (set_cA o.c Z cz)),(below_sets (by have:=jB.size;omega) (jB))⟩
        exact AllReadyH.nil
       exact AllReadyH.nil
      exact AllReadyH.nil
     exact AllReadyH.nil
    case rest =>
     obtain ⟨g9,g10,rfl,rfl,k5,k6,hB5⟩:=hcut
     have K9:=Lib.hid k5
     have K10:=Lib.hid k6
     have HBc:=Lib.hid (below_up HBt.out hB5)
     have HV:=Lib.hid (rv_eq r o)
     have HV2:=Lib.hid (cv_eq r.c o.c)
     have p0:wc.cell? ⟨g9,0,none⟩=some (.int .u8 r.c.kd):=k5.cell 0
     have p1:wc.cell? ⟨g9,1,none⟩=some (.int .i64 r.c.id):=k5.cell 1
     have p2:wc.cell? ⟨g9,2,none⟩=some (.int .i64 r.c.us):=k5.cell 2
     have p3:wc.cell? ⟨g9,3,none⟩=some (.int .i64 r.c.cl):=k5.cell 3
     have p4:wc.cell? ⟨g9,4,none⟩=some (.int .i64 r.c.a):=k5.cell 4
     have p5:wc.cell? ⟨g9,5,none⟩=some (.int .i64 r.c.b):=k5.cell 5
     have p6:wc.cell? ⟨g9,6,none⟩=some (.int .i64 r.c.c):=k5.cell 6
     have p7:wc.cell? ⟨g9,7,none⟩=some (.bool r.c.p):=k5.cell 7
     have p8:wc.cell? ⟨g9,8,none⟩=some (.bool r.c.q):=k5.cell 8
     have p9:wc.cell? ⟨g9,9,none⟩=some (.bool r.c.r):=k5.cell 9
     have p10:wc.cell? ⟨g9,10,none⟩=some (.bool r.c.tn):=k5.cell 10
     have p11:wc.cell? ⟨g9,11,none⟩=some (.int .i64 r.c.wa):=k5.cell 11
     have p12:wc.cell? ⟨g9,12,none⟩=some (.int .i64 r.c.pr):=k5.cell 12
     have p13:wc.cell? ⟨g9,13,none⟩=some (.bool r.c.he):=k5.cell 13
     have p14:wc.cell? ⟨g9,14,none⟩=some (.slice Y r.c.af.length cy):=k5.cell 14
     have p15:wc.cell? ⟨g9,15,none⟩=some (.int .u8 r.c.st):=k5.cell 15
     have p16:wc.cell? ⟨g9,16,none⟩=some (.int .i64 r.c.ca):=k5.cell 16
     have q0:wc.cell? ⟨g10,0,none⟩=some (.int .u8 o.c.kd):=k6.cell 0
     have q1:wc.cell? ⟨g10,1,none⟩=some (.int .i64 o.c.id):=k6.cell 1
     have q2:wc.cell? ⟨g10,2,none⟩=some (.int .i64 o.c.us):=k6.cell 2
     have q3:wc.cell? ⟨g10,3,none⟩=some (.int .i64 o.c.cl):=k6.cell 3
     have q4:wc.cell? ⟨g10,4,none⟩=some (.int .i64 o.c.a):=k6.cell 4
     have q5:wc.cell? ⟨g10,5,none⟩=some (.int .i64 o.c.b):=k6.cell 5
     have q6:wc.cell? ⟨g10,6,none⟩=some (.int .i64 o.c.c):=k6.cell 6
     have q7:wc.cell? ⟨g10,7,none⟩=some (.bool o.c.p):=k6.cell 7
     have q8:wc.cell? ⟨g10,8,none⟩=some (.bool o.c.q):=k6.cell 8
     have q9:wc.cell? ⟨g10,9,none⟩=some (.bool o.c.r):=k6.cell 9
     have q10:wc.cell? ⟨g10,10,none⟩=some (.bool o.c.tn):=k6.cell 10
     have q11:wc.cell? ⟨g10,11,none⟩=some (.int .i64 o.c.wa):=k6.cell 11
     have q12:wc.cell? ⟨g10,12,none⟩=some (.int .i64 o.c.pr):=k6.cell 12
     have q13:wc.cell? ⟨g10,13,none⟩=some (.bool o.c.he):=k6.cell 13
     have q14:wc.cell? ⟨g10,14,none⟩=some (.slice Z o.c.af.length cz):=k6.cell 14
     have q15:wc.cell? ⟨g10,15,none⟩=some (.int .u8 o.c.st):=k6.cell 15
     have q16:wc.cell? ⟨g10,16,none⟩=some (.int .i64 o.c.ca):=k6.cell 16
     clear hB5 k5 k6 HRA HRB
     have qb:=eq_box HW.out.2.2.1 HW.out.2.2.2
     have qs:=eq_span HW.out.2.2.1 HW.out.2.2.2
     have HJ:=Lib.hid (rjobsA r.c o.c Y Z cy cz HW.out.2.2.1 HW.out.2.2.2 HT.out.1.F HT.out.2.F wc (HYZ.out.1.up HBc.out) (HYZ.out.2.up HBc.out))
     cases f1:oneB r o
     ·go_wp2_with fail
      go_ret
      exact ⟨by rw [HV.out];simp only [f1,Bool.false_and];rfl,HBc.out⟩
     ·cases f2:twoB r o
      ·go_wp2_with fail
       go_ret
       exact ⟨by rw [HV.out];simp only [f1,f2,Bool.true_and,Bool.false_and];rfl,HBc.out⟩
      ·cases e0:(r.c.kd == o.c.kd)
       ·go_wp2_with fail
        go_ret
        exact ⟨by rw [HV.out,HV2.out];simp only [f1,f2,e0,Bool.true_and,Bool.false_and];rfl,HBc.out⟩
       ·go_wp2_with fail
        refine HJ.out.mono ?_
        rintro e wd ⟨rfl,hBd⟩
        have k5:=K9.out.below hBd K9.out.lt
        have k6:=K10.out.below hBd K10.out.lt
        have HBd:=Lib.hid (below_up HBc.out hBd)
        clear p0 q0 p1 q1 p2 q2 p3 q3 p4 q4 p5 q5 p6 q6 p7 q7 p8 q8 p9 q9 p10 q10 p11 q11 p12 q12 p13 q13 p14 q14 p15 q15 p16 q16
        have p17:wd.cell? ⟨g9,17,none⟩=some (.int .i64 r.c.ci):=k5.cell 17
        have p18:wd.cell? ⟨g9,18,none⟩=some (.int .i64 r.c.b0):=k5.cell 18
        have p19:wd.cell? ⟨g9,19,none⟩=some (.int .i64 r.c.b1):=k5.cell 19
        have p20:wd.cell? ⟨g9,20,none⟩=some (.int .i64 r.c.b2):=k5.cell 20
        have p21:wd.cell? ⟨g9,21,none⟩=some (.int .i64 r.c.b3):=k5.cell 21
        have p22:wd.cell? ⟨g9,22,none⟩=some (.int .i64 r.c.b4):=k5.cell 22
        have p23:wd.cell? ⟨g9,23,none⟩=some (.int .i64 r.c.b5):=k5.cell 23
        have p24:wd.cell? ⟨g9,24,none⟩=some (.int .i64 r.c.fr):=k5.cell 24
        have p25:wd.cell? ⟨g9,25,none⟩=some (.int .i64 r.c.to):=k5.cell 25
        have p26:wd.cell? ⟨g9,26,none⟩=some (.int .i64 r.c.n):=k5.cell 26
        have p27:wd.cell? ⟨g9,27,none⟩=some (.bool r.c.we):=k5.cell 27
        have q17:wd.cell? ⟨g10,17,none⟩=some (.int .i64 o.c.ci):=k6.cell 17
        have q18:wd.cell? ⟨g10,18,none⟩=some (.int .i64 o.c.b0):=k6.cell 18
        have q19:wd.cell? ⟨g10,19,none⟩=some (.int .i64 o.c.b1):=k6.cell 19
        have q20:wd.cell? ⟨g10,20,none⟩=some (.int .i64 o.c.b2):=k6.cell 20
        have q21:wd.cell? ⟨g10,21,none⟩=some (.int .i64 o.c.b3):=k6.cell 21
        have q22:wd.cell? ⟨g10,22,none⟩=some (.int .i64 o.c.b4):=k6.cell 22
        have q23:wd.cell? ⟨g10,23,none⟩=some (.int .i64 o.c.b5):=k6.cell 23
        have q24:wd.cell? ⟨g10,24,none⟩=some (.int .i64 o.c.fr):=k6.cell 24
        have q25:wd.cell? ⟨g10,25,none⟩=some (.int .i64 o.c.to):=k6.cell 25
        have q26:wd.cell? ⟨g10,26,none⟩=some (.int .i64 o.c.n):=k6.cell 26
        have q27:wd.cell? ⟨g10,27,none⟩=some (.bool o.c.we):=k6.cell 27
        clear k5 k6 hBd HJ K9 K10
        cases e1:jobB r.c o.c
        ·go_wp2_with fail
         go_ret
         exact ⟨by rw [HV.out,HV2.out];simp only [f1,f2,e0,e1,Bool.true_and,Bool.false_and];rfl,HBd.out⟩
        ·cases e2:(r.c.ci == o.c.ci)
         ·go_wp2_with fail
          go_ret
          exact ⟨by rw [HV.out,HV2.out];simp only [f1,f2,e0,e1,e2,Bool.true_and,Bool.false_and];rfl,HBd.out⟩
         ·cases e3:boxB r.c o.c
          ·go_wp2_with fail
           go_ret
           exact ⟨by rw [HV.out,HV2.out];simp only [f1,f2,e0,e1,e2,e3,Bool.true_and,Bool.false_and];rfl,HBd.out⟩
          ·cases e4:spanB r.c o.c
           ·go_wp2_with fail
            go_ret
            exact ⟨by rw [HV.out,HV2.out];simp only [f1,f2,e0,e1,e2,e3,e4,Bool.true_and,Bool.false_and];rfl,HBd.out⟩
           ·cases e5:(r.c.n == o.c.n)
            ·go_wp2_with fail
             go_ret
             exact ⟨by rw [HV.out,HV2.out];simp only [f1,f2,e0,e1,e2,e3,e4,e5,Bool.true_and,Bool.false_and];rfl,HBd.out⟩
            ·go_wp2_with fail
             go_ret
             exact ⟨by rw [HV.out,HV2.out];simp only [f1,f2,e0,e1,e2,e3,e4,e5,Bool.true_and];rfl,HBd.out⟩
end Go.Proofs.Ytfdldbfjeamlcaa.RecSameA
namespace Go.Proofs.Ytfdldbfjeamlcaa.RecWrite0
open Go.RowKit RecGuard Mem RecMem RecByte RecNum RecEach RecMath RecPort RecCmd RecCod RecCods RecCommand RecCmdJ RecEq RecJobs RecVal RecSame RecWr0 RecWrite RecOwn RecRecC RecWAt RecWFlat RecWListI RecWCls RecWJob RecWListK RecWListP RecWListE RecWListJ RecWState RecWOk RecWRec RecCmdL RecSameA
def WrPost (r:RV) (w:World) (e:Ending) (w':World):Prop:=
 ((okR r∧(recB r).length≤65536∧∃ X n cc,e = .returned (.tuple #[.slice X n cc,.int .i64 0])∧n=(recB r).length∧n≤cc∧cc≤maxLen∧BytesAt w' X (recB r)) ∨
  (¬ okR r∧e = .returned (.tuple #[.slice none 0 0,.int .i64 8])) ∨
  (okR r∧65536 < (recB r).length∧e = .returned (.tuple #[.slice none 0 0,.int .i64 4])))∧Below w.heap.size w w'
theorem set_zg (r:RV):setA Sq.zzR 0 [.int .i64 r.g,.int .i64 0,.int .i64 0,.int .i64 0,.int .i64 0,.int .i64 0,.int .i64 0,.int .i64 0,.slice none 0 0,.int .i64 0,.int .i64 0,.slice none 0 0,.slice none 0 0,.slice none 0 0,.slice none 0 0,.slice none 0 0,.slice none 0 0,.int .u8 0,.int .i64 0,.int .i64 0,.int .i64 0,.int .i64 0,.int .i64 0,.int .i64 0,.bool false,.bool false,.bool false,.bool false,.int .i64 0,.int .i64 0,.bool false,.slice none 0 0,.int .u8 0,.int .i64 0,.int .i64 0,.int .i64 0,.int .i64 0,.int .i64 0,.int .i64 0,.int .i64 0,.int .i64 0,.int .i64 0,.int .i64 0,.int .i64 0,.bool false]=(List.toArray [.int .i64 r.g,.int .i64 0,.int .i64 0,.int .i64 0,.int .i64 0,.int .i64 0,.int .i64 0,.int .i64 0,.slice none 0 0,.int .i64 0,.int .i64 0,.slice none 0 0,.slice none 0 0,.slice none 0 0,.slice none 0 0,.slice none 0 0,.slice none 0 0,.int .u8 0,.int .i64 0,.int .i64 0,.int .i64 0,.int .i64 0,.int .i64 0,.int .i64 0,.bool false,.bool false,.bool false,.bool false,.int .i64 0,.int .i64 0,.bool false,.slice none 0 0,.int .u8 0,.int .i64 0,.int .i64 0,.int .i64 0,.int .i64 0,.int .i64 0,.int .i64 0,.int .i64 0,.int .i64 0,.int .i64 0,.int .i64 0,.int .i64 0,.bool false]):=by
 simp only [setA,List.setIfInBounds_toArray,List.set_cons_zero,List.set_cons_succ]
theorem set_zs (r:RV) (x:SA):setA (List.toArray [.int .i64 r.g,.int .i64 0,.int .i64 0,.int .i64 0,.int .i64 0,.int .i64 0,.int .i64 0,.int .i64 0,.slice none 0 0,.int .i64 0,.int .i64 0,.slice none 0 0,.slice none 0 0,.slice none 0 0,.slice none 0 0,.slice none 0 0,.slice none 0 0,.int .u8 0,.int .i64 0,.int .i64 0,.int .i64 0,.int .i64 0,.int .i64 0,.int .i64 0,.bool false,.bool false,.bool false,.bool false,.int .i64 0,.int .i64 0,.bool false,.slice none 0 0,.int .u8 0,.int .i64 0,.int .i64 0,.int .i64 0,.int .i64 0,.int .i64 0,.int .i64 0,.int .i64 0,.int .i64 0,.int .i64 0,.int .i64 0,.int .i64 0,.bool false]) 1 (sL r.s x)=(List.toArray [.int .i64 r.g,.int .i64 r.s.d0,.int .i64 r.s.d1,.int .i64 r.s.d2,.int .i64 r.s.bo,.int .i64 r.s.fr,.int .i64 r.s.tr,.int .i64 r.s.ag,.slice x.C r.s.cs.length x.cc,.int .i64 r.s.nw,.int .i64 r.s.nx,.slice x.J r.s.js.length x.cj,.slice x.P r.s.ps.length x.cp,.slice x.K r.s.ks.length x.ck,.slice x.D r.s.dn.length x.cd,.slice x.S r.s.sh.length x.cs,.slice x.U r.s.cu.length x.cu,.int .u8 0,.int .i64 0,.int .i64 0,.int .i64 0,.int .i64 0,.int .i64 0,.int .i64 0,.bool false,.bool false,.bool false,.bool false,.int .i64 0,.int .i64 0,.bool false,.slice none 0 0,.int .u8 0,.int .i64 0,.int .i64 0,.int .i64 0,.int .i64 0,.int .i64 0,.int .i64 0,.int .i64 0,.int .i64 0,.int .i64 0,.int .i64 0,.int .i64 0,.bool false]):=by
 simp only [setA,List.setIfInBounds_toArray,List.set_cons_zero,List.set_cons_succ]
theorem row_cap {w:World} {B n:Nat} {X:Option Addr} {c:Nat} {xs:List Value} (h:w.ownsRow B 5 1 (.slice X n c) n xs):n≤c∧c≤maxLen:=by
 rcases h.2 with ⟨e,e0⟩ | ⟨g,cap,cur,e,_,_,h1,h2,_⟩
 ·injection e with _ e1 e2;subst e1 e2;exact ⟨Nat.le_refl _,Nat.zero_le _⟩
 ·injection e with _ _ e2;subst e2;exact ⟨h1,h2⟩
theorem top_of {r:RV} (h:RTop r):StTop r.s:=⟨h.C,h.J,h.P,h.K,h.D,h.S,h.U,h.A⟩
theorem range_over {w:World} {b o:Nat} {cs:List Value} (ob:Obj) (h:w.rangeAt b o cs):(w.alloc ob).rangeAt b o cs:=fun i u hi=>cell_over ob (h i u hi)
theorem slc_new {α:Type} {n:Nat} {rep:World→α→List Value→Prop} {repF:Nat→Value→World→α→List Value→Prop} {w:World} {X:Option Addr} {l:List α}
    (hr:∀ x ∈ l,∀ cs,rep w x cs→repF w.heap.size (.slice none 0 0) (w.alloc (.cells #[.slice none 0 0,.bool false,.bool false] PT)) x cs) (h:SlcAt n rep w X l):SlcFar n repF w.heap.size (.slice none 0 0) (w.alloc (.cells #[.slice none 0 0,.bool false,.bool false] PT)) X l:=fun i x hi=>by
 obtain ⟨b,o,cs,e,h1,h2,h3,h4⟩:=h i x hi
 exact ⟨b,o,cs,e,far_new h1,h2,range_over _ h3,hr x (List.mem_of_getElem? hi) _ h4⟩
theorem st_new {w:World} {s:SV} {x:SA} (h:StAt w s x) (ht:StTop s):StFar w.heap.size (.slice none 0 0) (w.alloc (.cells #[.slice none 0 0,.bool false,.bool false] PT)) s x:=
 ⟨slc_new (fun _ _ _ h=>h) h.C,slc_new (fun j hj cs hc=>by
     obtain ⟨Y,cy,e,h1,h2⟩:=hc
     exact ⟨Y,cy,e,h1,ht.A j hj,far_ints (ints_new h2)⟩) h.J,slc_new (fun _ _ _ h=>h) h.P,slc_new (fun _ _ _ h=>h) h.K,far_ints (ints_new h.D),far_ints (ints_new h.S),far_ints (ints_new h.U)⟩
theorem top_own {r:RV} (h:RTop r):RTop ⟨0,SV.z,own r.c⟩:=⟨Nat.zero_le _,Nat.zero_le _,Nat.zero_le _,Nat.zero_le _,Nat.zero_le _,Nat.zero_le _,Nat.zero_le _,(fun j hj=>by cases hj),by
 show (own r.c).af.length≤_
 unfold own
 repeat' split
 all_goals first | exact h.F | (simp [CV.z])⟩
theorem top_st {r:RV} (h:RTop r):RTop ⟨r.g,r.s,CV.z⟩:=⟨h.C,h.J,h.P,h.K,h.D,h.S,h.U,h.A,Nat.zero_le _⟩
theorem z_wf:SWf SV.z:=by
 have z:W64 0:=z64
 exact ⟨⟨z,z,z,z,z,z,z,z,z⟩,fun x hx=>(by cases hx),fun x hx=>(by cases hx),fun x hx=>(by cases hx),fun x hx=>(by cases hx),fun x hx=>(by cases hx),fun x hx=>(by cases hx),fun x hx=>(by cases hx)⟩
theorem zc_wf:CWf CV.z:=⟨by simp only [List.forall_mem_cons,CV.z];exact ⟨z64,z64,z64,z64,z64,z64,z64,z64,z64,z64,z64,z64,z64,z64,z64,z64,z64,z64,z64,fun n hn=>by cases hn⟩,fun n hn=>by cases hn⟩
theorem own_af {c:CV} (h:¬ (own c).af.length≤1000):c.kd=1∧(own c).af=c.af∧(own c).kd=1:=by
 by_cases hj:isJob c.kd
 ·have hk:c.kd=1:=hj
  refine ⟨hk,?_,?_⟩
  ·unfold own;rw [if_pos hj]
  ·rw [own_kd];exact hk
 ·rw [own_none c hj] at h;simp at h
theorem ask_long {c:CV} (h:¬ c.af.length≤1000):askO (askOf c)=false:=by
 unfold askO listO
 rw [show (askOf c).af=c.af from rfl,decide_eq_false h];rfl
end Go.Proofs.Ytfdldbfjeamlcaa.RecWrite0
