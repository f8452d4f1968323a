/- Several texts joined: rec.Write of any record with a command. -/
import Derived.BigQuiet
import Derived.Deep.QuietTactic
import Derived.Deep.MidRow
import Derived.Deep.DeepCutAuto
import Derived.Lib.QuietBelow
import Derived.Lib.SliceRun
import Derived.Test.YtfdldbfjeamlcaaPG12
import Derived.Test.YtfdldbfjeamlcaaPG9
set_option linter.unusedVariables false
set_option linter.unusedSimpArgs false
namespace Go.Proofs.Ytfdldbfjeamlcaa.RecWriteC
set_option maxRecDepth 100000
set_option maxHeartbeats 4000000
open Go.RowKit RecGuard Mem RecMem RecByte RecNum RecEach RecMath RecPort RecCmd RecCod RecCods RecCommand RecCmdJ RecEq RecJobs RecVal RecSame RecWr0 RecWrite RecOwn RecRecC RecWAt RecWFlat RecWListI RecWCls RecWJob RecWListK RecWListP RecWListE RecWListJ RecWState RecWOk RecWRec RecCmdL RecSameA RecWrite0
theorem own_short {r:RV} (h:(own r.c).af.length≤1000) (e:(⟨0,SV.z,own r.c⟩:RV)=r):r.c.af.length≤1000:=by
 have:own r.c=r.c:=congrArg RV.c e
 rwa [this] at h
theorem wwriteC (r:RV) (x:SA) (Y:Option Addr) (cy:Nat) (hs:SWf r.s) (hc:CWf r.c) (hg:W64 r.g) (ht:RTop r) (hL:r.c.af.length≤17592186044416) (w:World) (hx:StAt w r.s x) (hI:IntsAt w Y r.c.af) (h0:r.g=0) (hn:(own r.c).af.length≤1000) :
    Calls Try.prog 17 #[.agg #[.int .i64 r.g,.int .i64 r.s.d0,.int .i64 r.s.d1,.int .i64 r.s.d2,.int .i64 r.s.bo,.int .i64 r.s.fr,.int .i64 r.s.tr,.int .i64 r.s.ag,.slice x.C r.s.cs.length x.cc,.int .i64 r.s.nw,.int .i64 r.s.nx,.slice x.J r.s.js.length x.cj,.slice x.P r.s.ps.length x.cp,.slice x.K r.s.ks.length x.ck,.slice x.D r.s.dn.length x.cd,.slice x.S r.s.sh.length x.cs,.slice x.U r.s.cu.length x.cu,.int .u8 r.c.kd,.int .i64 r.c.id,.int .i64 r.c.us,.int .i64 r.c.cl,.int .i64 r.c.a,.int .i64 r.c.b,.int .i64 r.c.c,.bool r.c.p,.bool r.c.q,.bool r.c.r,.bool r.c.tn,.int .i64 r.c.wa,.int .i64 r.c.pr,.bool r.c.he,.slice Y r.c.af.length cy,.int .u8 r.c.st,.int .i64 r.c.ca,.int .i64 r.c.ci,.int .i64 r.c.b0,.int .i64 r.c.b1,.int .i64 r.c.b2,.int .i64 r.c.b3,.int .i64 r.c.b4,.int .i64 r.c.b5,.int .i64 r.c.fr,.int .i64 r.c.to,.int .i64 r.c.n,.bool r.c.we]] w fun e w' => WrPost r w e w':=by
 rw [h0]
 have HI:=Lib.hid (And.intro hI hx)
 have HW:=Lib.hid (And.intro hs (And.intro hc (And.intro ht hg)))
 clear hI hx hs hc ht hg
 go_enter Try.func17,Try.ntmps17
 go_upto_region 1 with fail
 have K00:=Lib.hid (Blk.new w 51 #[.int .i64 0,.int .i64 r.s.d0,.int .i64 r.s.d1,.int .i64 r.s.d2,.int .i64 r.s.bo,.int .i64 r.s.fr,.int .i64 r.s.tr,.int .i64 r.s.ag,.slice x.C r.s.cs.length x.cc,.int .i64 r.s.nw,.int .i64 r.s.nx,.slice x.J r.s.js.length x.cj,.slice x.P r.s.ps.length x.cp,.slice x.K r.s.ks.length x.ck,.slice x.D r.s.dn.length x.cd,.slice x.S r.s.sh.length x.cs,.slice x.U r.s.cu.length x.cu,.int .u8 r.c.kd,.int .i64 r.c.id,.int .i64 r.c.us,.int .i64 r.c.cl,.int .i64 r.c.a,.int .i64 r.c.b,.int .i64 r.c.c,.bool r.c.p,.bool r.c.q,.bool r.c.r,.bool r.c.tn,.int .i64 r.c.wa,.int .i64 r.c.pr,.bool r.c.he,.slice Y r.c.af.length cy,.int .u8 r.c.st,.int .i64 r.c.ca,.int .i64 r.c.ci,.int .i64 r.c.b0,.int .i64 r.c.b1,.int .i64 r.c.b2,.int .i64 r.c.b3,.int .i64 r.c.b4,.int .i64 r.c.b5,.int .i64 r.c.fr,.int .i64 r.c.to,.int .i64 r.c.n,.bool r.c.we])
 have HB0:=Lib.hid (below_alloc (o:=.cells #[.int .i64 0,.int .i64 r.s.d0,.int .i64 r.s.d1,.int .i64 r.s.d2,.int .i64 r.s.bo,.int .i64 r.s.fr,.int .i64 r.s.tr,.int .i64 r.s.ag,.slice x.C r.s.cs.length x.cc,.int .i64 r.s.nw,.int .i64 r.s.nx,.slice x.J r.s.js.length x.cj,.slice x.P r.s.ps.length x.cp,.slice x.K r.s.ks.length x.ck,.slice x.D r.s.dn.length x.cd,.slice x.S r.s.sh.length x.cs,.slice x.U r.s.cu.length x.cu,.int .u8 r.c.kd,.int .i64 r.c.id,.int .i64 r.c.us,.int .i64 r.c.cl,.int .i64 r.c.a,.int .i64 r.c.b,.int .i64 r.c.c,.bool r.c.p,.bool r.c.q,.bool r.c.r,.bool r.c.tn,.int .i64 r.c.wa,.int .i64 r.c.pr,.bool r.c.he,.slice Y r.c.af.length cy,.int .u8 r.c.st,.int .i64 r.c.ca,.int .i64 r.c.ci,.int .i64 r.c.b0,.int .i64 r.c.b1,.int .i64 r.c.b2,.int .i64 r.c.b3,.int .i64 r.c.b4,.int .i64 r.c.b5,.int .i64 r.c.fr,.int .i64 r.c.to,.int .i64 r.c.n,.bool r.c.we] 51) (Below.refl w.heap.size w))
 have hs0:(w.alloc (.cells #[.int .i64 0,.int .i64 r.s.d0,.int .i64 r.s.d1,.int .i64 r.s.d2,.int .i64 r.s.bo,.int .i64 r.s.fr,.int .i64 r.s.tr,.int .i64 r.s.ag,.slice x.C r.s.cs.length x.cc,.int .i64 r.s.nw,.int .i64 r.s.nx,.slice x.J r.s.js.length x.cj,.slice x.P r.s.ps.length x.cp,.slice x.K r.s.ks.length x.ck,.slice x.D r.s.dn.length x.cd,.slice x.S r.s.sh.length x.cs,.slice x.U r.s.cu.length x.cu,.int .u8 r.c.kd,.int .i64 r.c.id,.int .i64 r.c.us,.int .i64 r.c.cl,.int .i64 r.c.a,.int .i64 r.c.b,.int .i64 r.c.c,.bool r.c.p,.bool r.c.q,.bool r.c.r,.bool r.c.tn,.int .i64 r.c.wa,.int .i64 r.c.pr,.bool r.c.he,.slice Y r.c.af.length cy,.int .u8 r.c.st,.int .i64 r.c.ca,.int .i64 r.c.ci,.int .i64 r.c.b0,.int .i64 r.c.b1,.int .i64 r.c.b2,.int .i64 r.c.b3,.int .i64 r.c.b4,.int .i64 r.c.b5,.int .i64 r.c.fr,.int .i64 r.c.to,.int .i64 r.c.n,.bool r.c.we] 51)).heap.size=w.heap.size+1:=by simp
 have hg0:=K00.out.cell 0
 generalize w.alloc (.cells #[.int .i64 0,.int .i64 r.s.d0,.int .i64 r.s.d1,.int .i64 r.s.d2,.int .i64 r.s.bo,.int .i64 r.s.fr,.int .i64 r.s.tr,.int .i64 r.s.ag,.slice x.C r.s.cs.length x.cc,.int .i64 r.s.nw,.int .i64 r.s.nx,.slice x.J r.s.js.length x.cj,.slice x.P r.s.ps.length x.cp,.slice x.K r.s.ks.length x.ck,.slice x.D r.s.dn.length x.cd,.slice x.S r.s.sh.length x.cs,.slice x.U r.s.cu.length x.cu,.int .u8 r.c.kd,.int .i64 r.c.id,.int .i64 r.c.us,.int .i64 r.c.cl,.int .i64 r.c.a,.int .i64 r.c.b,.int .i64 r.c.c,.bool r.c.p,.bool r.c.q,.bool r.c.r,.bool r.c.tn,.int .i64 r.c.wa,.int .i64 r.c.pr,.bool r.c.he,.slice Y r.c.af.length cy,.int .u8 r.c.st,.int .i64 r.c.ca,.int .i64 r.c.ci,.int .i64 r.c.b0,.int .i64 r.c.b1,.int .i64 r.c.b2,.int .i64 r.c.b3,.int .i64 r.c.b4,.int .i64 r.c.b5,.int .i64 r.c.fr,.int .i64 r.c.to,.int .i64 r.c.n,.bool r.c.we] 51)=W0 at *
 have k1:Blk (World.setCells (W0.alloc (.cells Sq.zzR 51)) (w.heap.size+1) 0 [.int .i64 0,.int .i64 0,.int .i64 0,.int .i64 0,.int .i64 0,.int .i64 0,.int .i64 0,.int .i64 0,.slice none 0 0,.int .i64 0,.int .i64 0,.slice none 0 0,.slice none 0 0,.slice none 0 0,.slice none 0 0,.slice none 0 0,.slice none 0 0,.int .u8 0,.int .i64 0,.int .i64 0,.int .i64 0,.int .i64 0,.int .i64 0,.int .i64 0,.bool false,.bool false,.bool false,.bool false,.int .i64 0,.int .i64 0,.bool false,.slice none 0 0,.int .u8 0,.int .i64 0,.int .i64 0,.int .i64 0,.int .i64 0,.int .i64 0,.int .i64 0,.int .i64 0,.int .i64 0,.int .i64 0,.int .i64 0,.int .i64 0,.bool false]) (w.heap.size+1) 51 (List.toArray [.int .i64 0,.int .i64 0,.int .i64 0,.int .i64 0,.int .i64 0,.int .i64 0,.int .i64 0,.int .i64 0,.slice none 0 0,.int .i64 0,.int .i64 0,.slice none 0 0,.slice none 0 0,.slice none 0 0,.slice none 0 0,.slice none 0 0,.slice none 0 0,.int .u8 0,.int .i64 0,.int .i64 0,.int .i64 0,.int .i64 0,.int .i64 0,.int .i64 0,.bool false,.bool false,.bool false,.bool false,.int .i64 0,.int .i64 0,.bool false,.slice none 0 0,.int .u8 0,.int .i64 0,.int .i64 0,.int .i64 0,.int .i64 0,.int .i64 0,.int .i64 0,.int .i64 0,.int .i64 0,.int .i64 0,.int .i64 0,.int .i64 0,.bool false]):=blk_all (blk_new_of hs0 51 Sq.zzR) set_zrec
 have k0:Blk (World.setCells (W0.alloc (.cells Sq.zzR 51)) (w.heap.size+1) 0 [.int .i64 0,.int .i64 0,.int .i64 0,.int .i64 0,.int .i64 0,.int .i64 0,.int .i64 0,.int .i64 0,.slice none 0 0,.int .i64 0,.int .i64 0,.slice none 0 0,.slice none 0 0,.slice none 0 0,.slice none 0 0,.slice none 0 0,.slice none 0 0,.int .u8 0,.int .i64 0,.int .i64 0,.int .i64 0,.int .i64 0,.int .i64 0,.int .i64 0,.bool false,.bool false,.bool false,.bool false,.int .i64 0,.int .i64 0,.bool false,.slice none 0 0,.int .u8 0,.int .i64 0,.int .i64 0,.int .i64 0,.int .i64 0,.int .i64 0,.int .i64 0,.int .i64 0,.int .i64 0,.int .i64 0,.int .i64 0,.int .i64 0,.bool false]) w.heap.size 51 #[.int .i64 0,.int .i64 r.s.d0,.int .i64 r.s.d1,.int .i64 r.s.d2,.int .i64 r.s.bo,.int .i64 r.s.fr,.int .i64 r.s.tr,.int .i64 r.s.ag,.slice x.C r.s.cs.length x.cc,.int .i64 r.s.nw,.int .i64 r.s.nx,.slice x.J r.s.js.length x.cj,.slice x.P r.s.ps.length x.cp,.slice x.K r.s.ks.length x.ck,.slice x.D r.s.dn.length x.cd,.slice x.S r.s.sh.length x.cs,.slice x.U r.s.cu.length x.cu,.int .u8 r.c.kd,.int .i64 r.c.id,.int .i64 r.c.us,.int .i64 r.c.cl,.int .i64 r.c.a,.int .i64 r.c.b,.int .i64 r.c.c,.bool r.c.p,.bool r.c.q,.bool r.c.r,.bool r.c.tn,.int .i64 r.c.wa,.int .i64 r.c.pr,.bool r.c.he,.slice Y r.c.af.length cy,.int .u8 r.c.st,.int .i64 r.c.ca,.int .i64 r.c.ci,.int .i64 r.c.b0,.int .i64 r.c.b1,.int .i64 r.c.b2,.int .i64 r.c.b3,.int .i64 r.c.b4,.int .i64 r.c.b5,.int .i64 r.c.fr,.int .i64 r.c.to,.int .i64 r.c.n,.bool r.c.we]:=blk_sets_far (by omega) (K00.out.alloc _)
 have kB:Below w.heap.size w (World.setCells (W0.alloc (.cells Sq.zzR 51)) (w.heap.size+1) 0 [.int .i64 0,.int .i64 0,.int .i64 0,.int .i64 0,.int .i64 0,.int .i64 0,.int .i64 0,.int .i64 0,.slice none 0 0,.int .i64 0,.int .i64 0,.slice none 0 0,.slice none 0 0,.slice none 0 0,.slice none 0 0,.slice none 0 0,.slice none 0 0,.int .u8 0,.int .i64 0,.int .i64 0,.int .i64 0,.int .i64 0,.int .i64 0,.int .i64 0,.bool false,.bool false,.bool false,.bool false,.int .i64 0,.int .i64 0,.bool false,.slice none 0 0,.int .u8 0,.int .i64 0,.int .i64 0,.int .i64 0,.int .i64 0,.int .i64 0,.int .i64 0,.int .i64 0,.int .i64 0,.int .i64 0,.int .i64 0,.int .i64 0,.bool false]):=below_sets (by omega) (below_alloc HB0.out)
 go_upto_region 2 with (first | (refine wpList_store_mid rfl 51 _ _ rfl (w.heap.size+1) 0 Sq.zzR rfl rfl (there_of (blk_new_of hs0 51 Sq.zzR) (Nat.le_of_ble_eq_true rfl)) (by kernel_rfl) (by kernel_rfl) ?_;simp only [List.toList_toArray];generalize World.setCells _ _ _ _=WB at *;(try simp only [Act.put])))
 have K0:=Lib.hid k0
 have K1:=Lib.hid k1
 have HB:=Lib.hid kB
 have hgB:WB.cell? ⟨w.heap.size,0,none⟩=some (.int .i64 0):=K0.out.cell 0
 clear k0 k1 kB hg0 hs0 K00 HB0
 have HIB:=Lib.hid (HI.out.1.up HB.out)
 have HRC:=Lib.hid (show WB.rangeAt w.heap.size 17 (cL r.c Y cy) from range_part (n:=28) K0.out rfl)
 go_wp2_with (first | (refine wpList_load_mid rfl 34 _ rfl _ _ rfl _ _ HRC.out Try.underlying34 rfl (by kernel_rfl) ?_))
 refine (ccommandL r.c Y cy hL _ HIB.out).mono ?_
 rintro e w1 ⟨Y1,cy1,rfl,hcy1,hI1,hB1,hY1⟩
 have K0b:=Lib.hid (K0.out.below hB1 K0.out.lt)
 have K1b:=Lib.hid (K1.out.below hB1 K1.out.lt)
 have HBb:=Lib.hid (below_up HB.out hB1)
 have hs1:w.heap.size+1 < WB.heap.size:=K1.out.lt
 have HI2:=Lib.hid (And.intro hI1 (show ∀ b o,Y1=some ⟨b,o,none⟩→b≠w.heap.size+1 from fun b o e=>by have:=hY1 b o e;omega))
 clear hI1 hB1 hY1 K0 K1 HB HRC HIB hgB
 have k1:Blk (World.setCells w1 (w.heap.size+1) 17 [.int .u8 (own r.c).kd,.int .i64 (own r.c).id,.int .i64 (own r.c).us,.int .i64 (own r.c).cl,.int .i64 (own r.c).a,.int .i64 (own r.c).b,.int .i64 (own r.c).c,.bool (own r.c).p,.bool (own r.c).q,.bool (own r.c).r,.bool (own r.c).tn,.int .i64 (own r.c).wa,.int .i64 (own r.c).pr,.bool (own r.c).he,.slice Y1 (own r.c).af.length cy1,.int .u8 (own r.c).st,.int .i64 (own r.c).ca,.int .i64 (own r.c).ci,.int .i64 (own r.c).b0,.int .i64 (own r.c).b1,.int .i64 (own r.c).b2,.int .i64 (own r.c).b3,.int .i64 (own r.c).b4,.int .i64 (own r.c).b5,.int .i64 (own r.c).fr,.int .i64 (own r.c).to,.int .i64 (own r.c).n,.bool (own r.c).we]) (w.heap.size+1) 51 (recA (own r.c) Y1 cy1):=(by have:=blk_setA (i:=17) (vs:=[.int .u8 (own r.c).kd,.int .i64 (own r.c).id,.int .i64 (own r.c).us,.int .i64 (own r.c).cl,.int .i64 (own r.c).a,.int .i64 (own r.c).b,.int .i64 (own r.c).c,.bool (own r.c).p,.bool (own r.c).q,.bool (own r.c).r,.bool (own r.c).tn,.int .i64 (own r.c).wa,.int .i64 (own r.c).pr,.bool (own r.c).he,.slice Y1 (own r.c).af.length cy1,.int .u8 (own r.c).st,.int .i64 (own r.c).ca,.int .i64 (own r.c).ci,.int .i64 (own r.c).b0,.int .i64 (own r.c).b1,.int .i64 (own r.c).b2,.int .i64 (own r.c).b3,.int .i64 (own r.c).b4,.int .i64 (own r.c).b5,.int .i64 (own r.c).fr,.int .i64 (own r.c).to,.int .i64 (own r.c).n,.bool (own r.c).we]) K1b.out;rwa [set_rec] at this)
 have k0:Blk (World.setCells w1 (w.heap.size+1) 17 [.int .u8 (own r.c).kd,.int .i64 (own r.c).id,.int .i64 (own r.c).us,.int .i64 (own r.c).cl,.int .i64 (own r.c).a,.int .i64 (own r.c).b,.int .i64 (own r.c).c,.bool (own r.c).p,.bool (own r.c).q,.bool (own r.c).r,.bool (own r.c).tn,.int .i64 (own r.c).wa,.int .i64 (own r.c).pr,.bool (own r.c).he,.slice Y1 (own r.c).af.length cy1,.int .u8 (own r.c).st,.int .i64 (own r.c).ca,.int .i64 (own r.c).ci,.int .i64 (own r.c).b0,.int .i64 (own r.c).b1,.int .i64 (own r.c).b2,.int .i64 (own r.c).b3,.int .i64 (own r.c).b4,.int .i64 (own r.c).b5,.int .i64 (own r.c).fr,.int .i64 (own r.c).to,.int .i64 (own r.c).n,.bool (own r.c).we]) w.heap.size 51 #[.int .i64 0,.int .i64 r.s.d0,.int .i64 r.s.d1,.int .i64 r.s.d2,.int .i64 r.s.bo,.int .i64 r.s.fr,.int .i64 r.s.tr,.int .i64 r.s.ag,.slice x.C r.s.cs.length x.cc,.int .i64 r.s.nw,.int .i64 r.s.nx,.slice x.J r.s.js.length x.cj,.slice x.P r.s.ps.length x.cp,.slice x.K r.s.ks.length x.ck,.slice x.D r.s.dn.length x.cd,.slice x.S r.s.sh.length x.cs,.slice x.U r.s.cu.length x.cu,.int .u8 r.c.kd,.int .i64 r.c.id,.int .i64 r.c.us,.int .i64 r.c.cl,.int .i64 r.c.a,.int .i64 r.c.b,.int .i64 r.c.c,.bool r.c.p,.bool r.c.q,.bool r.c.r,.bool r.c.tn,.int .i64 r.c.wa,.int .i64 r.c.pr,.bool r.c.he,.slice Y r.c.af.length cy,.int .u8 r.c.st,.int .i64 r.c.ca,.int .i64 r.c.ci,.int .i64 r.c.b0,.int .i64 r.c.b1,.int .i64 r.c.b2,.int .i64 r.c.b3,.int .i64 r.c.b4,.int .i64 r.c.b5,.int .i64 r.c.fr,.int .i64 r.c.to,.int .i64 r.c.n,.bool r.c.we]:=blk_sets_far (by omega) K0b.out
 have kB:Below w.heap.size w (World.setCells w1 (w.heap.size+1) 17 [.int .u8 (own r.c).kd,.int .i64 (own r.c).id,.int .i64 (own r.c).us,.int .i64 (own r.c).cl,.int .i64 (own r.c).a,.int .i64 (own r.c).b,.int .i64 (own r.c).c,.bool (own r.c).p,.bool (own r.c).q,.bool (own r.c).r,.bool (own r.c).tn,.int .i64 (own r.c).wa,.int .i64 (own r.c).pr,.bool (own r.c).he,.slice Y1 (own r.c).af.length cy1,.int .u8 (own r.c).st,.int .i64 (own r.c).ca,.int .i64 (own r.c).ci,.int .i64 (own r.c).b0,.int .i64 (own r.c).b1,.int .i64 (own r.c).b2,.int .i64 (own r.c).b3,.int .i64 (own r.c).b4,.int .i64 (own r.c).b5,.int .i64 (own r.c).fr,.int .i64 (own r.c).to,.int .i64 (own r.c).n,.bool (own r.c).we]):=below_sets (by omega) HBb.out
 have kI:IntsAt (World.setCells w1 (w.heap.size+1) 17 [.int .u8 (own r.c).kd,.int .i64 (own r.c).id,.int .i64 (own r.c).us,.int .i64 (own r.c).cl,.int .i64 (own r.c).a,.int .i64 (own r.c).b,.int .i64 (own r.c).c,.bool (own r.c).p,.bool (own r.c).q,.bool (own r.c).r,.bool (own r.c).tn,.int .i64 (own r.c).wa,.int .i64 (own r.c).pr,.bool (own r.c).he,.slice Y1 (own r.c).af.length cy1,.int .u8 (own r.c).st,.int .i64 (own r.c).ca,.int .i64 (own r.c).ci,.int .i64 (own r.c).b0,.int .i64 (own r.c).b1,.int .i64 (own r.c).b2,.int .i64 (own r.c).b3,.int .i64 (own r.c).b4,.int .i64 (own r.c).b5,.int .i64 (own r.c).fr,.int .i64 (own r.c).to,.int .i64 (own r.c).n,.bool (own r.c).we]) Y1 (own r.c).af:=ints_sets2 HI2.out.1 HI2.out.2
 go_upto_region 5 with (first | (refine wpList_store_mid rfl 34 _ _ rfl (w.heap.size+1) 17 (List.toArray [.int .u8 (own r.c).kd,.int .i64 (own r.c).id,.int .i64 (own r.c).us,.int .i64 (own r.c).cl,.int .i64 (own r.c).a,.int .i64 (own r.c).b,.int .i64 (own r.c).c,.bool (own r.c).p,.bool (own r.c).q,.bool (own r.c).r,.bool (own r.c).tn,.int .i64 (own r.c).wa,.int .i64 (own r.c).pr,.bool (own r.c).he,.slice Y1 (own r.c).af.length cy1,.int .u8 (own r.c).st,.int .i64 (own r.c).ca,.int .i64 (own r.c).ci,.int .i64 (own r.c).b0,.int .i64 (own r.c).b1,.int .i64 (own r.c).b2,.int .i64 (own r.c).b3,.int .i64 (own r.c).b4,.int .i64 (own r.c).b5,.int .i64 (own r.c).fr,.int .i64 (own r.c).to,.int .i64 (own r.c).n,.bool (own r.c).we]) rfl rfl (there_of K1b.out (Nat.le_of_ble_eq_true rfl)) (by kernel_rfl) (by kernel_rfl) ?_;simp only [List.toList_toArray];generalize World.setCells _ _ _ _=W3 at *;(try simp only [Act.put])))
 have K0:=Lib.hid k0
 have K1:=Lib.hid k1
 have HB:=Lib.hid kB
 have HIJ:=Lib.hid kI
 clear k0 k1 kB kI K0b K1b HBb HI2
 go_wp2_with fail
 refine (wrecord W3.heap.size (w.heap.size+1) (.slice none 0 0) (own r.c) Y1 cy1 hcy1 hn (own_wf HW.out.2.1) _ port_new (K1.out.alloc _) (far_new K1.out.lt) (ints_new HIJ.out)).mono ?_
 rintro e w4 ⟨⟨rr,rfl⟩,v4,hP4,hF4⟩
 rw [cmdB_own,own_kd] at hP4
 have hB4:Below W3.heap.size (W3.alloc (.cells #[.slice none 0 0,.bool false,.bool false] PT)) w4:=hF4.below (Nat.le_refl _) (by simp [Value.ownBlock]) (by simp)
 have hB34:Below W3.heap.size W3 w4:=(below_alloc (Below.refl _ W3)).trans hB4
 have k0:=K0.out.below hB34 K0.out.lt
 have k1:=K1.out.below hB34 K1.out.lt
 have HB4:=Lib.hid (below_up HB.out hB34)
 have HI4:=Lib.hid (And.intro (HI.out.1.up HB4.out) (HI.out.2.up HB4.out))
 have HJ4:=Lib.hid (HIJ.out.up hB34)
 have HOK:=Lib.hid (okR_cmd h0 HW.out.2.1)
 have HL:=Lib.hid (And.intro hn h0)
 clear hn h0
 generalize hN:(nB 0 ++ cmdB r.c).length=N at *
 obtain ⟨X4,c4,rfl⟩:=own_form hP4.2.1
 have hcap:=row_cap hP4.2.1
 rw [hN] at hcap
 have q2:w4.cell? ⟨W3.heap.size,2,none⟩=some (.bool (!mayK r.c.kd)):=hP4.1.cell 2
 have HQ0:=Lib.hid (show w4.cell? ⟨W3.heap.size,0,none⟩=some (.slice X4 N c4) from by rw [← hN];exact hP4.1.cell 0)
 have HR:=Lib.hid (And.intro (Reads.of_own hP4.2.1) hcap)
 have HN:=Lib.hid hN
 have HK:=Lib.hid (And.intro k0 k1)
 clear hP4 hF4 hB4 hB34 k0 k1 K0 K1 HB HIJ hN hcap
 cases e0:mayK r.c.kd
 ·have q2:w4.cell? ⟨W3.heap.size,2,none⟩=some (.bool true):=by rw [q2];rw [e0];rfl
  go_wp2_with fail
  go_ret2
  exact ⟨Or.inr (Or.inl ⟨(fun h=>by have:=(HOK.out.1 h).1;rw [e0] at this;cases this),rfl⟩),HB4.out⟩
 ·have q2:w4.cell? ⟨W3.heap.size,2,none⟩=some (.bool false):=by rw [q2];rw [e0];rfl
  have HRO:=Lib.hid (show w4.rangeAt (w.heap.size+1) 0 [.int .i64 0,.int .i64 0,.int .i64 0,.int .i64 0,.int .i64 0,.int .i64 0,.int .i64 0,.int .i64 0,.slice none 0 0,.int .i64 0,.int .i64 0,.slice none 0 0,.slice none 0 0,.slice none 0 0,.slice none 0 0,.slice none 0 0,.slice none 0 0,.int .u8 (own r.c).kd,.int .i64 (own r.c).id,.int .i64 (own r.c).us,.int .i64 (own r.c).cl,.int .i64 (own r.c).a,.int .i64 (own r.c).b,.int .i64 (own r.c).c,.bool (own r.c).p,.bool (own r.c).q,.bool (own r.c).r,.bool (own r.c).tn,.int .i64 (own r.c).wa,.int .i64 (own r.c).pr,.bool (own r.c).he,.slice Y1 (own r.c).af.length cy1,.int .u8 (own r.c).st,.int .i64 (own r.c).ca,.int .i64 (own r.c).ci,.int .i64 (own r.c).b0,.int .i64 (own r.c).b1,.int .i64 (own r.c).b2,.int .i64 (own r.c).b3,.int .i64 (own r.c).b4,.int .i64 (own r.c).b5,.int .i64 (own r.c).fr,.int .i64 (own r.c).to,.int .i64 (own r.c).n,.bool (own r.c).we] from range_part (n:=45) HK.out.2 rfl)
  have HRC:=Lib.hid (show w4.rangeAt w.heap.size 0 [.int .i64 0,.int .i64 r.s.d0,.int .i64 r.s.d1,.int .i64 r.s.d2,.int .i64 r.s.bo,.int .i64 r.s.fr,.int .i64 r.s.tr,.int .i64 r.s.ag,.slice x.C r.s.cs.length x.cc,.int .i64 r.s.nw,.int .i64 r.s.nx,.slice x.J r.s.js.length x.cj,.slice x.P r.s.ps.length x.cp,.slice x.K r.s.ks.length x.ck,.slice x.D r.s.dn.length x.cd,.slice x.S r.s.sh.length x.cs,.slice x.U r.s.cu.length x.cu,.int .u8 r.c.kd,.int .i64 r.c.id,.int .i64 r.c.us,.int .i64 r.c.cl,.int .i64 r.c.a,.int .i64 r.c.b,.int .i64 r.c.c,.bool r.c.p,.bool r.c.q,.bool r.c.r,.bool r.c.tn,.int .i64 r.c.wa,.int .i64 r.c.pr,.bool r.c.he,.slice Y r.c.af.length cy,.int .u8 r.c.st,.int .i64 r.c.ca,.int .i64 r.c.ci,.int .i64 r.c.b0,.int .i64 r.c.b1,.int .i64 r.c.b2,.int .i64 r.c.b3,.int .i64 r.c.b4,.int .i64 r.c.b5,.int .i64 r.c.fr,.int .i64 r.c.to,.int .i64 r.c.n,.bool r.c.we] from range_part (n:=45) HK.out.1 rfl)
  go_wp2_with (first | (refine wpList_load_mid_g rfl 51 _ rfl _ _ rfl _ _ HRO.out Try.underlying51 rfl (by kernel_rfl) ?_) | (refine wpList_load_mid_g rfl 51 _ rfl _ _ rfl _ _ HRC.out Try.underlying51 rfl (by kernel_rfl) ?_))
  have hsame:=rsameA (⟨0,SV.z,own r.c⟩:RV) r SA.z x Y1 Y cy1 cy z_wf HW.out.1 (own_wf HW.out.2.1) HW.out.2.1 (top_own HW.out.2.2.1) HW.out.2.2.1 w4 StAt.z HI4.out.2 HJ4.out HI4.out.1
  rw [HL.out.2] at hsame
  refine hsame.mono ?_
  clear hsame
  rintro e w5 ⟨rfl,hB5⟩
  have HB5:=Lib.hid (below_up HB4.out hB5)
  have q0:w5.cell? ⟨W3.heap.size,0,none⟩=some (.slice X4 N c4):=keep_cell HQ0.out hB5
  have HR5:=Lib.hid (And.intro (show BytesAt w5 X4 (nB 0 ++ cmdB r.c) from BytesAt.up HR.out.1 hB5) HR.out.2)
  clear hB5 HRO HRC HQ0 q2
  cases e1:decide ((⟨0,SV.z,own r.c⟩:RV)=r)
  ·have HE:=Lib.hid (of_decide_eq_false e1)
   clear q0 e1
   go_wp2_with fail
   go_ret2
   exact ⟨Or.inr (Or.inl ⟨(fun h=>HE.out (HOK.out.1 h).2.2),rfl⟩),HB5.out⟩
  ·have HE:=Lib.hid (And.intro e0 (of_decide_eq_true e1))
   have HO:=Lib.hid (show okR r from HOK.out.2 ⟨HE.out.1,own_short HL.out.1 HE.out.2,HE.out.2⟩)
   clear e0 e1
   have HNN:=Lib.hid (show N=(recB r).length from by rw [← HN.out];rw [recB_cmd HL.out.2])
   by_cases hmany:65536 < N
   ·have hm2:(65536:Int) < (N:Int):=by omega
    go_wp2_with fail
    go_ret2
    exact ⟨Or.inr (Or.inr ⟨HO.out,by rw [← HNN.out];exact hmany,rfl⟩),HB5.out⟩
   ·have hm2:¬ (65536:Int) < (N:Int):=by omega
    go_wp2_with fail
    go_ret2
    exact ⟨Or.inl ⟨HO.out,by rw [← HNN.out];omega,_,_,_,rfl,HNN.out,HR5.out.2.1,HR5.out.2.2,by have:=HR5.out.1;rwa [← recB_cmd HL.out.2] at this⟩,HB5.out⟩
end Go.Proofs.Ytfdldbfjeamlcaa.RecWriteC
namespace Go.Proofs.Ytfdldbfjeamlcaa.RecWriteL
set_option maxRecDepth 100000
set_option maxHeartbeats 4000000
open Go.RowKit RecGuard Mem RecMem RecByte RecNum RecEach RecMath RecPort RecCmd RecCod RecCods RecCommand RecCmdJ RecEq RecJobs RecVal RecSame RecWr0 RecWrite RecOwn RecRecC RecWAt RecWFlat RecWListI RecWCls RecWJob RecWListK RecWListP RecWListE RecWListJ RecWState RecWOk RecWRec RecCmdL RecSameA RecWrite0
theorem wwriteL (r:RV) (x:SA) (Y:Option Addr) (cy:Nat) (hs:SWf r.s) (hc:CWf r.c) (hg:W64 r.g) (ht:RTop r) (hL:r.c.af.length≤17592186044416) (w:World) (hx:StAt w r.s x) (hI:IntsAt w Y r.c.af) (h0:r.g=0) (hn:¬ (own r.c).af.length≤1000) :
    Calls Try.prog 17 #[.agg #[.int .i64 r.g,.int .i64 r.s.d0,.int .i64 r.s.d1,.int .i64 r.s.d2,.int .i64 r.s.bo,.int .i64 r.s.fr,.int .i64 r.s.tr,.int .i64 r.s.ag,.slice x.C r.s.cs.length x.cc,.int .i64 r.s.nw,.int .i64 r.s.nx,.slice x.J r.s.js.length x.cj,.slice x.P r.s.ps.length x.cp,.slice x.K r.s.ks.length x.ck,.slice x.D r.s.dn.length x.cd,.slice x.S r.s.sh.length x.cs,.slice x.U r.s.cu.length x.cu,.int .u8 r.c.kd,.int .i64 r.c.id,.int .i64 r.c.us,.int .i64 r.c.cl,.int .i64 r.c.a,.int .i64 r.c.b,.int .i64 r.c.c,.bool r.c.p,.bool r.c.q,.bool r.c.r,.bool r.c.tn,.int .i64 r.c.wa,.int .i64 r.c.pr,.bool r.c.he,.slice Y r.c.af.length cy,.int .u8 r.c.st,.int .i64 r.c.ca,.int .i64 r.c.ci,.int .i64 r.c.b0,.int .i64 r.c.b1,.int .i64 r.c.b2,.int .i64 r.c.b3,.int .i64 r.c.b4,.int .i64 r.c.b5,.int .i64 r.c.fr,.int .i64 r.c.to,.int .i64 r.c.n,.bool r.c.we]] w fun e w' => WrPost r w e w':=by
 rw [h0]
 have HI:=Lib.hid (And.intro hI hx)
 have HW:=Lib.hid (And.intro hs (And.intro hc (And.intro ht hg)))
 clear hI hx hs hc ht hg
 go_enter Try.func17,Try.ntmps17
 go_upto_region 1 with fail
 have K00:=Lib.hid (Blk.new w 51 #[.int .i64 0,.int .i64 r.s.d0,.int .i64 r.s.d1,.int .i64 r.s.d2,.int .i64 r.s.bo,.int .i64 r.s.fr,.int .i64 r.s.tr,.int .i64 r.s.ag,.slice x.C r.s.cs.length x.cc,.int .i64 r.s.nw,.int .i64 r.s.nx,.slice x.J r.s.js.length x.cj,.slice x.P r.s.ps.length x.cp,.slice x.K r.s.ks.length x.ck,.slice x.D r.s.dn.length x.cd,.slice x.S r.s.sh.length x.cs,.slice x.U r.s.cu.length x.cu,.int .u8 r.c.kd,.int .i64 r.c.id,.int .i64 r.c.us,.int .i64 r.c.cl,.int .i64 r.c.a,.int .i64 r.c.b,.int .i64 r.c.c,.bool r.c.p,.bool r.c.q,.bool r.c.r,.bool r.c.tn,.int .i64 r.c.wa,.int .i64 r.c.pr,.bool r.c.he,.slice Y r.c.af.length cy,.int .u8 r.c.st,.int .i64 r.c.ca,.int .i64 r.c.ci,.int .i64 r.c.b0,.int .i64 r.c.b1,.int .i64 r.c.b2,.int .i64 r.c.b3,.int .i64 r.c.b4,.int .i64 r.c.b5,.int .i64 r.c.fr,.int .i64 r.c.to,.int .i64 r.c.n,.bool r.c.we])
 have HB0:=Lib.hid (below_alloc (o:=.cells #[.int .i64 0,.int .i64 r.s.d0,.int .i64 r.s.d1,.int .i64 r.s.d2,.int .i64 r.s.bo,.int .i64 r.s.fr,.int .i64 r.s.tr,.int .i64 r.s.ag,.slice x.C r.s.cs.length x.cc,.int .i64 r.s.nw,.int .i64 r.s.nx,.slice x.J r.s.js.length x.cj,.slice x.P r.s.ps.length x.cp,.slice x.K r.s.ks.length x.ck,.slice x.D r.s.dn.length x.cd,.slice x.S r.s.sh.length x.cs,.slice x.U r.s.cu.length x.cu,.int .u8 r.c.kd,.int .i64 r.c.id,.int .i64 r.c.us,.int .i64 r.c.cl,.int .i64 r.c.a,.int .i64 r.c.b,.int .i64 r.c.c,.bool r.c.p,.bool r.c.q,.bool r.c.r,.bool r.c.tn,.int .i64 r.c.wa,.int .i64 r.c.pr,.bool r.c.he,.slice Y r.c.af.length cy,.int .u8 r.c.st,.int .i64 r.c.ca,.int .i64 r.c.ci,.int .i64 r.c.b0,.int .i64 r.c.b1,.int .i64 r.c.b2,.int .i64 r.c.b3,.int .i64 r.c.b4,.int .i64 r.c.b5,.int .i64 r.c.fr,.int .i64 r.c.to,.int .i64 r.c.n,.bool r.c.we] 51) (Below.refl w.heap.size w))
 have hs0:(w.alloc (.cells #[.int .i64 0,.int .i64 r.s.d0,.int .i64 r.s.d1,.int .i64 r.s.d2,.int .i64 r.s.bo,.int .i64 r.s.fr,.int .i64 r.s.tr,.int .i64 r.s.ag,.slice x.C r.s.cs.length x.cc,.int .i64 r.s.nw,.int .i64 r.s.nx,.slice x.J r.s.js.length x.cj,.slice x.P r.s.ps.length x.cp,.slice x.K r.s.ks.length x.ck,.slice x.D r.s.dn.length x.cd,.slice x.S r.s.sh.length x.cs,.slice x.U r.s.cu.length x.cu,.int .u8 r.c.kd,.int .i64 r.c.id,.int .i64 r.c.us,.int .i64 r.c.cl,.int .i64 r.c.a,.int .i64 r.c.b,.int .i64 r.c.c,.bool r.c.p,.bool r.c.q,.bool r.c.r,.bool r.c.tn,.int .i64 r.c.wa,.int .i64 r.c.pr,.bool r.c.he,.slice Y r.c.af.length cy,.int .u8 r.c.st,.int .i64 r.c.ca,.int .i64 r.c.ci,.int .i64 r.c.b0,.int .i64 r.c.b1,.int .i64 r.c.b2,.int .i64 r.c.b3,.int .i64 r.c.b4,.int .i64 r.c.b5,.int .i64 r.c.fr,.int .i64 r.c.to,.int .i64 r.c.n,.bool r.c.we] 51)).heap.size=w.heap.size+1:=by simp
 have hg0:=K00.out.cell 0
 generalize w.alloc (.cells #[.int .i64 0,.int .i64 r.s.d0,.int .i64 r.s.d1,.int .i64 r.s.d2,.int .i64 r.s.bo,.int .i64 r.s.fr,.int .i64 r.s.tr,.int .i64 r.s.ag,.slice x.C r.s.cs.length x.cc,.int .i64 r.s.nw,.int .i64 r.s.nx,.slice x.J r.s.js.length x.cj,.slice x.P r.s.ps.length x.cp,.slice x.K r.s.ks.length x.ck,.slice x.D r.s.dn.length x.cd,.slice x.S r.s.sh.length x.cs,.slice x.U r.s.cu.length x.cu,.int .u8 r.c.kd,.int .i64 r.c.id,.int .i64 r.c.us,.int .i64 r.c.cl,.int .i64 r.c.a,.int .i64 r.c.b,.int .i64 r.c.c,.bool r.c.p,.bool r.c.q,.bool r.c.r,.bool r.c.tn,.int .i64 r.c.wa,.int .i64 r.c.pr,.bool r.c.he,.slice Y r.c.af.length cy,.int .u8 r.c.st,.int .i64 r.c.ca,.int .i64 r.c.ci,.int .i64 r.c.b0,.int .i64 r.c.b1,.int .i64 r.c.b2,.int .i64 r.c.b3,.int .i64 r.c.b4,.int .i64 r.c.b5,.int .i64 r.c.fr,.int .i64 r.c.to,.int .i64 r.c.n,.bool r.c.we] 51)=W0 at *
 have k1:Blk (World.setCells (W0.alloc (.cells Sq.zzR 51)) (w.heap.size+1) 0 [.int .i64 0,.int .i64 0,.int .i64 0,.int .i64 0,.int .i64 0,.int .i64 0,.int .i64 0,.int .i64 0,.slice none 0 0,.int .i64 0,.int .i64 0,.slice none 0 0,.slice none 0 0,.slice none 0 0,.slice none 0 0,.slice none 0 0,.slice none 0 0,.int .u8 0,.int .i64 0,.int .i64 0,.int .i64 0,.int .i64 0,.int .i64 0,.int .i64 0,.bool false,.bool false,.bool false,.bool false,.int .i64 0,.int .i64 0,.bool false,.slice none 0 0,.int .u8 0,.int .i64 0,.int .i64 0,.int .i64 0,.int .i64 0,.int .i64 0,.int .i64 0,.int .i64 0,.int .i64 0,.int .i64 0,.int .i64 0,.int .i64 0,.bool false]) (w.heap.size+1) 51 (List.toArray [.int .i64 0,.int .i64 0,.int .i64 0,.int .i64 0,.int .i64 0,.int .i64 0,.int .i64 0,.int .i64 0,.slice none 0 0,.int .i64 0,.int .i64 0,.slice none 0 0,.slice none 0 0,.slice none 0 0,.slice none 0 0,.slice none 0 0,.slice none 0 0,.int .u8 0,.int .i64 0,.int .i64 0,.int .i64 0,.int .i64 0,.int .i64 0,.int .i64 0,.bool false,.bool false,.bool false,.bool false,.int .i64 0,.int .i64 0,.bool false,.slice none 0 0,.int .u8 0,.int .i64 0,.int .i64 0,.int .i64 0,.int .i64 0,.int .i64 0,.int .i64 0,.int .i64 0,.int .i64 0,.int .i64 0,.int .i64 0,.int .i64 0,.bool false]):=blk_all (blk_new_of hs0 51 Sq.zzR) set_zrec
 have k0:Blk (World.setCells (W0.alloc (.cells Sq.zzR 51)) (w.heap.size+1) 0 [.int .i64 0,.int .i64 0,.int .i64 0,.int .i64 0,.int .i64 0,.int .i64 0,.int .i64 0,.int .i64 0,.slice none 0 0,.int .i64 0,.int .i64 0,.slice none 0 0,.slice none 0 0,.slice none 0 0,.slice none 0 0,.slice none 0 0,.slice none 0 0,.int .u8 0,.int .i64 0,.int .i64 0,.int .i64 0,.int .i64 0,.int .i64 0,.int .i64 0,.bool false,.bool false,.bool false,.bool false,.int .i64 0,.int .i64 0,.bool false,.slice none 0 0,.int .u8 0,.int .i64 0,.int .i64 0,.int .i64 0,.int .i64 0,.int .i64 0,.int .i64 0,.int .i64 0,.int .i64 0,.int .i64 0,.int .i64 0,.int .i64 0,.bool false]) w.heap.size 51 #[.int .i64 0,.int .i64 r.s.d0,.int .i64 r.s.d1,.int .i64 r.s.d2,.int .i64 r.s.bo,.int .i64 r.s.fr,.int .i64 r.s.tr,.int .i64 r.s.ag,.slice x.C r.s.cs.length x.cc,.int .i64 r.s.nw,.int .i64 r.s.nx,.slice x.J r.s.js.length x.cj,.slice x.P r.s.ps.length x.cp,.slice x.K r.s.ks.length x.ck,.slice x.D r.s.dn.length x.cd,.slice x.S r.s.sh.length x.cs,.slice x.U r.s.cu.length x.cu,.int .u8 r.c.kd,.int .i64 r.c.id,.int .i64 r.c.us,.int .i64 r.c.cl,.int .i64 r.c.a,.int .i64 r.c.b,.int .i64 r.c.c,.bool r.c.p,.bool r.c.q,.bool r.c.r,.bool r.c.tn,.int .i64 r.c.wa,.int .i64 r.c.pr,.bool r.c.he,.slice Y r.c.af.length cy,.int .u8 r.c.st,.int .i64 r.c.ca,.int .i64 r.c.ci,.int .i64 r.c.b0,.int .i64 r.c.b1,.int .i64 r.c.b2,.int .i64 r.c.b3,.int .i64 r.c.b4,.int .i64 r.c.b5,.int .i64 r.c.fr,.int .i64 r.c.to,.int .i64 r.c.n,.bool r.c.we]:=blk_sets_far (by omega) (K00.out.alloc _)
 have kB:Below w.heap.size w (World.setCells (W0.alloc (.cells Sq.zzR 51)) (w.heap.size+1) 0 [.int .i64 0,.int .i64 0,.int .i64 0,.int .i64 0,.int .i64 0,.int .i64 0,.int .i64 0,.int .i64 0,.slice none 0 0,.int .i64 0,.int .i64 0,.slice none 0 0,.slice none 0 0,.slice none 0 0,.slice none 0 0,.slice none 0 0,.slice none 0 0,.int .u8 0,.int .i64 0,.int .i64 0,.int .i64 0,.int .i64 0,.int .i64 0,.int .i64 0,.bool false,.bool false,.bool false,.bool false,.int .i64 0,.int .i64 0,.bool false,.slice none 0 0,.int .u8 0,.int .i64 0,.int .i64 0,.int .i64 0,.int .i64 0,.int .i64 0,.int .i64 0,.int .i64 0,.int .i64 0,.int .i64 0,.int .i64 0,.int .i64 0,.bool false]):=below_sets (by omega) (below_alloc HB0.out)
 go_upto_region 2 with (first | (refine wpList_store_mid rfl 51 _ _ rfl (w.heap.size+1) 0 Sq.zzR rfl rfl (there_of (blk_new_of hs0 51 Sq.zzR) (Nat.le_of_ble_eq_true rfl)) (by kernel_rfl) (by kernel_rfl) ?_;simp only [List.toList_toArray];generalize World.setCells _ _ _ _=WB at *;(try simp only [Act.put])))
 have K0:=Lib.hid k0
 have K1:=Lib.hid k1
 have HB:=Lib.hid kB
 have hgB:WB.cell? ⟨w.heap.size,0,none⟩=some (.int .i64 0):=K0.out.cell 0
 clear k0 k1 kB hg0 hs0 K00 HB0
 have HIB:=Lib.hid (HI.out.1.up HB.out)
 have HRC:=Lib.hid (show WB.rangeAt w.heap.size 17 (cL r.c Y cy) from range_part (n:=28) K0.out rfl)
 go_wp2_with (first | (refine wpList_load_mid rfl 34 _ rfl _ _ rfl _ _ HRC.out Try.underlying34 rfl (by kernel_rfl) ?_))
 refine (ccommandL r.c Y cy hL _ HIB.out).mono ?_
 rintro e w1 ⟨Y1,cy1,rfl,hcy1,hI1,hB1,hY1⟩
 have K0b:=Lib.hid (K0.out.below hB1 K0.out.lt)
 have K1b:=Lib.hid (K1.out.below hB1 K1.out.lt)
 have HBb:=Lib.hid (below_up HB.out hB1)
 have hs1:w.heap.size+1 < WB.heap.size:=K1.out.lt
 have HI2:=Lib.hid (And.intro hI1 (show ∀ b o,Y1=some ⟨b,o,none⟩→b≠w.heap.size+1 from fun b o e=>by have:=hY1 b o e;omega))
 clear hI1 hB1 hY1 K0 K1 HB HRC HIB hgB
 have k1:Blk (World.setCells w1 (w.heap.size+1) 17 [.int .u8 (own r.c).kd,.int .i64 (own r.c).id,.int .i64 (own r.c).us,.int .i64 (own r.c).cl,.int .i64 (own r.c).a,.int .i64 (own r.c).b,.int .i64 (own r.c).c,.bool (own r.c).p,.bool (own r.c).q,.bool (own r.c).r,.bool (own r.c).tn,.int .i64 (own r.c).wa,.int .i64 (own r.c).pr,.bool (own r.c).he,.slice Y1 (own r.c).af.length cy1,.int .u8 (own r.c).st,.int .i64 (own r.c).ca,.int .i64 (own r.c).ci,.int .i64 (own r.c).b0,.int .i64 (own r.c).b1,.int .i64 (own r.c).b2,.int .i64 (own r.c).b3,.int .i64 (own r.c).b4,.int .i64 (own r.c).b5,.int .i64 (own r.c).fr,.int .i64 (own r.c).to,.int .i64 (own r.c).n,.bool (own r.c).we]) (w.heap.size+1) 51 (recA (own r.c) Y1 cy1):=(by have:=blk_setA (i:=17) (vs:=[.int .u8 (own r.c).kd,.int .i64 (own r.c).id,.int .i64 (own r.c).us,.int .i64 (own r.c).cl,.int .i64 (own r.c).a,.int .i64 (own r.c).b,.int .i64 (own r.c).c,.bool (own r.c).p,.bool (own r.c).q,.bool (own r.c).r,.bool (own r.c).tn,.int .i64 (own r.c).wa,.int .i64 (own r.c).pr,.bool (own r.c).he,.slice Y1 (own r.c).af.length cy1,.int .u8 (own r.c).st,.int .i64 (own r.c).ca,.int .i64 (own r.c).ci,.int .i64 (own r.c).b0,.int .i64 (own r.c).b1,.int .i64 (own r.c).b2,.int .i64 (own r.c).b3,.int .i64 (own r.c).b4,.int .i64 (own r.c).b5,.int .i64 (own r.c).fr,.int .i64 (own r.c).to,.int .i64 (own r.c).n,.bool (own r.c).we]) K1b.out;rwa [set_rec] at this)
 have k0:Blk (World.setCells w1 (w.heap.size+1) 17 [.int .u8 (own r.c).kd,.int .i64 (own r.c).id,.int .i64 (own r.c).us,.int .i64 (own r.c).cl,.int .i64 (own r.c).a,.int .i64 (own r.c).b,.int .i64 (own r.c).c,.bool (own r.c).p,.bool (own r.c).q,.bool (own r.c).r,.bool (own r.c).tn,.int .i64 (own r.c).wa,.int .i64 (own r.c).pr,.bool (own r.c).he,.slice Y1 (own r.c).af.length cy1,.int .u8 (own r.c).st,.int .i64 (own r.c).ca,.int .i64 (own r.c).ci,.int .i64 (own r.c).b0,.int .i64 (own r.c).b1,.int .i64 (own r.c).b2,.int .i64 (own r.c).b3,.int .i64 (own r.c).b4,.int .i64 (own r.c).b5,.int .i64 (own r.c).fr,.int .i64 (own r.c).to,.int .i64 (own r.c).n,.bool (own r.c).we]) w.heap.size 51 #[.int .i64 0,.int .i64 r.s.d0,.int .i64 r.s.d1,.int .i64 r.s.d2,.int .i64 r.s.bo,.int .i64 r.s.fr,.int .i64 r.s.tr,.int .i64 r.s.ag,.slice x.C r.s.cs.length x.cc,.int .i64 r.s.nw,.int .i64 r.s.nx,.slice x.J r.s.js.length x.cj,.slice x.P r.s.ps.length x.cp,.slice x.K r.s.ks.length x.ck,.slice x.D r.s.dn.length x.cd,.slice x.S r.s.sh.length x.cs,.slice x.U r.s.cu.length x.cu,.int .u8 r.c.kd,.int .i64 r.c.id,.int .i64 r.c.us,.int .i64 r.c.cl,.int .i64 r.c.a,.int .i64 r.c.b,.int .i64 r.c.c,.bool r.c.p,.bool r.c.q,.bool r.c.r,.bool r.c.tn,.int .i64 r.c.wa,.int .i64 r.c.pr,.bool r.c.he,.slice Y r.c.af.length cy,.int .u8 r.c.st,.int .i64 r.c.ca,.int .i64 r.c.ci,.int .i64 r.c.b0,.int .i64 r.c.b1,.int .i64 r.c.b2,.int .i64 r.c.b3,.int .i64 r.c.b4,.int .i64 r.c.b5,.int .i64 r.c.fr,.int .i64 r.c.to,.int .i64 r.c.n,.bool r.c.we]:=blk_sets_far (by omega) K0b.out
 have kB:Below w.heap.size w (World.setCells w1 (w.heap.size+1) 17 [.int .u8 (own r.c).kd,.int .i64 (own r.c).id,.int .i64 (own r.c).us,.int .i64 (own r.c).cl,.int .i64 (own r.c).a,.int .i64 (own r.c).b,.int .i64 (own r.c).c,.bool (own r.c).p,.bool (own r.c).q,.bool (own r.c).r,.bool (own r.c).tn,.int .i64 (own r.c).wa,.int .i64 (own r.c).pr,.bool (own r.c).he,.slice Y1 (own r.c).af.length cy1,.int .u8 (own r.c).st,.int .i64 (own r.c).ca,.int .i64 (own r.c).ci,.int .i64 (own r.c).b0,.int .i64 (own r.c).b1,.int .i64 (own r.c).b2,.int .i64 (own r.c).b3,.int .i64 (own r.c).b4,.int .i64 (own r.c).b5,.int .i64 (own r.c).fr,.int .i64 (own r.c).to,.int .i64 (own r.c).n,.bool (own r.c).we]):=below_sets (by omega) HBb.out
 have kI:IntsAt (World.setCells w1 (w.heap.size+1) 17 [.int .u8 (own r.c).kd,.int .i64 (own r.c).id,.int .i64 (own r.c).us,.int .i64 (own r.c).cl,.int .i64 (own r.c).a,.int .i64 (own r.c).b,.int .i64 (own r.c).c,.bool (own r.c).p,.bool (own r.c).q,.bool (own r.c).r,.bool (own r.c).tn,.int .i64 (own r.c).wa,.int .i64 (own r.c).pr,.bool (own r.c).he,.slice Y1 (own r.c).af.length cy1,.int .u8 (own r.c).st,.int .i64 (own r.c).ca,.int .i64 (own r.c).ci,.int .i64 (own r.c).b0,.int .i64 (own r.c).b1,.int .i64 (own r.c).b2,.int .i64 (own r.c).b3,.int .i64 (own r.c).b4,.int .i64 (own r.c).b5,.int .i64 (own r.c).fr,.int .i64 (own r.c).to,.int .i64 (own r.c).n,.bool (own r.c).we]) Y1 (own r.c).af:=ints_sets2 HI2.out.1 HI2.out.2
 go_upto_region 5 with (first | (refine wpList_store_mid rfl 34 _ _ rfl (w.heap.size+1) 17 (List.toArray [.int .u8 (own r.c).kd,.int .i64 (own r.c).id,.int .i64 (own r.c).us,.int .i64 (own r.c).cl,.int .i64 (own r.c).a,.int .i64 (own r.c).b,.int .i64 (own r.c).c,.bool (own r.c).p,.bool (own r.c).q,.bool (own r.c).r,.bool (own r.c).tn,.int .i64 (own r.c).wa,.int .i64 (own r.c).pr,.bool (own r.c).he,.slice Y1 (own r.c).af.length cy1,.int .u8 (own r.c).st,.int .i64 (own r.c).ca,.int .i64 (own r.c).ci,.int .i64 (own r.c).b0,.int .i64 (own r.c).b1,.int .i64 (own r.c).b2,.int .i64 (own r.c).b3,.int .i64 (own r.c).b4,.int .i64 (own r.c).b5,.int .i64 (own r.c).fr,.int .i64 (own r.c).to,.int .i64 (own r.c).n,.bool (own r.c).we]) rfl rfl (there_of K1b.out (Nat.le_of_ble_eq_true rfl)) (by kernel_rfl) (by kernel_rfl) ?_;simp only [List.toList_toArray];generalize World.setCells _ _ _ _=W3 at *;(try simp only [Act.put])))
 have K0:=Lib.hid k0
 have K1:=Lib.hid k1
 have HB:=Lib.hid kB
 have HIJ:=Lib.hid kI
 clear k0 k1 kB kI K0b K1b HBb HI2
 go_wp2_with fail
 obtain ⟨hk1,haf,hk2⟩:=own_af hn
 refine (wrecordL W3.heap.size (w.heap.size+1) (.slice none 0 0) (own r.c) Y1 cy1 hk2 hcy1 (by have:=(top_own HW.out.2.2.1).F;exact this) (own_wf HW.out.2.1) _ port_new (K1.out.alloc _) (far_new K1.out.lt) (far_ints (ints_new HIJ.out))).mono ?_
 rintro e w4 ⟨⟨rr,rfl⟩,v4,hP4,hF4⟩
 rw [ask_long hn] at hP4
 have hB4:Below W3.heap.size (W3.alloc (.cells #[.slice none 0 0,.bool false,.bool false] PT)) w4:=hF4.below (Nat.le_refl _) (by simp [Value.ownBlock]) (by simp)
 have hB34:Below W3.heap.size W3 w4:=(below_alloc (Below.refl _ W3)).trans hB4
 have k0:=K0.out.below hB34 K0.out.lt
 have k1:=K1.out.below hB34 K1.out.lt
 have HB4:=Lib.hid (below_up HB.out hB34)
 have HOK:=Lib.hid (okR_cmd h0 HW.out.2.1)
 have HL:=Lib.hid (And.intro hn haf)
 have q2:w4.cell? ⟨W3.heap.size,2,none⟩=some (.bool true):=hP4.1.cell 2
 clear hn h0 haf hk1 hk2 hP4 hF4 hB4 hB34 k0 k1 K0 K1 HB HIJ
 go_wp2_with fail
 go_ret2
 exact ⟨Or.inr (Or.inl ⟨fun h=>HL.out.1 (by rw [HL.out.2];exact (HOK.out.1 h).2.1),rfl⟩),HB4.out⟩
end Go.Proofs.Ytfdldbfjeamlcaa.RecWriteL
namespace Go.Proofs.Ytfdldbfjeamlcaa.RecWriteS
set_option maxRecDepth 100000
set_option maxHeartbeats 4000000
open Go.RowKit RecGuard Mem RecMem RecByte RecNum RecEach RecMath RecPort RecCmd RecCod RecCods RecCommand RecCmdJ RecEq RecJobs RecVal RecSame RecWr0 RecWrite RecOwn RecRecC RecWAt RecWFlat RecWListI RecWCls RecWJob RecWListK RecWListP RecWListE RecWListJ RecWState RecWOk RecWRec RecCmdL RecSameA RecWrite0
theorem wwriteS (r:RV) (x:SA) (Y:Option Addr) (cy:Nat) (hs:SWf r.s) (hc:CWf r.c) (hg:W64 r.g) (ht:RTop r) (hL:r.c.af.length≤17592186044416) (w:World) (hx:StAt w r.s x) (hI:IntsAt w Y r.c.af) (h0:r.g≠0) :
    Calls Try.prog 17 #[.agg #[.int .i64 r.g,.int .i64 r.s.d0,.int .i64 r.s.d1,.int .i64 r.s.d2,.int .i64 r.s.bo,.int .i64 r.s.fr,.int .i64 r.s.tr,.int .i64 r.s.ag,.slice x.C r.s.cs.length x.cc,.int .i64 r.s.nw,.int .i64 r.s.nx,.slice x.J r.s.js.length x.cj,.slice x.P r.s.ps.length x.cp,.slice x.K r.s.ks.length x.ck,.slice x.D r.s.dn.length x.cd,.slice x.S r.s.sh.length x.cs,.slice x.U r.s.cu.length x.cu,.int .u8 r.c.kd,.int .i64 r.c.id,.int .i64 r.c.us,.int .i64 r.c.cl,.int .i64 r.c.a,.int .i64 r.c.b,.int .i64 r.c.c,.bool r.c.p,.bool r.c.q,.bool r.c.r,.bool r.c.tn,.int .i64 r.c.wa,.int .i64 r.c.pr,.bool r.c.he,.slice Y r.c.af.length cy,.int .u8 r.c.st,.int .i64 r.c.ca,.int .i64 r.c.ci,.int .i64 r.c.b0,.int .i64 r.c.b1,.int .i64 r.c.b2,.int .i64 r.c.b3,.int .i64 r.c.b4,.int .i64 r.c.b5,.int .i64 r.c.fr,.int .i64 r.c.to,.int .i64 r.c.n,.bool r.c.we]] w fun e w' => WrPost r w e w':=by
 have HI:=Lib.hid (And.intro hI hx)
 have HW:=Lib.hid (And.intro hs (And.intro hc (And.intro ht hg)))
 clear hI hx hs hc ht hg
 go_enter Try.func17,Try.ntmps17
 go_upto_region 1 with fail
 have K00:=Lib.hid (Blk.new w 51 (rL r x Y cy).toArray)
 have HB0:=Lib.hid (below_alloc (o:=.cells (rL r x Y cy).toArray 51) (Below.refl w.heap.size w))
 have hs0:(w.alloc (.cells (rL r x Y cy).toArray 51)).heap.size=w.heap.size+1:=by simp
 have hg0:=K00.out.cell 0
 generalize w.alloc (.cells (rL r x Y cy).toArray 51)=W0 at *
 have k1:Blk (World.setCells (W0.alloc (.cells Sq.zzR 51)) (w.heap.size+1) 0 [.int .i64 r.g,.int .i64 0,.int .i64 0,.int .i64 0,.int .i64 0,.int .i64 0,.int .i64 0,.int .i64 0,.slice none 0 0,.int .i64 0,.int .i64 0,.slice none 0 0,.slice none 0 0,.slice none 0 0,.slice none 0 0,.slice none 0 0,.slice none 0 0,.int .u8 0,.int .i64 0,.int .i64 0,.int .i64 0,.int .i64 0,.int .i64 0,.int .i64 0,.bool false,.bool false,.bool false,.bool false,.int .i64 0,.int .i64 0,.bool false,.slice none 0 0,.int .u8 0,.int .i64 0,.int .i64 0,.int .i64 0,.int .i64 0,.int .i64 0,.int .i64 0,.int .i64 0,.int .i64 0,.int .i64 0,.int .i64 0,.int .i64 0,.bool false]) (w.heap.size+1) 51 (List.toArray [.int .i64 r.g,.int .i64 0,.int .i64 0,.int .i64 0,.int .i64 0,.int .i64 0,.int .i64 0,.int .i64 0,.slice none 0 0,.int .i64 0,.int .i64 0,.slice none 0 0,.slice none 0 0,.slice none 0 0,.slice none 0 0,.slice none 0 0,.slice none 0 0,.int .u8 0,.int .i64 0,.int .i64 0,.int .i64 0,.int .i64 0,.int .i64 0,.int .i64 0,.bool false,.bool false,.bool false,.bool false,.int .i64 0,.int .i64 0,.bool false,.slice none 0 0,.int .u8 0,.int .i64 0,.int .i64 0,.int .i64 0,.int .i64 0,.int .i64 0,.int .i64 0,.int .i64 0,.int .i64 0,.int .i64 0,.int .i64 0,.int .i64 0,.bool false]):=blk_all (blk_new_of hs0 51 Sq.zzR) (set_zg r)
 have k0:Blk (World.setCells (W0.alloc (.cells Sq.zzR 51)) (w.heap.size+1) 0 [.int .i64 r.g,.int .i64 0,.int .i64 0,.int .i64 0,.int .i64 0,.int .i64 0,.int .i64 0,.int .i64 0,.slice none 0 0,.int .i64 0,.int .i64 0,.slice none 0 0,.slice none 0 0,.slice none 0 0,.slice none 0 0,.slice none 0 0,.slice none 0 0,.int .u8 0,.int .i64 0,.int .i64 0,.int .i64 0,.int .i64 0,.int .i64 0,.int .i64 0,.bool false,.bool false,.bool false,.bool false,.int .i64 0,.int .i64 0,.bool false,.slice none 0 0,.int .u8 0,.int .i64 0,.int .i64 0,.int .i64 0,.int .i64 0,.int .i64 0,.int .i64 0,.int .i64 0,.int .i64 0,.int .i64 0,.int .i64 0,.int .i64 0,.bool false]) w.heap.size 51 (rL r x Y cy).toArray:=blk_sets_far (by omega) (K00.out.alloc _)
 have kB:Below w.heap.size w (World.setCells (W0.alloc (.cells Sq.zzR 51)) (w.heap.size+1) 0 [.int .i64 r.g,.int .i64 0,.int .i64 0,.int .i64 0,.int .i64 0,.int .i64 0,.int .i64 0,.int .i64 0,.slice none 0 0,.int .i64 0,.int .i64 0,.slice none 0 0,.slice none 0 0,.slice none 0 0,.slice none 0 0,.slice none 0 0,.slice none 0 0,.int .u8 0,.int .i64 0,.int .i64 0,.int .i64 0,.int .i64 0,.int .i64 0,.int .i64 0,.bool false,.bool false,.bool false,.bool false,.int .i64 0,.int .i64 0,.bool false,.slice none 0 0,.int .u8 0,.int .i64 0,.int .i64 0,.int .i64 0,.int .i64 0,.int .i64 0,.int .i64 0,.int .i64 0,.int .i64 0,.int .i64 0,.int .i64 0,.int .i64 0,.bool false]):=below_sets (by omega) (below_alloc HB0.out)
 go_upto_region 2 with (first | (refine wpList_store_mid rfl 51 _ _ rfl (w.heap.size+1) 0 (List.toArray [.int .i64 r.g,.int .i64 0,.int .i64 0,.int .i64 0,.int .i64 0,.int .i64 0,.int .i64 0,.int .i64 0,.slice none 0 0,.int .i64 0,.int .i64 0,.slice none 0 0,.slice none 0 0,.slice none 0 0,.slice none 0 0,.slice none 0 0,.slice none 0 0,.int .u8 0,.int .i64 0,.int .i64 0,.int .i64 0,.int .i64 0,.int .i64 0,.int .i64 0,.bool false,.bool false,.bool false,.bool false,.int .i64 0,.int .i64 0,.bool false,.slice none 0 0,.int .u8 0,.int .i64 0,.int .i64 0,.int .i64 0,.int .i64 0,.int .i64 0,.int .i64 0,.int .i64 0,.int .i64 0,.int .i64 0,.int .i64 0,.int .i64 0,.bool false]) rfl rfl (there_of (blk_new_of hs0 51 Sq.zzR) (Nat.le_of_ble_eq_true rfl)) (by kernel_rfl) (by kernel_rfl) ?_;simp only [List.toList_toArray];generalize World.setCells _ _ _ _=WB at *;(try simp only [Act.put])))
 have K0:=Lib.hid k0
 have K1:=Lib.hid k1
 have HB:=Lib.hid kB
 have hgB:WB.cell? ⟨w.heap.size,0,none⟩=some (.int .i64 r.g):=K0.out.cell 0
 clear k0 k1 kB hg0 hs0 K00 HB0
 have hne:(r.g == 0)=false:=beq_eq_false_iff_ne.2 h0
 have HRS:=Lib.hid (show WB.rangeAt w.heap.size 1 (sL r.s x) from range_part (n:=16) K0.out rfl)
 have HH:=Lib.hid h0
 clear h0
 have k1:Blk (World.setCells WB (w.heap.size+1) 1 (sL r.s x)) (w.heap.size+1) 51 (List.toArray [.int .i64 r.g,.int .i64 r.s.d0,.int .i64 r.s.d1,.int .i64 r.s.d2,.int .i64 r.s.bo,.int .i64 r.s.fr,.int .i64 r.s.tr,.int .i64 r.s.ag,.slice x.C r.s.cs.length x.cc,.int .i64 r.s.nw,.int .i64 r.s.nx,.slice x.J r.s.js.length x.cj,.slice x.P r.s.ps.length x.cp,.slice x.K r.s.ks.length x.ck,.slice x.D r.s.dn.length x.cd,.slice x.S r.s.sh.length x.cs,.slice x.U r.s.cu.length x.cu,.int .u8 0,.int .i64 0,.int .i64 0,.int .i64 0,.int .i64 0,.int .i64 0,.int .i64 0,.bool false,.bool false,.bool false,.bool false,.int .i64 0,.int .i64 0,.bool false,.slice none 0 0,.int .u8 0,.int .i64 0,.int .i64 0,.int .i64 0,.int .i64 0,.int .i64 0,.int .i64 0,.int .i64 0,.int .i64 0,.int .i64 0,.int .i64 0,.int .i64 0,.bool false]):=(by have:=blk_setA (i:=1) (vs:=(sL r.s x)) K1.out;rwa [set_zs] at this)
 have k0:Blk (World.setCells WB (w.heap.size+1) 1 (sL r.s x)) w.heap.size 51 (rL r x Y cy).toArray:=blk_sets_far (by omega) K0.out
 have kB:Below w.heap.size w (World.setCells WB (w.heap.size+1) 1 (sL r.s x)):=below_sets (by omega) HB.out
 have K1b:=Lib.hid K1.out
 clear K0 K1 HB
 go_upto_region 5 with (first | (refine wpList_load_mid rfl 49 _ rfl _ _ rfl _ _ HRS.out Try.underlying49 rfl (by kernel_rfl) ?_) | (refine wpList_store_mid rfl 49 _ _ rfl (w.heap.size+1) 1 (List.toArray (sL r.s x)) rfl rfl (there_of K1b.out (Nat.le_of_ble_eq_true rfl)) (by kernel_rfl) (by kernel_rfl) ?_;simp only [List.toList_toArray];generalize World.setCells _ _ _ _=W3 at *;(try simp only [Act.put])))
 have K0:=Lib.hid k0
 have K1:=Lib.hid k1
 have HB:=Lib.hid kB
 have HIJ:=Lib.hid (HI.out.2.up HB.out)
 clear k0 k1 kB K1b HRS hgB
 go_wp2_with fail
 refine (wrecordS W3.heap.size (w.heap.size+1) (.slice none 0 0) r.g r.s x HW.out.2.2.2 HH.out HW.out.1 (top_of HW.out.2.2.1) (cap_of HIJ.out) _ port_new (WAt.blk (K1.out.alloc _) (far_new K1.out.lt)) (st_new HIJ.out (top_of HW.out.2.2.1))).mono ?_
 rintro e w4 ⟨⟨rr,rfl⟩,v4,hP4,hF4⟩
 have hP4:PW w4 W3.heap.size v4 (nB r.g ++ stateE r.s) (!(genO r.g && stateO r.s)):=hP4
 have hB4:Below W3.heap.size (W3.alloc (.cells #[.slice none 0 0,.bool false,.bool false] PT)) w4:=hF4.below (Nat.le_refl _) (by simp [Value.ownBlock]) (by simp)
 have hB34:Below W3.heap.size W3 w4:=(below_alloc (Below.refl _ W3)).trans hB4
 have k0:=K0.out.below hB34 K0.out.lt
 have k1:=K1.out.below hB34 K1.out.lt
 have HB4:=Lib.hid (below_up HB.out hB34)
 have HI4:=Lib.hid (And.intro (HI.out.1.up HB4.out) (HI.out.2.up HB4.out))
 have HOK:=Lib.hid (okR_state HH.out HW.out.1)
 generalize hN:(nB r.g ++ stateE r.s).length=N at *
 obtain ⟨X4,c4,rfl⟩:=own_form hP4.2.1
 have hcap:=row_cap hP4.2.1
 rw [hN] at hcap
 have q2:w4.cell? ⟨W3.heap.size,2,none⟩=some (.bool (!(genO r.g && stateO r.s))):=hP4.1.cell 2
 have HQ0:=Lib.hid (show w4.cell? ⟨W3.heap.size,0,none⟩=some (.slice X4 N c4) from by rw [← hN];exact hP4.1.cell 0)
 have HR:=Lib.hid (And.intro (Reads.of_own hP4.2.1) hcap)
 have HN:=Lib.hid hN
 have HK:=Lib.hid (And.intro k0 k1)
 clear hP4 hF4 hB4 hB34 k0 k1 K0 K1 HB HIJ hN hcap
 cases e0:(genO r.g && stateO r.s)
 ·have q2:w4.cell? ⟨W3.heap.size,2,none⟩=some (.bool true):=by rw [q2];rw [e0];rfl
  go_wp2_with fail
  go_ret2
  exact ⟨Or.inr (Or.inl ⟨(fun h=>by have:=(HOK.out.1 h).1;rw [e0] at this;cases this),rfl⟩),HB4.out⟩
 ·have q2:w4.cell? ⟨W3.heap.size,2,none⟩=some (.bool false):=by rw [q2];rw [e0];rfl
  have HRO:=Lib.hid (show w4.rangeAt (w.heap.size+1) 0 [.int .i64 r.g,.int .i64 r.s.d0,.int .i64 r.s.d1,.int .i64 r.s.d2,.int .i64 r.s.bo,.int .i64 r.s.fr,.int .i64 r.s.tr,.int .i64 r.s.ag,.slice x.C r.s.cs.length x.cc,.int .i64 r.s.nw,.int .i64 r.s.nx,.slice x.J r.s.js.length x.cj,.slice x.P r.s.ps.length x.cp,.slice x.K r.s.ks.length x.ck,.slice x.D r.s.dn.length x.cd,.slice x.S r.s.sh.length x.cs,.slice x.U r.s.cu.length x.cu,.int .u8 0,.int .i64 0,.int .i64 0,.int .i64 0,.int .i64 0,.int .i64 0,.int .i64 0,.bool false,.bool false,.bool false,.bool false,.int .i64 0,.int .i64 0,.bool false,.slice none 0 0,.int .u8 0,.int .i64 0,.int .i64 0,.int .i64 0,.int .i64 0,.int .i64 0,.int .i64 0,.int .i64 0,.int .i64 0,.int .i64 0,.int .i64 0,.int .i64 0,.bool false] from range_part (n:=45) HK.out.2 rfl)
  have HRC:=Lib.hid (show w4.rangeAt w.heap.size 0 (rL r x Y cy) from range_part (n:=45) HK.out.1 rfl)
  go_wp2_with (first | (refine wpList_load_mid_g rfl 51 _ rfl _ _ rfl _ _ HRO.out Try.underlying51 rfl (by kernel_rfl) ?_) | (refine wpList_load_mid_g rfl 51 _ rfl _ _ rfl _ _ HRC.out Try.underlying51 rfl (by kernel_rfl) ?_))
  have hsame:=rsameA (⟨r.g,r.s,CV.z⟩:RV) r x x none Y 0 cy HW.out.1 HW.out.1 zc_wf HW.out.2.1 (top_st HW.out.2.2.1) HW.out.2.2.1 w4 HI4.out.2 HI4.out.2 IntsAt.nil HI4.out.1
  refine hsame.mono ?_
  clear hsame
  rintro e w5 ⟨rfl,hB5⟩
  have HB5:=Lib.hid (below_up HB4.out hB5)
  have q0:w5.cell? ⟨W3.heap.size,0,none⟩=some (.slice X4 N c4):=keep_cell HQ0.out hB5
  have HR5:=Lib.hid (And.intro (show BytesAt w5 X4 (nB r.g ++ stateE r.s) from BytesAt.up HR.out.1 hB5) HR.out.2)
  clear hB5 HRO HRC HQ0 q2
  cases e1:decide ((⟨r.g,r.s,CV.z⟩:RV)=r)
  ·have HE:=Lib.hid (of_decide_eq_false e1)
   clear q0 e1
   go_wp2_with fail
   go_ret2
   exact ⟨Or.inr (Or.inl ⟨(fun h=>HE.out (HOK.out.1 h).2),rfl⟩),HB5.out⟩
  ·have HE:=Lib.hid (And.intro e0 (of_decide_eq_true e1))
   have HO:=Lib.hid (show okR r from HOK.out.2 ⟨HE.out.1,HE.out.2⟩)
   clear e0 e1
   have HNN:=Lib.hid (show N=(recB r).length from by rw [← HN.out];rw [recB_state HH.out (Bool.and_eq_true _ _ ▸ HE.out.1:genO r.g=true∧stateO r.s=true).2])
   by_cases hmany:65536 < N
   ·have hm2:(65536:Int) < (N:Int):=by omega
    go_wp2_with fail
    go_ret2
    exact ⟨Or.inr (Or.inr ⟨HO.out,by rw [← HNN.out];exact hmany,rfl⟩),HB5.out⟩
   ·have hm2:¬ (65536:Int) < (N:Int):=by omega
    go_wp2_with fail
    go_ret2
    exact ⟨Or.inl ⟨HO.out,by rw [← HNN.out];omega,_,_,_,rfl,HNN.out,HR5.out.2.1,HR5.out.2.2,by have:=HR5.out.1;rwa [recB_state HH.out (Bool.and_eq_true _ _ ▸ HE.out.1:genO r.g=true∧stateO r.s=true).2] at this⟩,HB5.out⟩
end Go.Proofs.Ytfdldbfjeamlcaa.RecWriteS
namespace Go.Proofs.Ytfdldbfjeamlcaa.RecRJob
set_option maxRecDepth 100000
set_option maxHeartbeats 1000000
open Go.RowKit Mem RecMem RecByte RecNum RecEach RecMath RecCod RecCods RecPort RecCommand RecCmdJ RecVal RecSame RecOwn RecRd RecRByte RecRNum RecREach RecRFlat RecRClass RecRL0 RecRListI RecRAsk
theorem rjob (B gp:Nat) (X:Option Addr) (t:Bs) (c:Nat) (od:Bool) (b o:Nat) (T:TypeId) (cs:Array Value) (w:World) (hP:PR B w gp X t c od) (hK:Blk w b T cs) (hz:ZAt cs o [.int .i64 0,.int .i64 0,.int .i64 0,.int .i64 0,.int .i64 0,.int .i64 0,.bool false,.bool false,.bool false,.bool false,.int .i64 0,.int .i64 0,.bool false,.slice none 0 0,.int .u8 0,.int .i64 0]) (hb:B≤b) (hne:b≠gp) :
    Calls Try.prog 111 #[.pointer (some ⟨gp,0,none⟩),.pointer (some ⟨b,o,none⟩)] w fun e w' => ROut jobR jobC.dec B gp b T cs o t od w e w':=by
 have HS0:=Lib.hid (And.intro hP.lt hK.lt)
 have H0:=Lib.hid (And.intro hP (And.intro hK (And.intro hz (And.intro hb hne))))
 clear hP hK hz hb hne
 go_enter Try.func111,Try.ntmps111
 have HC1:=Lib.hid (rnum_out B gp X t c od b (o) T cs w H0.out.1 H0.out.2.1 (ZAt.left (zs:=[.int .i64 0]) (us:=[.int .i64 0,.int .i64 0,.int .i64 0,.int .i64 0,.int .i64 0,.bool false,.bool false,.bool false,.bool false,.int .i64 0,.int .i64 0,.bool false,.slice none 0 0,.int .u8 0,.int .i64 0]) H0.out.2.2.1) H0.out.2.2.2.1 H0.out.2.2.2.2)
 go_wp2_with fail
 refine HC1.out.mono ?_
 intro e w1 hj
 rcases hj with ⟨rfl,hd,hf⟩ | ⟨⟨r1,rfl⟩,X1,c1,t1,od1,x1,vs1,hP,hK,hM⟩
 ·have HN:=Lib.hid (show (od=false→jobC.dec t=none)∧FrR gp b w w1 from ⟨fun e0=>iso_none (pairDec_none1 (pairDec_none1 (pairDec_none1 (hd e0)))),hf⟩)
  clear hd hf HC1
  go_wp2_with fail
  exact ⟨rfl,(Or.inl ⟨rfl,HN.out⟩)⟩
 have H1:=Lib.hid (And.intro hP (And.intro hK (And.intro (ZAt.next (R:=numR) (zs:=[.int .i64 0]) (us:=[.int .i64 0,.int .i64 0,.int .i64 0,.int .i64 0,.int .i64 0,.bool false,.bool false,.bool false,.bool false,.int .i64 0,.int .i64 0,.bool false,.slice none 0 0,.int .u8 0,.int .i64 0]) H0.out.2.2.1 rfl (by simp) hM.at_) hM)))
 clear hP hK hM HC1
 have HC2:=Lib.hid (rasked B gp X1 t1 c1 od1 b o T (setA cs (o) vs1) w1 H1.out.1 H1.out.2.1 (ZAt.left (zs:=[.int .i64 0,.int .i64 0,.int .i64 0,.int .i64 0,.int .i64 0,.bool false,.bool false,.bool false,.bool false,.int .i64 0,.int .i64 0,.bool false,.slice none 0 0]) (us:=[.int .u8 0,.int .i64 0]) H1.out.2.2.1) H0.out.2.2.2.1 H0.out.2.2.2.2)
 go_wp2_with fail
 refine HC2.out.mono ?_
 intro e w2 hj
 replace hj:=ROut.step (R:=numR) (d1:=numC.dec) (o:=(o)) 1 rfl H1.out.2.2.2 HS0.out.1 HS0.out.2 hj
 rcases hj with ⟨rfl,hd,hf⟩ | ⟨⟨r2,rfl⟩,X2,c2,t2,od2,x2,vs2,hP,hK,hM⟩
 ·have HN:=Lib.hid (show (od=false→jobC.dec t=none)∧FrR gp b w w2 from ⟨fun e0=>iso_none (pairDec_none1 (pairDec_none1 (hd e0))),hf⟩)
  clear hd hf HC2
  go_wp2_with fail
  exact ⟨rfl,(Or.inl ⟨rfl,HN.out⟩)⟩
 have H2:=Lib.hid (And.intro hP (And.intro hK (And.intro (ZAt.next (R:=(numR.pair askR)) (zs:=[.int .i64 0,.int .i64 0,.int .i64 0,.int .i64 0,.int .i64 0,.int .i64 0,.bool false,.bool false,.bool false,.bool false,.int .i64 0,.int .i64 0,.bool false,.slice none 0 0]) (us:=[.int .u8 0,.int .i64 0]) H0.out.2.2.1 rfl (by simp) hM.at_) hM)))
 clear hP hK hM HC2
 have HC3:=Lib.hid (rbyte_out B gp X2 t2 c2 od2 b (o+14) T (setA cs (o) vs2) w2 H2.out.1 H2.out.2.1 (ZAt.left (zs:=[.int .u8 0]) (us:=[.int .i64 0]) H2.out.2.2.1) H0.out.2.2.2.1 H0.out.2.2.2.2)
 go_wp2_with fail
 refine HC3.out.mono ?_
 intro e w3 hj
 replace hj:=ROut.step (R:=(numR.pair askR)) (d1:=(pairDec numC.dec askC.dec)) (o:=(o)) 14 rfl H2.out.2.2.2 HS0.out.1 HS0.out.2 hj
 rcases hj with ⟨rfl,hd,hf⟩ | ⟨⟨r3,rfl⟩,X3,c3,t3,od3,x3,vs3,hP,hK,hM⟩
 ·have HN:=Lib.hid (show (od=false→jobC.dec t=none)∧FrR gp b w w3 from ⟨fun e0=>iso_none (pairDec_none1 (hd e0)),hf⟩)
  clear hd hf HC3
  go_wp2_with fail
  exact ⟨rfl,(Or.inl ⟨rfl,HN.out⟩)⟩
 have H3:=Lib.hid (And.intro hP (And.intro hK (And.intro (ZAt.next (R:=((numR.pair askR).pair byteR)) (zs:=[.int .i64 0,.int .i64 0,.int .i64 0,.int .i64 0,.int .i64 0,.int .i64 0,.bool false,.bool false,.bool false,.bool false,.int .i64 0,.int .i64 0,.bool false,.slice none 0 0,.int .u8 0]) (us:=[.int .i64 0]) H0.out.2.2.1 rfl (by simp) hM.at_) hM)))
 clear hP hK hM HC3
 have HC4:=Lib.hid (rnum_out B gp X3 t3 c3 od3 b (o+15) T (setA cs (o) vs3) w3 H3.out.1 H3.out.2.1 (ZAt.left (zs:=[.int .i64 0]) (us:=[]) H3.out.2.2.1) H0.out.2.2.2.1 H0.out.2.2.2.2)
 go_wp2_with fail
 refine HC4.out.mono ?_
 intro e w4 hj
 replace hj:=ROut.step (R:=((numR.pair askR).pair byteR)) (d1:=(pairDec (pairDec numC.dec askC.dec) byteC.dec)) (o:=(o)) 15 rfl H3.out.2.2.2 HS0.out.1 HS0.out.2 hj
 rcases hj with ⟨rfl,hd,hf⟩ | ⟨⟨r4,rfl⟩,X4,c4,t4,od4,x4,vs4,hP,hK,hM⟩
 ·have HN:=Lib.hid (show (od=false→jobC.dec t=none)∧FrR gp b w w4 from ⟨fun e0=>iso_none (hd e0),hf⟩)
  clear hd hf HC4
  go_wp2_with fail
  exact ⟨rfl,(Or.inl ⟨rfl,HN.out⟩)⟩
 have HE:=Lib.hid (And.intro hP (And.intro hK hM))
 clear hP hK hM HC4
 go_wp2_with fail
 go_end0
 exact (ROut.iso (f:=jOf) (g:=ofJ) (fun _=>rfl) (Or.inr ⟨⟨_,rfl⟩,X4,c4,t4,od4,x4,vs4,HE.out⟩))
end Go.Proofs.Ytfdldbfjeamlcaa.RecRJob
namespace Go.Proofs.Ytfdldbfjeamlcaa.RecRListJ
set_option maxRecDepth 100000
set_option maxHeartbeats 2000000
open Go.RowKit Mem RecMem RecByte RecNum RecEach RecMath RecCod RecCods RecPort RecCommand RecCmdJ RecVal RecSame RecOwn RecRd RecRByte RecRNum RecREach RecRFlat RecRClass RecRL0 RecRListI RecRAsk RecRJob
theorem job_form {w:World} {F:Nat} {x:JV} {vs:List Value} (h:jobR.At w F x vs):∃ (a0 a1 a2 a3 a4 a5:Int) (a6 a7 a8 a9:Bool) (a10 a11:Int) (a12:Bool) (a13:Option Addr) (a14 a15:Nat) (a16 a17:Int),vs=[.int .i64 a0,.int .i64 a1,.int .i64 a2,.int .i64 a3,.int .i64 a4,.int .i64 a5,.bool a6,.bool a7,.bool a8,.bool a9,.int .i64 a10,.int .i64 a11,.bool a12,.slice a13 a14 a15,.int .u8 a16,.int .i64 a17]:=by
 obtain ⟨v1,v2,rfl,⟨v3,v4,rfl,⟨v5,v6,rfl,h5,h6⟩,h4⟩,h2⟩:=h
 obtain ⟨u1,u2,rfl,⟨u3,u4,rfl,⟨u5,u6,rfl,⟨u7,u8,rfl,⟨u9,u10,rfl,⟨u11,u12,rfl,g11,g12⟩,g10⟩,g8⟩,g6⟩,g4⟩,g2⟩:=h6
 obtain ⟨V,c,xs,rfl,_⟩:=g2
 have e1:u11=[.int .i64 _]:=g11
 have e2:u12=[.int .i64 _]:=g12
 have e3:u10=wantsL _:=g10
 have e4:u8=[.int .i64 _]:=g8
 have e5:u6=[.int .i64 _]:=g6
 have e6:u4=[.bool _]:=g4
 have e7:v5=[.int .i64 _]:=h5
 have e8:v4=[.int .u8 _]:=h4
 have e9:v2=[.int .i64 _]:=h2
 subst e1 e2 e3 e4 e5 e6 e7 e8 e9
 exact ⟨_,_,_,_,_,_,_,_,_,_,_,_,_,_,_,_,_,_,rfl⟩
theorem rlistJ_info:(Try.prog.info? 28).map (fun i=>(i.zero,i.size,i.bytes))=some (some (.agg Sq.zzJ),16,120):=by kernel_rfl
theorem rlistJ (B gp:Nat) (X:Option Addr) (t:Bs) (c:Nat) (od:Bool) (b o:Nat) (T:TypeId) (cs:Array Value) (w:World) (hP:PR B w gp X t c od) (hK:Blk w b T cs) (hz:ZAt cs o [.slice none 0 0]) (hb:B≤b) (hne:b≠gp) :
    Calls Try.prog 110 #[.pointer (some ⟨gp,0,none⟩),.pointer (some ⟨b,o,none⟩),.func (.func 111) #[.pointer (some ⟨gp,0,none⟩)] #[]] w fun e w' => ROut (listR jobR 28) (listDec jobC) B gp b T cs o t od w e w':=by
 obtain ⟨i0,hi0,hz0,hz1,hz2⟩:=info_parts rlistJ_info
 have HI:=Lib.hid (And.intro hi0 (And.intro hz0 (And.intro hz1 hz2)))
 have ca:w.cell? ⟨b,o,none⟩=some (.slice none 0 0):=(hK.cell o).trans (hz 0 _ rfl)
 have hor:o < cs.size:=hz.size (by simp)
 have hbs:=hK.lt
 have hgs:=hP.lt
 have hlow:=hP.low
 have HC:=Lib.hid (rnum B gp X t c od w.heap.size 0 INT #[.int .i64 0] (w.alloc (.cells #[.int .i64 0] INT)) (hP.alloc _) (Blk.new w INT #[.int .i64 0]) (zat_one _) (by omega) (by omega))
 have HK:=Lib.hid hK
 have HB:=Lib.hid (And.intro hb hne)
 clear hi0 hz0 hz1 hz2 hP hK hz
 go_enter Try.func110,Try.ntmps110
 go_wp2_with fail
 refine HC.out.mono ?_
 rintro e w1 (⟨rfl,hd,hf⟩ | ⟨⟨r,rfl⟩,X1,c1,t1,m,hd,hl,hP1,hK1,hf1⟩)
 ·have HN:=Lib.hid (And.intro hd (((FrR.refl gp b w).alloc (.cells #[.int .i64 0] INT)).trans_new hf (Nat.le_refl _)))
  clear hd hf HC ca
  go_wp2_with fail
  exact ⟨rfl,Or.inl ⟨rfl,fun _=>listDec_none1 HN.out.1,HN.out.2⟩⟩
 ·have hKb:Blk w1 b T cs:=hf1.blk (HK.out.alloc _) hne (by omega)
  have hfw:FrR gp b w w1:=((FrR.refl gp b w).alloc (.cells #[.int .i64 0] INT)).trans_new hf1 (Nat.le_refl _)
  have cn:w1.cell? ⟨w.heap.size,0,none⟩=some (.int .i64 m):=hK1.cell 0
  have fn0:=hK1.frozen 0
  have p1:w1.cell? ⟨gp,1,none⟩=some (.bool true):=hP1.blk.cell 1
  have p2:w1.cell? ⟨gp,2,none⟩=some (.bool od):=hP1.blk.cell 2
  have g2:=hP1.blk.frozen 2
  have ca1:w1.cell? ⟨b,o,none⟩=some (.slice none 0 0):=by rw [hKb.cell o,← HK.out.cell o];exact ca
  have fb:=hKb.frozen o
  have hsz:w.heap.size+1≤w1.heap.size:=by have:=hf1.size;simpa using this
  have hgs1:gp < w1.heap.size:=by omega
  have hbs1:b < w1.heap.size:=by omega
  have hns1:w.heap.size < w1.heap.size:=by omega
  have hne1:¬ (w.heap.size=gp):=by omega
  have hne2:¬ (w.heap.size=b):=by omega
  have hne3:¬ (b=gp):=hne
  have H1:=Lib.hid (And.intro hd (And.intro hl (And.intro hP1 (And.intro hKb hfw))))
  have HM:=Lib.hid hK1
  clear hd hl hP1 hK1 hKb hfw hf1 HC ca
  by_cases hodd:m < 0∨1000 < m
  ·have HO:=Lib.hid hodd
   have fin:∀ (W:World),W=(((w1.setCell ⟨gp,2,none⟩ (.bool true)).setCell ⟨w.heap.size,0,none⟩ (.int .i64 0)).setCell ⟨b,o,none⟩ (.slice none 0 0))→ROut (listR jobR 28) (listDec jobC) B gp b T cs o t od w (.returned (.tuple #[])) W:=fun W hW=>by
    subst hW
    refine Or.inr ⟨⟨_,rfl⟩,X1,c1,t1,true,[],[.slice none 0 0],?_,?_,⟨none,0,[],rfl,World.ownsRow_nil _ _ _ _,fun i x hi=>by simp at hi⟩,?_,H1.out.2.1,fun e=>by (cases e),fun _ _=>listDec_odd H1.out.1 HO.out⟩
    ·exact (((H1.out.2.2.1.odd true).set_ (p:=⟨w.heap.size,0,none⟩) hne1 (by simp;omega) _).set_ (p:=⟨b,o,none⟩) hne (by simpa using HB.out.1) _)
    ·exact ((H1.out.2.2.2.1.far (p:=⟨gp,2,none⟩) hne _).far (p:=⟨w.heap.size,0,none⟩) (fun e=>hne2 e.symm) _).set_ o _
    ·exact (((H1.out.2.2.2.2.set_ (p:=⟨gp,2,none⟩) (.inl rfl) _).set_ (p:=⟨w.heap.size,0,none⟩) (.inr (.inr (Nat.le_refl _))) _).set_ (p:=⟨b,o,none⟩) (.inr (.inl rfl)) _)
   have FIN:=Lib.hid fin
   clear fin
   rcases hodd with h0 | h0
   all_goals
    go_wp2_with fail
    refine wp_loop_rounds 1 ?_
    rw [rounds_succ]
    go_wp2_with fail
    go_end0
    exact FIN.out _ rfl
  ·have h0:0≤m:=by omega
   have h1:m≤1000:=by omega
   clear hodd
   obtain ⟨N,rfl⟩:∃ N:Nat,m=N:=⟨m.toNat,by omega⟩
   go_upto_region 7 with fail
   have HS:=Lib.hid (show LSt jobR jobC 28 B gp b T cs o t1 od w 0 [] X1 c1 t1 od none 0 [] (w1.setCell ⟨b,o,none⟩ (.slice none 0 0)) from
    ⟨rfl,H1.out.2.2.1.set_ hne (by simpa using HB.out.1) _,H1.out.2.2.2.1.set_ o _,World.ownsRow_nil _ _ _ _,fun i x hi=>by (simp at hi),H1.out.2.2.2.2.set_ (.inr (.inl rfl)) _,Nat.le_refl _,fun e=>⟨e,rfl⟩,fun e e0=>by (rw [e] at e0;cases e0)⟩)
   have cn2:(w1.setCell ⟨b,o,none⟩ (.slice none 0 0)).cell? ⟨w.heap.size,0,none⟩=some (.int .i64 (N:Int)):=(HM.out.far (p:=⟨b,o,none⟩) hne2 _).cell 0
   generalize w1.setCell ⟨b,o,none⟩ (.slice none 0 0)=W2 at *
   clear cn fn0 p1 p2 g2 ca1 fb HM
   have HD:=Lib.hid (And.intro (show numDec t=some ((N:Int),t1) from H1.out.1) H1.out.2.1)
   clear H1
   go_wp2_with fail
   clear cn2
   go_loopw [32] (fun i wr=>∃ (k:Nat) (l:List JV) (X':Option Addr) (c':Nat) (t':Bs) (od':Bool) (V:Option Addr) (cv:Nat) (xs:List Value),k≤N∧i = .int .i64 k∧Hid (LSt jobR jobC 28 B gp b T cs o t1 od w k l X' c' t' od' V cv xs wr))
    (fun i _=>N - (intOf i).toNat)
   case atStart=>exact ⟨0,[],X1,c1,t1,od,none,0,[],Nat.zero_le _,rfl,HS.out⟩
   case round =>
    obtain ⟨k,l,X',c',t',od',V,cv,xs,hk,rfl,HL⟩:=hrel
    clear HS
    by_cases hlt:k < N
    ·have hki:(k:Int) < (N:Int):=by omega
     have hws:w.heap.size≤wr.heap.size:=HL.out.fr.size
     have HC:=Lib.hid (rjob B gp X' t' c' od' wr.heap.size 0 28 Sq.zzJ (wr.alloc (.cells Sq.zzJ 28)) (HL.out.pr.alloc _) (Blk.new wr 28 Sq.zzJ) (ZAt.left (zs:=[.int .i64 0,.int .i64 0,.int .i64 0,.int .i64 0,.int .i64 0,.int .i64 0,.bool false,.bool false,.bool false,.bool false,.int .i64 0,.int .i64 0,.bool false,.slice none 0 0,.int .u8 0,.int .i64 0]) (us:=[]) (fun i v hi=>by (simpa using hi))) (by omega) (by omega))
     go_wp2_with fail
     refine HC.out.mono ?_
     rintro e w2 (⟨rfl,hd,hf⟩ | ⟨⟨r,rfl⟩,X2,c2,t2,od2,x,vs,hP2,hK2,hM2⟩)
     ·have HN:=Lib.hid (show (od=false→listDec jobC t=none)∧FrR gp b w w2 from ⟨fun e0=>by rw [listDec_eq HD.out.1 h0 h1];exact HL.out.fail (w2:=w2) (ob:=.cells Sq.zzJ 28) hd (by omega) e0,(HL.out.fr.alloc _).trans_new hf hws⟩)
      clear hd hf HC
      go_wp2_with fail
      exact ⟨rfl,Or.inl ⟨rfl,HN.out⟩⟩
     ·obtain ⟨a0,a1,a2,a3,a4,a5,a6,a7,a8,a9,a10,a11,a12,a13,a14,a15,a16,a17,rfl⟩:=job_form hM2.at_
      have hZ:setA Sq.zzJ 0 [.int .i64 a0,.int .i64 a1,.int .i64 a2,.int .i64 a3,.int .i64 a4,.int .i64 a5,.bool a6,.bool a7,.bool a8,.bool a9,.int .i64 a10,.int .i64 a11,.bool a12,.slice a13 a14 a15,.int .u8 a16,.int .i64 a17]=List.toArray [.int .i64 a0,.int .i64 a1,.int .i64 a2,.int .i64 a3,.int .i64 a4,.int .i64 a5,.bool a6,.bool a7,.bool a8,.bool a9,.int .i64 a10,.int .i64 a11,.bool a12,.slice a13 a14 a15,.int .u8 a16,.int .i64 a17]:=setA_full rfl
      rw [hZ] at hK2
      have hrd:=HL.out.read hgs hbs hne hM2.fr
      have cx0:w2.cell? ⟨wr.heap.size,0,none⟩=some (.int .i64 a0):=hK2.cell 0
      have cx1:w2.cell? ⟨wr.heap.size,1,none⟩=some (.int .i64 a1):=hK2.cell 1
      have cx2:w2.cell? ⟨wr.heap.size,2,none⟩=some (.int .i64 a2):=hK2.cell 2
      have cx3:w2.cell? ⟨wr.heap.size,3,none⟩=some (.int .i64 a3):=hK2.cell 3
      have cx4:w2.cell? ⟨wr.heap.size,4,none⟩=some (.int .i64 a4):=hK2.cell 4
      have cx5:w2.cell? ⟨wr.heap.size,5,none⟩=some (.int .i64 a5):=hK2.cell 5
      have cx6:w2.cell? ⟨wr.heap.size,6,none⟩=some (.bool a6):=hK2.cell 6
      have cx7:w2.cell? ⟨wr.heap.size,7,none⟩=some (.bool a7):=hK2.cell 7
      have cx8:w2.cell? ⟨wr.heap.size,8,none⟩=some (.bool a8):=hK2.cell 8
      have cx9:w2.cell? ⟨wr.heap.size,9,none⟩=some (.bool a9):=hK2.cell 9
      have cx10:w2.cell? ⟨wr.heap.size,10,none⟩=some (.int .i64 a10):=hK2.cell 10
      have cx11:w2.cell? ⟨wr.heap.size,11,none⟩=some (.int .i64 a11):=hK2.cell 11
      have cx12:w2.cell? ⟨wr.heap.size,12,none⟩=some (.bool a12):=hK2.cell 12
      have cx13:w2.cell? ⟨wr.heap.size,13,none⟩=some (.slice a13 a14 a15):=hK2.cell 13
      have cx14:w2.cell? ⟨wr.heap.size,14,none⟩=some (.int .u8 a16):=hK2.cell 14
      have cx15:w2.cell? ⟨wr.heap.size,15,none⟩=some (.int .i64 a17):=hK2.cell 15
      have cl:w2.cell? ⟨b,o,none⟩=some (.slice V k cv):=by
       rw [hrd.2.2.1.cell o,setA_get _ _ _ (by simp;omega),if_pos (by simp)]
       simp
      have fl:=hrd.2.2.1.frozen o
      have hws2:wr.heap.size+1≤w2.heap.size:=by have:=hM2.fr.size;simpa using this
      have hbs2:b < w2.heap.size:=by omega
      have hxs2:wr.heap.size < w2.heap.size:=by omega
      have hbe:¬ (wr.heap.size=b):=by omega
      have H2:=Lib.hid (And.intro hP2 (And.intro hM2 hrd))
      clear hP2 hK2 hM2 hrd HC hZ
      go_wp2_with fail
      go_region_law (refine step_append_any _ rfl (.tmp 39) (.tmp 41) _ rfl w.heap.size 28 i0 (.agg Sq.zzJ) 16 120 Try.underlying45 HI.out.1 HI.out.2.1 HI.out.2.2.1 HI.out.2.2.2 rfl (by decide) (.slice V k cv) k xs (by simp [Act.eval,Act.put]) ((H2.out.2.2.1.drew).alloc (.cells (List.toArray [.int .i64 a0,.int .i64 a1,.int .i64 a2,.int .i64 a3,.int .i64 a4,.int .i64 a5,.bool a6,.bool a7,.bool a8,.bool a9,.int .i64 a10,.int .i64 a11,.bool a12,.slice a13 a14 a15,.int .u8 a16,.int .i64 a17]) 28)) (w2.heap.size+1) (some ⟨w2.heap.size,0,none⟩) 1 1 [.int .i64 a0,.int .i64 a1,.int .i64 a2,.int .i64 a3,.int .i64 a4,.int .i64 a5,.bool a6,.bool a7,.bool a8,.bool a9,.int .i64 a10,.int .i64 a11,.bool a12,.slice a13 a14 a15,.int .u8 a16,.int .i64 a17] (by simp [Act.eval,Act.put]) (Reads.drew (reads_box w2 28 [.int .i64 a0,.int .i64 a1,.int .i64 a2,.int .i64 a3,.int .i64 a4,.int .i64 a5,.bool a6,.bool a7,.bool a8,.bool a9,.int .i64 a10,.int .i64 a11,.bool a12,.slice a13 a14 a15,.int .u8 a16,.int .i64 a17])) (by simp [Value.oneCell']) (by simp only [maxLen];omega) (by omega) (by simp;omega) ?_;intro v3 w3 hown hg hat;obtain ⟨V3,c3,rfl⟩:=own_form2 hown;have q0:w3.cell? ⟨b,o,none⟩=some (.slice V k cv):=(by rw [World.cell?_of_block (hg.block b (by simp;omega) (fun e1=>by have:=(own_ge H2.out.2.2.1 e1.symm).1;omega))];exact cell_over _ cl);have g0:w3.frozen? ⟨b,o,none⟩=false:=(by rw [World.frozen?_of_block (hg.block b (by simp;omega) (fun e1=>by have:=(own_ge H2.out.2.2.1 e1.symm).1;omega))];exact (H2.out.2.2.2.2.1.drew.alloc _).frozen o);have H3:=Lib.hid (And.intro hown hg);clear hown hg hat)
      all_goals
       go_wp2_with fail
       go_roundw
       case measure=>simp [intOf];omega
       exact ⟨k+1,l ++ [x],X2,c2,t2,od2,V3,c3,_,by omega,by go_num,HL.out.push (keepN_job (by decide)) hgs hbs hne HB.out.1 rfl rfl H2.out.1 H2.out.2.1 H3.out.1 H3.out.2 hor⟩
    ·obtain rfl:k=N:=by omega
     go_wp2_with fail
     go_end0
     have h:=HL.out
     refine Or.inr ⟨⟨_,rfl⟩,X',c',t',od',l,[.slice V k cv],h.pr,h.blk,⟨V,cv,xs,?_,?_,h.els⟩,h.fr,Nat.le_trans h.le HD.out.2,fun e=>⟨(h.ok e).1,?_⟩,fun e e0=>?_⟩
     ·rw [h.len]
     ·rw [h.len];exact h.own
     ·rw [listDec_eq HD.out.1 h0 h1,Int.toNat_natCast];exact (h.ok e).2
     ·rw [listDec_eq HD.out.1 h0 h1,Int.toNat_natCast];exact h.bad e e0
end Go.Proofs.Ytfdldbfjeamlcaa.RecRListJ
