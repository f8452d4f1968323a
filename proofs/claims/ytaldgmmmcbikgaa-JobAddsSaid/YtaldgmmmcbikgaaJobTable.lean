/- job.Table: whether a table may be. -/
import Derived.BigRegion
import Derived.BigQuiet
import Derived.Deep.QuietTactic
import Derived.Deep.MidRow
import Derived.Deep.DeepCutAuto
import Derived.Test.YtaldgmmmcbikgaaJobCheck
import Derived.Test.YtaldgmmmcbikgaaJobFind
namespace Go.Proofs.Ytaldgmmmcbikgaa.JobTable
open Go.RowKit Mem PosMath PartMath PartClass PartCheck TurnMath TurnWalks TurnFitsV JobMath JobIndex JobPlain JobAfter JobCheck JobFind
set_option linter.unusedVariables false
set_option linter.unusedSimpArgs false

/-- A number that no job has. -/
theorem lacks (gl : Nat) (X : Option Addr) (cap : Nat) (l : List JV) (hl : l.length ≤ 4611686018427387904) (n : Int) (w : World) (cl : w.cell? ⟨gl, 0, none⟩ = some (.slice X l.length cap)) (hX : JobsAt w X l) :
    Calls Try.prog 34 #[.int .i64 n, .pointer (some ⟨gl, 0, none⟩)] w fun e w' => e = .returned (.bool (!hasB l n)) ∧ Below w.heap.size w w' := by
  have HF := Lib.hid (has_any X cap l n hl w hX)
  generalize hasB l n = b at *
  clear hX
  go_enter Try.func34, Try.ntmps34
  go_wp2_with fail
  refine HF.out.mono ?_
  rintro e w1 ⟨rfl, hB⟩
  have HB := Lib.hid hB
  clear hB
  go_wp2_with fail
  go_ret
  exact ⟨rfl, HB.out⟩
theorem there_of {l : List JV} {x : JV} {b : Bool} (h : AnyOf x.af (fun _ v => !hasB l v) b) : b = !thereB l x := by
  have e := h.eq
  rw [e]
  unfold thereB
  rw [List.not_all_eq_any_not]
theorem no_there (gl : Nat) (X : Option Addr) (cap : Nat) (l : List JV) (hl : l.length ≤ 4611686018427387904) (x : JV) (Y : Option Addr) (cj : Nat) (hx : x.af.length ≤ 4611686018427387904) (w : World) (cl : w.cell? ⟨gl, 0, none⟩ = some (.slice X l.length cap)) (hX : JobsAt w X l) (hY : IntsAt w Y x.af) :
    Calls Try.prog 33 #[.slice Y x.af.length cj, .func (.func 34) #[] #[.pointer (some ⟨gl, 0, none⟩)]] w fun e w' => e = .returned (.bool (!thereB l x)) ∧ Below w.heap.size w w' := by
  refine (iContainsFunc Y cj x.af (fun _ v => !hasB l v) (fun _ w' => Below w.heap.size w w' ∧ w'.cell? ⟨gl, 0, none⟩ = some (.slice X l.length cap)) 34 #[.pointer (some ⟨gl, 0, none⟩)] hx w ⟨Below.refl _ _, cl⟩ (fun k w' h => hY.up h.1) (enters_of Try.func34 (by kernel_rfl) rfl)
    (fun k v hk w' h => (lacks gl X cap l hl v w' h.2 (hX.up h.1)).mono fun e w'' h2 => ⟨h2.1, below_up h.1 h2.2, keep_cell h.2 h2.2⟩)).mono ?_
  rintro e w1 ⟨b, rfl, hb, k, hI⟩
  rw [there_of hb]
  exact ⟨rfl, hI.1⟩
set_option maxRecDepth 100000 in
set_option maxHeartbeats 4000000 in
theorem tb_bad (d0 d1 d2 bo fr tr ag : Int) (K : Option Addr) (kc : Nat) (ks : List Cls) (hlk : ks.length ≤ 4611686018427387904) (X : Option Addr) (cap : Nat) (l : List JV) (hl : l.length ≤ 4611686018427387904) (hla : ∀ j ∈ l, j.af.length ≤ 4611686018427387904) (h : ¬ CfgOk d0 d1 d2 bo fr tr ag ks) (w : World) (hk : ClsAt w w.heap.size K ks) (hX : JobsAt w X l) :
    Calls Try.prog 15 #[.agg #[.int .i64 d0, .int .i64 d1, .int .i64 d2, .int .i64 bo, .int .i64 fr, .int .i64 tr, .int .i64 ag, .slice K ks.length kc], .slice X l.length cap] w fun e w' => e = .returned (.int .i64 8) ∧ Below w.heap.size w w' := by
  have HP := Lib.hid (fun w hk => pcheck_bad d0 d1 d2 bo fr tr ag K kc ks (by omega) h w hk)
  have HK := Lib.hid hk
  have HX := Lib.hid hX
  clear hk hX h
  go_enter Try.func15, Try.ntmps15
  go_upto_region 1 with fail
  have kc0 : Blk ((w.alloc (.cells #[.int .i64 d0, .int .i64 d1, .int .i64 d2, .int .i64 bo, .int .i64 fr, .int .i64 tr, .int .i64 ag, .slice K ks.length kc] 26)).alloc (.cells #[.slice X l.length cap] 27)) w.heap.size 26 #[.int .i64 d0, .int .i64 d1, .int .i64 d2, .int .i64 bo, .int .i64 fr, .int .i64 tr, .int .i64 ag, .slice K ks.length kc] := (Blk.new w _ _).alloc _
  have kl0 : Blk ((w.alloc (.cells #[.int .i64 d0, .int .i64 d1, .int .i64 d2, .int .i64 bo, .int .i64 fr, .int .i64 tr, .int .i64 ag, .slice K ks.length kc] 26)).alloc (.cells #[.slice X l.length cap] 27)) (w.heap.size + 1) 27 #[.slice X l.length cap] := blk1 w _ _
  have hb0 : Below w.heap.size w ((w.alloc (.cells #[.int .i64 d0, .int .i64 d1, .int .i64 d2, .int .i64 bo, .int .i64 fr, .int .i64 tr, .int .i64 ag, .slice K ks.length kc] 26)).alloc (.cells #[.slice X l.length cap] 27)) := below_alloc (below_alloc (Below.refl _ _))
  generalize ((w.alloc (.cells #[.int .i64 d0, .int .i64 d1, .int .i64 d2, .int .i64 bo, .int .i64 fr, .int .i64 tr, .int .i64 ag, .slice K ks.length kc] 26)).alloc (.cells #[.slice X l.length cap] 27)) = w0 at *
  have HB0 := Lib.hid hb0
  have KC0 := Lib.hid kc0
  have KL0 := Lib.hid kl0
  clear hb0 kc0 kl0
  go_wp2_with (first | (refine wpList_load_row rfl 26 _ rfl _ rfl 26 #[.int .i64 d0, .int .i64 d1, .int .i64 d2, .int .i64 bo, .int .i64 fr, .int .i64 tr, .int .i64 ag, .slice K ks.length kc] (0, 0) _ KC0.out Try.underlying26 rfl (by kernel_rfl) ?_))
  refine (HP.out _ (HK.out.up HB0.out)).mono ?_
  rintro e w1 ⟨rfl, hB1⟩
  have HB1 := Lib.hid (below_up HB0.out hB1)
  have KC1 := Lib.hid (KC0.out.below hB1 KC0.out.lt)
  have KL1 := Lib.hid (KL0.out.below hB1 KL0.out.lt)
  clear hB1 KC0 KL0 HB0 HP
  go_wp2_with fail
  go_ret
  exact ⟨rfl, HB1.out⟩
set_option maxRecDepth 100000 in
set_option maxHeartbeats 4000000 in
theorem tb_many (d0 d1 d2 bo fr tr ag : Int) (K : Option Addr) (kc : Nat) (ks : List Cls) (hlk : ks.length ≤ 4611686018427387904) (X : Option Addr) (cap : Nat) (l : List JV) (hl : l.length ≤ 4611686018427387904) (hla : ∀ j ∈ l, j.af.length ≤ 4611686018427387904) (h : CfgOk d0 d1 d2 bo fr tr ag ks) (hn : (24 : Int) < (l.length : Int)) (w : World) (hk : ClsAt w w.heap.size K ks) (hX : JobsAt w X l) :
    Calls Try.prog 15 #[.agg #[.int .i64 d0, .int .i64 d1, .int .i64 d2, .int .i64 bo, .int .i64 fr, .int .i64 tr, .int .i64 ag, .slice K ks.length kc], .slice X l.length cap] w fun e w' => e = .returned (.int .i64 4) ∧ Below w.heap.size w w' := by
  have HP := Lib.hid (fun w hk => pcheck_ok d0 d1 d2 bo fr tr ag K kc ks (by omega) h w hk)
  have HK := Lib.hid hk
  have HX := Lib.hid hX
  clear hk hX h
  go_enter Try.func15, Try.ntmps15
  go_upto_region 1 with fail
  have kc0 : Blk ((w.alloc (.cells #[.int .i64 d0, .int .i64 d1, .int .i64 d2, .int .i64 bo, .int .i64 fr, .int .i64 tr, .int .i64 ag, .slice K ks.length kc] 26)).alloc (.cells #[.slice X l.length cap] 27)) w.heap.size 26 #[.int .i64 d0, .int .i64 d1, .int .i64 d2, .int .i64 bo, .int .i64 fr, .int .i64 tr, .int .i64 ag, .slice K ks.length kc] := (Blk.new w _ _).alloc _
  have kl0 : Blk ((w.alloc (.cells #[.int .i64 d0, .int .i64 d1, .int .i64 d2, .int .i64 bo, .int .i64 fr, .int .i64 tr, .int .i64 ag, .slice K ks.length kc] 26)).alloc (.cells #[.slice X l.length cap] 27)) (w.heap.size + 1) 27 #[.slice X l.length cap] := blk1 w _ _
  have hb0 : Below w.heap.size w ((w.alloc (.cells #[.int .i64 d0, .int .i64 d1, .int .i64 d2, .int .i64 bo, .int .i64 fr, .int .i64 tr, .int .i64 ag, .slice K ks.length kc] 26)).alloc (.cells #[.slice X l.length cap] 27)) := below_alloc (below_alloc (Below.refl _ _))
  generalize ((w.alloc (.cells #[.int .i64 d0, .int .i64 d1, .int .i64 d2, .int .i64 bo, .int .i64 fr, .int .i64 tr, .int .i64 ag, .slice K ks.length kc] 26)).alloc (.cells #[.slice X l.length cap] 27)) = w0 at *
  have HB0 := Lib.hid hb0
  have KC0 := Lib.hid kc0
  have KL0 := Lib.hid kl0
  clear hb0 kc0 kl0
  go_wp2_with (first | (refine wpList_load_row rfl 26 _ rfl _ rfl 26 #[.int .i64 d0, .int .i64 d1, .int .i64 d2, .int .i64 bo, .int .i64 fr, .int .i64 tr, .int .i64 ag, .slice K ks.length kc] (0, 0) _ KC0.out Try.underlying26 rfl (by kernel_rfl) ?_))
  refine (HP.out _ (HK.out.up HB0.out)).mono ?_
  rintro e w1 ⟨rfl, hB1⟩
  have HB1 := Lib.hid (below_up HB0.out hB1)
  have KC1 := Lib.hid (KC0.out.below hB1 KC0.out.lt)
  have KL1 := Lib.hid (KL0.out.below hB1 KL0.out.lt)
  clear hB1 KC0 KL0 HB0 HP
  have cl : w1.cell? ⟨w.heap.size + 1, 0, none⟩ = some (.slice X l.length cap) := KL1.out.cell 0
  go_wp2_with fail
  go_ret
  exact ⟨rfl, HB1.out⟩
set_option maxRecDepth 100000 in
set_option maxHeartbeats 4000000 in
theorem tb_main (d0 d1 d2 bo fr tr ag : Int) (K : Option Addr) (kc : Nat) (ks : List Cls) (hlk : ks.length ≤ 4611686018427387904) (X : Option Addr) (cap : Nat) (l : List JV) (hl : l.length ≤ 4611686018427387904) (hla : ∀ j ∈ l, j.af.length ≤ 4611686018427387904) (h : CfgOk d0 d1 d2 bo fr tr ag ks) (hn : ¬ 24 < l.length) (w : World) (hk : ClsAt w w.heap.size K ks) (hX : JobsAt w X l) :
    Calls Try.prog 15 #[.agg #[.int .i64 d0, .int .i64 d1, .int .i64 d2, .int .i64 bo, .int .i64 fr, .int .i64 tr, .int .i64 ag, .slice K ks.length kc], .slice X l.length cap] w fun e w' => e = .returned (.int .i64 (tableF (checkV d0 d1 d2 ks) l)) ∧ Below w.heap.size w w' := by
  have hlen : l.length ≤ 24 := by omega
  have HC := Lib.hid (fun (j : JV) (Y : Option Addr) (cj : Nat) (hj : j ∈ l) w hk hY => jcheck d0 d1 d2 bo fr tr ag K kc ks j Y cj hlk (hla j hj) w hk hY)
  have HN := Lib.hid hn
  have HLA := Lib.hid hla
  generalize checkV d0 d1 d2 ks = f at *
  obtain ⟨V, hV⟩ : ∃ V, V = tableF f l := ⟨_, rfl⟩
  rw [← hV]
  have HV := Lib.hid hV
  clear hn hla hV
  have HP := Lib.hid (fun w hk => pcheck_ok d0 d1 d2 bo fr tr ag K kc ks (by omega) h w hk)
  have HK := Lib.hid hk
  have HX := Lib.hid hX
  clear hk hX h
  go_enter Try.func15, Try.ntmps15
  go_upto_region 1 with fail
  have kc0 : Blk ((w.alloc (.cells #[.int .i64 d0, .int .i64 d1, .int .i64 d2, .int .i64 bo, .int .i64 fr, .int .i64 tr, .int .i64 ag, .slice K ks.length kc] 26)).alloc (.cells #[.slice X l.length cap] 27)) w.heap.size 26 #[.int .i64 d0, .int .i64 d1, .int .i64 d2, .int .i64 bo, .int .i64 fr, .int .i64 tr, .int .i64 ag, .slice K ks.length kc] := (Blk.new w _ _).alloc _
  have kl0 : Blk ((w.alloc (.cells #[.int .i64 d0, .int .i64 d1, .int .i64 d2, .int .i64 bo, .int .i64 fr, .int .i64 tr, .int .i64 ag, .slice K ks.length kc] 26)).alloc (.cells #[.slice X l.length cap] 27)) (w.heap.size + 1) 27 #[.slice X l.length cap] := blk1 w _ _
  have hb0 : Below w.heap.size w ((w.alloc (.cells #[.int .i64 d0, .int .i64 d1, .int .i64 d2, .int .i64 bo, .int .i64 fr, .int .i64 tr, .int .i64 ag, .slice K ks.length kc] 26)).alloc (.cells #[.slice X l.length cap] 27)) := below_alloc (below_alloc (Below.refl _ _))
  generalize ((w.alloc (.cells #[.int .i64 d0, .int .i64 d1, .int .i64 d2, .int .i64 bo, .int .i64 fr, .int .i64 tr, .int .i64 ag, .slice K ks.length kc] 26)).alloc (.cells #[.slice X l.length cap] 27)) = w0 at *
  have HB0 := Lib.hid hb0
  have KC0 := Lib.hid kc0
  have KL0 := Lib.hid kl0
  clear hb0 kc0 kl0
  go_wp2_with (first | (refine wpList_load_row rfl 26 _ rfl _ rfl 26 #[.int .i64 d0, .int .i64 d1, .int .i64 d2, .int .i64 bo, .int .i64 fr, .int .i64 tr, .int .i64 ag, .slice K ks.length kc] (0, 0) _ KC0.out Try.underlying26 rfl (by kernel_rfl) ?_))
  refine (HP.out _ (HK.out.up HB0.out)).mono ?_
  rintro e w1 ⟨rfl, hB1⟩
  have HB1 := Lib.hid (below_up HB0.out hB1)
  have KC1 := Lib.hid (KC0.out.below hB1 KC0.out.lt)
  have KL1 := Lib.hid (KL0.out.below hB1 KL0.out.lt)
  clear hB1 KC0 KL0 HB0 HP
  have cl : w1.cell? ⟨w.heap.size + 1, 0, none⟩ = some (.slice X l.length cap) := KL1.out.cell 0
  go_wp2_with fail
  clear cl
  go_loopw [22, 6] (fun i r wr => ∃ k : Nat, k ≤ l.length ∧ i = .int .i64 k ∧ r = .bool (risesK l k) ∧ Hid (∀ i y, i < k → l[i]? = some y → f y = 0) ∧ Hid (Below w.heap.size w wr) ∧ Hid (Blk wr w.heap.size 26 #[.int .i64 d0, .int .i64 d1, .int .i64 d2, .int .i64 bo, .int .i64 fr, .int .i64 tr, .int .i64 ag, .slice K ks.length kc]) ∧ Hid (Blk wr (w.heap.size + 1) 27 #[.slice X l.length cap]))
    (fun i _ _ => l.length - (intOf i).toNat)
  case atStart => exact ⟨0, Nat.zero_le _, rfl, rfl, (fun i y h => by omega), HB1.out, KC1.out, KL1.out⟩
  case round =>
    obtain ⟨k, hk, rfl, rfl, hz, hB, hC, hL⟩ := hrel
    clear HB1 KC1 KL1
    by_cases hlt : k < l.length
    · have hg : l[k]? = some l[k] := List.getElem?_eq_getElem hlt
      generalize l[k] = x at hg
      have hki : (k : Int) < (l.length : Int) := by omega
      have hki0 : (0 : Int) ≤ (k : Int) := by omega
      obtain ⟨b, o, Y, cj, rfl, hb, hJ, hY⟩ := HX.out.up hB.out k x hg
      have HJ := Lib.hid hJ
      have HY := Lib.hid hY
      have HG := Lib.hid hg
      have hmem := List.mem_of_getElem? hg
      have HCX := Lib.hid (HC.out x Y cj hmem)
      clear hJ hY hg hmem
      go_wp2_with (first | (refine wpList_load_mid rfl 33 _ rfl _ _ rfl _ _ HJ.out.range Try.underlying33 rfl (by kernel_rfl) ?_) | (refine wpList_load_row rfl 26 _ rfl _ rfl 26 #[.int .i64 d0, .int .i64 d1, .int .i64 d2, .int .i64 bo, .int .i64 fr, .int .i64 tr, .int .i64 ag, .slice K ks.length kc] (0, 0) _ (hC.out.alloc _) Try.underlying26 rfl (by kernel_rfl) ?_) | (refine wpList_load_row rfl 33 _ rfl _ rfl 33 #[.int .i64 x.id, .int .i64 x.us, .int .i64 x.cl, .int .i64 x.x.a, .int .i64 x.x.b, .int .i64 x.x.c, .bool x.x.p, .bool x.x.q, .bool x.x.r, .bool x.x.tn, .int .i64 x.wa, .int .i64 x.pr, .bool x.he, .slice Y x.af.length cj, .int .u8 x.st, .int .i64 x.ca] (0, 0) _ (Blk.new wr _ _) Try.underlying33 rfl (by kernel_rfl) ?_))
      refine (HCX.out _ (HK.out.up (below_alloc hB.out)) (HY.out.up (below_alloc (Below.refl _ _)))).mono ?_
      rintro e w2 ⟨rfl, hB2⟩
      have HB2 := Lib.hid (below_up (below_alloc hB.out) hB2)
      have KC2 := Lib.hid ((hC.out.alloc _).below hB2 (hC.out.alloc _).lt)
      have KL2 := Lib.hid ((hL.out.alloc _).below hB2 (hL.out.alloc _).lt)
      have KJ2 := Lib.hid ((Blk.new wr _ _).below hB2 (Blk.new wr _ _).lt)
      clear hB2 hB hC hL HJ HY HCX
      by_cases he : f x = 0
      · have he' : (f x != 0) = false := by simp [he]
        have HE := Lib.hid he
        clear he
        rcases (show k = 0 ∨ ∃ m, k = m + 1 by cases k with | zero => exact .inl rfl | succ m => exact .inr ⟨m, rfl⟩) with rfl | ⟨m, rfl⟩
        · rw [show risesK l 0 = true from rfl]
          go_wp2_with fail
          go_quiet (fail)
          go_wp2_with fail
          go_roundw
          case rel => exact ⟨1, by omega, by go_num, rfl, (fun j z hj hz' => by
              rcases Nat.lt_or_ge j (0) with h | h
              · exact hz.out j z h hz'
              · obtain rfl : j = 0 := by omega
                rw [HG.out] at hz'; cases hz'; exact HE.out), below_drewN HB2.out _, KC2.out.drewN _, KL2.out.drewN _⟩
          case measure => simp [intOf]; omega
        · have hgm : l[m]? = some l[m] := List.getElem?_eq_getElem (by omega)
          generalize l[m] = y at hgm
          have HS := Lib.hid (risesK_step hgm HG.out)
          obtain ⟨b', o', Y', cj', e1, hb', hJm, _⟩ := HX.out.up HB2.out m y hgm
          have e2 : b' = b ∧ o' = o := by
            simp at e1
            exact ⟨e1.1.symm, e1.2.symm⟩
          rw [e2.1, e2.2] at hJm
          clear e1 e2 hb'
          have y0 := hJm.1
          have j0 : w2.cell? ⟨wr.heap.size, 0, none⟩ = some (.int .i64 x.id) := KJ2.out.cell 0
          have c0 : w2.cell? ⟨w.heap.size + 1, 0, none⟩ = some (.slice (some ⟨b, o, none⟩) l.length cap) := KL2.out.cell 0
          have f1 : IntKind.i64.wrap ((m : Int) + 1 - 1) = (m : Int) := by rw [show (m : Int) + 1 - 1 = m by omega]; exact IntWalk.i64_in _ (by omega)
          have f2 : IntKind.i64.wrap (m : Int) = (m : Int) := IntWalk.i64_in _ (by omega)
          have hm0 : (0 : Int) ≤ (m : Int) := by omega
          have hm1 : (m : Int) < (l.length : Int) := by omega
          have hm2 : ¬ ((m : Int) + 1 = 0) := by omega
          have hm3 : ((m : Int) + 1 == 0) = false := by simpa using hm2
          clear hgm hJm
          obtain ⟨r, hr⟩ : ∃ r, r = risesK l (m + 1) := ⟨_, rfl⟩
          rw [← hr] at HS ⊢
          clear hr
          cases r
          · go_wp2_with fail
            go_quiet (fail)
            go_wp2_with fail
            go_roundw
            case rel => exact ⟨m + 2, by omega, by go_num, by rw [HS.out]; rfl, (fun j z hj hz' => by
              rcases Nat.lt_or_ge j (m + 1) with h | h
              · exact hz.out j z h hz'
              · obtain rfl : j = m + 1 := by omega
                rw [HG.out] at hz'; cases hz'; exact HE.out), below_drewN HB2.out _, KC2.out.drewN _, KL2.out.drewN _⟩
            case measure => simp [intOf]; omega
          · go_wp2_with fail
            go_quiet (fail)
            go_wp2_with fail
            go_roundw
            case rel => exact ⟨m + 2, by omega, by go_num, by rw [HS.out]; simp, (fun j z hj hz' => by
              rcases Nat.lt_or_ge j (m + 1) with h | h
              · exact hz.out j z h hz'
              · obtain rfl : j = m + 1 := by omega
                rw [HG.out] at hz'; cases hz'; exact HE.out), below_drewN HB2.out _, KC2.out.drewN _, KL2.out.drewN _⟩
            case measure => simp [intOf]; omega
      · have he' : (f x != 0) = true := by simp [he]
        have ev : V = f x := by rw [HV.out]; exact tableF_first HN.out HG.out hz.out he
        have EV := Lib.hid ev
        clear he ev
        go_wp2_with fail
        go_ret
        rw [EV.out]
        exact ⟨rfl, HB2.out⟩
    · obtain rfl : k = l.length := by omega
      obtain ⟨r, hr⟩ : ∃ r, r = risesK l l.length := ⟨_, rfl⟩
      rw [← hr]
      cases r
      · have ev : V = 8 := by rw [HV.out]; exact tableF_rise HN.out hz.out hr.symm
        have EV := Lib.hid ev
        clear hr ev
        go_wp2_with fail
        go_ret
        rw [EV.out]
        exact ⟨rfl, hB.out⟩
      · have HR := Lib.hid hr.symm
        clear hr
        have cl : wr.cell? ⟨w.heap.size + 1, 0, none⟩ = some (.slice X l.length cap) := hL.out.cell 0
        go_wp2_with fail
        clear cl
        go_loopw [54] (fun i wi => ∃ k : Nat, k ≤ l.length ∧ i = .int .i64 k ∧ Hid (∀ i y, i < k → l[i]? = some y → thereB l y = true) ∧ Hid (Below w.heap.size w wi) ∧ Hid (Blk wi w.heap.size 26 #[.int .i64 d0, .int .i64 d1, .int .i64 d2, .int .i64 bo, .int .i64 fr, .int .i64 tr, .int .i64 ag, .slice K ks.length kc]) ∧ Hid (Blk wi (w.heap.size + 1) 27 #[.slice X l.length cap]))
          (fun i _ => l.length - (intOf i).toNat)
        case atStart => exact ⟨0, Nat.zero_le _, rfl, (fun i y h => by omega), hB.out, hC.out, hL.out⟩
        case round =>
          clear hB hC hL
          obtain ⟨k, hk, rfl, ht, hB, hC, hL⟩ := hrel
          by_cases hlt : k < l.length
          · have hg : l[k]? = some l[k] := List.getElem?_eq_getElem hlt
            generalize l[k] = x at hg
            have hki : (k : Int) < (l.length : Int) := by omega
            have hki0 : (0 : Int) ≤ (k : Int) := by omega
            obtain ⟨b, o, Y, cj, rfl, hb, hJ, hY⟩ := HX.out.up hB.out k x hg
            have HJ := Lib.hid hJ
            have HY := Lib.hid hY
            have HG := Lib.hid hg
            have HT := Lib.hid (fun W cl hX hY => no_there (w.heap.size + 1) (some ⟨b, o, none⟩) cap l hl x Y cj (HLA.out x (List.mem_of_getElem? hg)) W cl hX hY)
            clear hJ hY hg
            go_wp2_with (first | (refine wpList_load_mid rfl 33 _ rfl _ _ rfl _ _ HJ.out.range Try.underlying33 rfl (by kernel_rfl) ?_))
            refine (HT.out _ ((hL.out.alloc _).cell 0) (HX.out.up (below_alloc hB.out)) (HY.out.up (below_alloc (Below.refl _ _)))).mono ?_
            rintro e w2 ⟨rfl, hB2⟩
            have HB2 := Lib.hid (below_up (below_alloc hB.out) hB2)
            have KC2 := Lib.hid ((hC.out.alloc _).below hB2 (hC.out.alloc _).lt)
            have KL2 := Lib.hid ((hL.out.alloc _).below hB2 (hL.out.alloc _).lt)
            clear hB2 hB hC hL HJ HY HT
            cases hx : thereB l x
            · have ev : V = 182 := by rw [HV.out]; exact tableF_after HN.out hz.out HR.out (List.mem_of_getElem? HG.out) hx
              have EV := Lib.hid ev
              clear hx ev
              go_wp2_with fail
              go_ret
              rw [EV.out]
              exact ⟨rfl, HB2.out⟩
            · have HXT := Lib.hid hx
              clear hx
              go_wp2_with fail
              go_roundw
              case rel => exact ⟨k + 1, by omega, by go_num, (fun j z hj hz => by
                  rcases Nat.lt_or_ge j k with h | h
                  · exact ht.out j z h hz
                  · obtain rfl : j = k := by omega
                    rw [HG.out] at hz; cases hz; exact HXT.out), HB2.out, KC2.out, KL2.out⟩
              case measure => simp [intOf]; omega
          · obtain rfl : k = l.length := by omega
            have ev : V = 0 := by rw [HV.out]; exact tableF_ok HN.out hz.out HR.out ht.out
            have EV := Lib.hid ev
            clear ev
            go_wp2_with fail
            go_ret
            rw [EV.out]
            exact ⟨rfl, hB.out⟩
/-- job.Table: for all configs and tables. -/
theorem table_any (d0 d1 d2 bo fr tr ag : Int) (K : Option Addr) (kc : Nat) (ks : List Cls) (hlk : ks.length ≤ 4611686018427387904) (X : Option Addr) (cap : Nat) (l : List JV) (hl : l.length ≤ 4611686018427387904) (hla : ∀ j ∈ l, j.af.length ≤ 4611686018427387904) (w : World) (hk : ClsAt w w.heap.size K ks) (hX : JobsAt w X l) :
    Calls Try.prog 15 #[.agg #[.int .i64 d0, .int .i64 d1, .int .i64 d2, .int .i64 bo, .int .i64 fr, .int .i64 tr, .int .i64 ag, .slice K ks.length kc], .slice X l.length cap] w fun e w' => e = .returned (.int .i64 (tableV d0 d1 d2 bo fr tr ag ks l)) ∧ Below w.heap.size w w' := by
  unfold tableV
  by_cases h : CfgOk d0 d1 d2 bo fr tr ag ks
  · rw [if_pos h]
    by_cases hn : 24 < l.length
    · rw [tableF_many hn]; exact tb_many d0 d1 d2 bo fr tr ag K kc ks hlk X cap l hl hla h (by omega) w hk hX
    · exact tb_main d0 d1 d2 bo fr tr ag K kc ks hlk X cap l hl hla h hn w hk hX
  · rw [if_neg h]; exact tb_bad d0 d1 d2 bo fr tr ag K kc ks hlk X cap l hl hla h w hk hX
end Go.Proofs.Ytaldgmmmcbikgaa.JobTable
