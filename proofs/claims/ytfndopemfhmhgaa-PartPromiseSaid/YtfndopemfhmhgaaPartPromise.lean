/- PartPromise: the plain law over the contracts' values, and the walk. -/
import Derived.Test.YtfndopemfhmhgaaPartPromiseA
import Derived.Test.YtfndopemfhmhgaaPartPromiseB
import Derived.Test.YtfndopemfhmhgaaPartPromiseC
namespace Go.Proofs.Ytfndopemfhmhgaa.PartPromise
open Go.RowKit Mem PosMath PosCheck PartMath PartClass PartCheck PartEnds PartEnds2 PartTable PartNext PartFew PartTurn PartAll PartPromiseA PartPromiseB PartPromiseC
set_option linter.unusedVariables false

theorem capM_le {x y : Int} (h : x ≤ y) : capM x ≤ capM y := by unfold capM; split <;> split <;> omega
theorem capM_self {x : Int} (h : x ≤ 1099511627776) : capM x = x := capM_lo h
theorem le_capM {x y : Int} (h : x ≤ y) (h2 : x ≤ 1099511627776) : x ≤ capM y := by unfold capM; split <;> omega
theorem of_le_capM {x y : Int} (h : x ≤ capM y) : x ≤ y ∧ x ≤ 1099511627776 := by unfold capM at h; split at h <;> omega

set_option maxHeartbeats 4000000 in
theorem promiseLaw (w : World) (a b c bo fr tr ag : Int) (X : Option Addr) (cp : Nat) (ks : List Cls) (hcp : ks.length ≤ cp) (hcm : cp ≤ maxLen) (hk : ClsAt w w.heap.size X ks) (p : PV) (wj : (Lit.int .i64 p.job).wf = true) (wp : (Lit.int .u8 p.ph).wf = true) (wt : (Lit.int .i64 p.tt).wf = true) (ws : (Lit.int .i64 p.si).wf = true) (wall : Int) (ww : (Lit.int .i64 wall).wf = true) (turn : Int) (wtu : (Lit.int .u8 turn).wf = true) (now : Int) (wn : (Lit.int .i64 now).wf = true) :
    Calls Try.prog 6 #[.agg #[.int .i64 a, .int .i64 b, .int .i64 c, .int .i64 bo, .int .i64 fr, .int .i64 tr, .int .i64 ag, .slice X ks.length cp], .agg p.arr, .int .i64 wall, .int .u8 turn, .int .i64 now] w fun e w' => e = .returned (.bool true) ∧ Below w.heap.size w w' := by
  unfold maxLen at hcm
  obtain ⟨job, x1, x2, x3, x4, x5, x6, t1, t2, t3, ph, tt, si⟩ := p
  by_cases hn : 100 < ks.length
  · exact pm_many a b c bo fr tr ag X cp ks (by omega) job x1 x2 x3 x4 x5 x6 t1 t2 t3 ph tt si wall turn now hn w hk
  have hl : ks.length ≤ 9223372036854775807 := by omega
  obtain ⟨⟨ea, ee⟩, hE⟩ : ∃ r, endsV a b c bo fr tr ag ks ⟨job, x1, x2, x3, x4, x5, x6, t1, t2, t3, ph, tt, si⟩ wall = r := ⟨_, rfl⟩
  obtain ⟨⟨tb, te⟩, hT⟩ : ∃ r, turnsV a b c bo fr tr ag ks ⟨job, x1, x2, x3, x4, x5, x6, t1, t2, t3, ph, tt, si⟩ wall = r := ⟨_, rfl⟩
  by_cases h : CfgOk a b c bo fr tr ag ks ∧ PartOk job ph tt si tr
  · by_cases hW : inB wall 1 1048576 = true
    · have hE' := hE
      have hT' := hT
      unfold endsV at hE'
      unfold turnsV at hT'
      rw [if_pos h, if_pos hW] at hE' hT'
      obtain ⟨e1, e2⟩ := Prod.mk.inj hE'
      obtain ⟨e3, e4⟩ := Prod.mk.inj hT'
      dsimp only at e1 e3
      have b1 := inB_true hW
      have b2 := inB_true h.1.2.1
      have b3 := inB_true h.1.2.2.1
      have b4 := inB_true h.2.2.2.2
      have b5 := h.2.2.1
      have hlr : clockR ph bo wall fr ≤ leftR ph bo wall fr ∧ 0 ≤ clockR ph bo wall fr := by unfold clockR leftR; split <;> (try split) <;> omega
      have k1 : ¬ ea < tb := by rw [← e1, ← e3]; have := capM_le (x := si + clockR ph bo wall fr) (y := si + leftR ph bo wall fr) (by omega); omega
      have k2 : ¬ ea < si := by rw [← e1]; have := le_capM (x := si) (y := si + leftR ph bo wall fr) (by omega) (by omega); omega
      obtain ⟨⟨q, nj, ng, ne⟩, hX⟩ : ∃ r, nextA a b c bo fr tr ag ks ⟨job, x1, x2, x3, x4, x5, x6, t1, t2, t3, ph, tt, si⟩ turn now = r := ⟨_, rfl⟩
      have hX' := hX
      unfold nextA at hX'
      rw [if_pos h] at hX'
      have hw := went tr ⟨job, x1, x2, x3, x4, x5, x6, t1, t2, t3, ph, tt, si⟩ turn now b5
      rw [hX'] at hw
      obtain ⟨job_, x1_, x2_, x3_, x4_, x5_, x6_, t1_, t2_, t3_, ph_, tt_, si_⟩ := q
      by_cases n0 : ne = 0
      · by_cases n1 : ng = true
        · exact pm_g a b c bo fr tr ag X cp ks hl job x1 x2 x3 x4 x5 x6 t1 t2 t3 ph tt si wall turn now hn ea ee tb te hE hT nj ne ng job_ x1_ x2_ x3_ x4_ x5_ x6_ t1_ t2_ t3_ ph_ tt_ si_ hX e2.symm e4.symm k1 k2 n0 n1 w hk
        · have n1' : ng = false := by simpa using n1
          by_cases n2 : turn = 2
          · exact pm_t a b c bo fr tr ag X cp ks hl job x1 x2 x3 x4 x5 x6 t1 t2 t3 ph tt si wall turn now hn ea ee tb te hE hT nj ne ng job_ x1_ x2_ x3_ x4_ x5_ x6_ t1_ t2_ t3_ ph_ tt_ si_ hX e2.symm e4.symm k1 k2 n0 n1' n2 w hk
          · by_cases n3 : tb < now
            · exact pm_n a b c bo fr tr ag X cp ks hl job x1 x2 x3 x4 x5 x6 t1 t2 t3 ph tt si wall turn now hn ea ee tb te hE hT nj ne ng job_ x1_ x2_ x3_ x4_ x5_ x6_ t1_ t2_ t3_ ph_ tt_ si_ hX e2.symm e4.symm k1 k2 n0 n1' n2 n3 w hk
            · subst n0 n1'
              have hnow : now ≤ si + clockR ph bo wall fr ∧ now ≤ 1099511627776 := of_le_capM (by rw [e3]; omega)
              have key : ∃ ph' si', (⟨job_, x1_, x2_, x3_, x4_, x5_, x6_, t1_, t2_, t3_, ph_, tt_, si_⟩ : PV) = (⟨job, x1, x2, x3, x4, x5, x6, t1, t2, t3, ph', tt, si'⟩ : PV) ∧ (1 ≤ ph' ∧ ph' ≤ 3) ∧ (0 ≤ si' ∧ si' ≤ 1099511627776) ∧ si' + leftR ph' bo wall fr ≤ si + leftR ph bo wall fr := by
                rcases hw with hw | ⟨hin, hw | hw | hw | hw | hw⟩
                · exact absurd rfl hw
                · simp at hw
                · obtain ⟨hq, _, _⟩ := hw
                  obtain ⟨hq, _⟩ := Prod.mk.inj hq
                  exact ⟨ph, si, hq, b5, b4, Int.le_refl _⟩
                · exact absurd hw.2.1 n2
                · obtain ⟨hp, _, hq⟩ := hw
                  obtain ⟨hq, _⟩ := Prod.mk.inj hq
                  have b6 := inB_true hin
                  dsimp only at hp b6
                  subst hp
                  refine ⟨2, now, hq, by omega, by omega, ?_⟩
                  simp [leftR, clockR] at hnow ⊢
                  omega
                · obtain ⟨hp, _, _, _, j, _, _, hq⟩ := hw
                  obtain ⟨hq, _⟩ := Prod.mk.inj hq
                  have b6 := inB_true hin
                  dsimp only at hp b6
                  refine ⟨3, now, hq, by omega, by omega, ?_⟩
                  rcases hp with hp | hp <;> subst hp <;> simp [leftR, clockR] at hnow ⊢ <;> omega
              obtain ⟨ph', si', hq, c1, c2, c3⟩ := key
              rw [hq] at hX
              have hE2 : endsV a b c bo fr tr ag ks ⟨job, x1, x2, x3, x4, x5, x6, t1, t2, t3, ph', tt, si'⟩ wall = (capM (si' + leftR ph' bo wall fr), 0) := by
                unfold endsV
                rw [if_pos ⟨h.1, h.2.1, c1, h.2.2.2.1, inB_mk c2.1 c2.2⟩, if_pos hW]
              exact pm_last a b c bo fr tr ag X cp ks hl job x1 x2 x3 x4 x5 x6 t1 t2 t3 ph tt si wall turn now hn ea ee tb te hE hT nj ph' tt si' hX _ hE2 e2.symm e4.symm k1 k2 n2 n3 (by rw [← e1]; exact capM_le c3) w hk
      · exact pm_e a b c bo fr tr ag X cp ks hl job x1 x2 x3 x4 x5 x6 t1 t2 t3 ph tt si wall turn now hn ea ee tb te hE hT nj ne ng job_ x1_ x2_ x3_ x4_ x5_ x6_ t1_ t2_ t3_ ph_ tt_ si_ hX e2.symm e4.symm k1 k2 n0 w hk
    · have hE' := hE
      have hT' := hT
      unfold endsV at hE'
      unfold turnsV at hT'
      rw [if_pos h, if_neg hW] at hE' hT'
      obtain ⟨e1, e2⟩ := Prod.mk.inj hE'
      obtain ⟨e3, e4⟩ := Prod.mk.inj hT'
      exact pm_bad a b c bo fr tr ag X cp ks hl job x1 x2 x3 x4 x5 x6 t1 t2 t3 ph tt si wall turn now hn ea ee tb te hE hT (by omega) (by omega) (by omega) (by omega) w hk
  · have hE' := hE
    have hT' := hT
    unfold endsV at hE'
    unfold turnsV at hT'
    rw [if_neg h] at hE' hT'
    obtain ⟨e1, e2⟩ := Prod.mk.inj hE'
    obtain ⟨e3, e4⟩ := Prod.mk.inj hT'
    exact pm_bad a b c bo fr tr ag X cp ks hl job x1 x2 x3 x4 x5 x6 t1 t2 t3 ph tt si wall turn now hn ea ee tb te hE hT (by omega) (by omega) (by omega) (by omega) w hk
end Go.Proofs.Ytfndopemfhmhgaa.PartPromise
