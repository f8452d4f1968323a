/- The walk of TurnGroup. -/
import Derived.Deep.DeepCutAuto
import Derived.Test.YtcapbkihjjhkjaaTurnGroupA
namespace Go.Proofs.Ytcapbkihjjhkjaa.TurnGroupD
open Go.RowKit Go.Sort Mem PosMath PosCheck TurnMath TurnWalks TurnMap TurnSorted TurnAll TurnFitsOf TurnAlive TurnGroupA
set_option linter.unusedVariables false
set_option linter.unusedSimpArgs false

theorem two {a b : Int} (ha : inD a) (hb : inD b) : -9223372036854775808 ≤ a * b ∧ a * b ≤ 9223372036854775807 := by
  obtain ⟨a1, a2⟩ := ha
  obtain ⟨b1, b2⟩ := hb
  have h1 : 0 ≤ a * b := Int.mul_nonneg (by omega) (by omega)
  have h2 : a * b ≤ 16 * 16 := Int.mul_le_mul a2 b2 (by omega) (by omega)
  omega
theorem three {a b c : Int} (ha : inD a) (hb : inD b) (hc : inD c) : -9223372036854775808 ≤ a * b * c ∧ a * b * c ≤ 9223372036854775807 := by
  obtain ⟨a1, a2⟩ := ha
  obtain ⟨b1, b2⟩ := hb
  obtain ⟨c1, c2⟩ := hc
  have h1 : 0 ≤ a * b := Int.mul_nonneg (by omega) (by omega)
  have h2 : a * b ≤ 16 * 16 := Int.mul_le_mul a2 b2 (by omega) (by omega)
  have h3 : 0 ≤ a * b * c := Int.mul_nonneg h1 (by omega)
  have h4 : a * b * c ≤ (16 * 16) * 16 := Int.mul_le_mul h2 c2 (by omega) (by omega)
  omega
set_option maxRecDepth 100000 in
set_option maxHeartbeats 16000000 in
theorem grp_true6 (a b c : Int) (p q r : Bool) (h : WOk ⟨a, b, c, p, q, r, true⟩) (l : List WV) (hl : l = allL ⟨a, b, c, p, q, r, true⟩) (hN : l.length = 6) (w : World) :
    Calls Try.prog 3 #[.agg #[.int .i64 a, .int .i64 b, .int .i64 c, .bool p, .bool q, .bool r, .bool true]] w fun e w' => e = .returned (.bool true) ∧ Below w.heap.size w w' := by
  have hok : ∀ x ∈ l, WOk x ∧ x.tn = true := fun x hx => by rw [hl] at hx; exact allL_ok h hx
  have hgr : ∀ x ∈ l, allL x = l := fun x hx => by rw [hl] at hx ⊢; exact group h hx
  have hlike : ∀ x ∈ l, bitI x.p + bitI x.q + bitI x.r = bitI p + bitI q + bitI r ∧ x.a * x.b * x.c = a * b * c := fun x hx => by rw [hl] at hx; exact rot_like h hx
  have hmem : (⟨a, b, c, p, q, r, true⟩ : WV) ∈ l := by rw [hl]; exact own_mem h
  have hnd : l.Nodup := by rw [hl]; exact rising_nodup (allL_is h).1
  have hof : ∀ x ∈ l, ofV ⟨a, b, c, p, q, r, true⟩ ⟨x.a, x.b, x.c, x.p, x.q, x.r, true⟩ = (true, 0) := fun x hx => by
    have e : (⟨x.a, x.b, x.c, x.p, x.q, x.r, true⟩ : WV) = x := by rw [← (hok x hx).2]
    unfold ofV
    rw [if_pos h, e, ← hl]
    simp [hx]
  have hA := all_any ⟨a, b, c, p, q, r, true⟩
  unfold WV.arr at hA
  dsimp only at hA
  have HF := Lib.hid (And.intro hok (And.intro hgr (And.intro hlike (And.intro hmem (And.intro hnd hof)))))
  have HA := Lib.hid (And.intro hA (And.intro h hl))
  clear hok hgr hlike hmem hnd hof hA h hl
  go_enter Try.func3, Try.ntmps3
  go_wp2_with fail
  refine (alive_any _).mono ?_
  rintro e w1 ⟨rfl, hB1⟩
  have kx : Blk w1 w.heap.size 25 #[.int .i64 a, .int .i64 b, .int .i64 c, .bool p, .bool q, .bool r, .bool true] := (Blk.new w _ _).below hB1 (by simp)
  have HB1 := Lib.hid (below_up (below_alloc (Below.refl _ w)) hB1)
  have K1 := Lib.hid kx
  have x0 : w1.cell? ⟨w.heap.size, 0, none⟩ = some (.int .i64 a) := (K1.out).cell 0
  have x1 : w1.cell? ⟨w.heap.size, 1, none⟩ = some (.int .i64 b) := (K1.out).cell 1
  have x2 : w1.cell? ⟨w.heap.size, 2, none⟩ = some (.int .i64 c) := (K1.out).cell 2
  have x3 : w1.cell? ⟨w.heap.size, 3, none⟩ = some (.bool p) := (K1.out).cell 3
  have x4 : w1.cell? ⟨w.heap.size, 4, none⟩ = some (.bool q) := (K1.out).cell 4
  have x5 : w1.cell? ⟨w.heap.size, 5, none⟩ = some (.bool r) := (K1.out).cell 5
  have x6 : w1.cell? ⟨w.heap.size, 6, none⟩ = some (.bool true) := (K1.out).cell 6
  clear hB1 kx
  go_wp2_with fail
  refine (HA.out.1 _).mono ?_
  rintro e w2 ⟨v, m, rfl, hr, hB2⟩
  obtain ⟨X, cap, hv, hcl, hcm, hh, hm0⟩ : ∃ X cap, v = .slice X 6 cap ∧ 6 ≤ cap ∧ cap ≤ maxLen ∧ Has w2 X l ∧ m = 0 := by
    rcases hr with ⟨_, hm, hW⟩ | ⟨hb, _, _⟩
    · obtain ⟨X, cap, e, h1, h2, h3⟩ := wsl_has hW
      rw [← HA.out.2.2] at e h1 h3
      rw [hN] at e h1
      exact ⟨X, cap, e, h1, h2, h3, hm⟩
    · exact absurd HA.out.2.1 hb
  subst hv hm0
  have HB2 := Lib.hid (below_up HB1.out hB2)
  have K2 := Lib.hid (K1.out.below hB2 K1.out.lt)
  have HH := Lib.hid hh
  clear x0 x1 x2 x3 x4 x5 x6
  clear hr hB2 hh hcl
  have x0 : w2.cell? ⟨w.heap.size, 0, none⟩ = some (.int .i64 a) := (K2.out).cell 0
  have x1 : w2.cell? ⟨w.heap.size, 1, none⟩ = some (.int .i64 b) := (K2.out).cell 1
  have x2 : w2.cell? ⟨w.heap.size, 2, none⟩ = some (.int .i64 c) := (K2.out).cell 2
  have x3 : w2.cell? ⟨w.heap.size, 3, none⟩ = some (.bool p) := (K2.out).cell 3
  have x4 : w2.cell? ⟨w.heap.size, 4, none⟩ = some (.bool q) := (K2.out).cell 4
  have x5 : w2.cell? ⟨w.heap.size, 5, none⟩ = some (.bool r) := (K2.out).cell 5
  have x6 : w2.cell? ⟨w.heap.size, 6, none⟩ = some (.bool true) := (K2.out).cell 6
  go_wp2_with fail
  clear x0 x1 x2 x3 x4 x5 x6
  go_loopw [7, 8] (fun own i wr => ∃ (k : Nat) (ob : Bool), k ≤ 6 ∧ i = .int .i64 k ∧ own = .bool ob ∧ Hid (ob = decide ((⟨a, b, c, p, q, r, true⟩ : WV) ∈ l.take k)) ∧ Hid (Below w2.heap.size w2 wr))
    (fun _ i _ => 6 - (intOf i).toNat)
  case atStart => exact ⟨0, false, by omega, rfl, rfl, (show false = decide _ by simp), Below.refl _ _⟩
  case round =>
    obtain ⟨k, ob, hk, rfl, rfl, hob, hB⟩ := hrel
    by_cases hlt : k < 6
    · have hg : l[k]? = some l[k] := List.getElem?_eq_getElem (by omega)
      generalize l[k] = x at hg
      have hxl := List.mem_of_getElem? hg
      obtain ⟨b0, o0, rfl, hb0, y0, y1, y2, y3, y4, y5, y6⟩ := (HH.out.up hB.out) k x hg
      have kki : (k : Int) < 6 := by omega
      have HG := Lib.hid hg
      have HXL := Lib.hid hxl
      clear hg hxl
      have KW := Lib.hid (K2.out.below hB.out K2.out.lt)
      have x0 : wr.cell? ⟨w.heap.size, 0, none⟩ = some (.int .i64 a) := (KW.out).cell 0
      have x1 : wr.cell? ⟨w.heap.size, 1, none⟩ = some (.int .i64 b) := (KW.out).cell 1
      have x2 : wr.cell? ⟨w.heap.size, 2, none⟩ = some (.int .i64 c) := (KW.out).cell 2
      have x3 : wr.cell? ⟨w.heap.size, 3, none⟩ = some (.bool p) := (KW.out).cell 3
      have x4 : wr.cell? ⟨w.heap.size, 4, none⟩ = some (.bool q) := (KW.out).cell 4
      have x5 : wr.cell? ⟨w.heap.size, 5, none⟩ = some (.bool r) := (KW.out).cell 5
      have x6 : wr.cell? ⟨w.heap.size, 6, none⟩ = some (.bool true) := (KW.out).cell 6
      have hAx := all_any x
      unfold WV.arr at hAx
      have HAx := Lib.hid hAx
      clear hAx
      go_wp2_with fail
      refine (HAx.out _).mono ?_
      rintro e w3 ⟨v3, m3, rfl, hr3, hB3⟩
      obtain ⟨X3, cap3, hv3, hh3, hm3⟩ : ∃ X cap, v3 = .slice X 6 cap ∧ Has w3 X l ∧ m3 = 0 := by
        rcases hr3 with ⟨_, hm, hW⟩ | ⟨hb, _, _⟩
        · obtain ⟨X, cap, e, h1, h2, h3⟩ := wsl_has hW
          rw [HF.out.2.1 x HXL.out] at e h1 h3
          rw [hN] at e
          exact ⟨X, cap, e, h3, hm⟩
        · exact absurd (HF.out.1 x HXL.out).1 hb
      subst hv3 hm3
      have hBa : Below w2.heap.size w2 w3 := below_up (below_alloc hB.out) hB3
      have HB3 := Lib.hid hBa
      have K3 := Lib.hid (K2.out.below hBa K2.out.lt)
      have kq : Blk w3 wr.heap.size 25 #[.int .i64 x.a, .int .i64 x.b, .int .i64 x.c, .bool x.p, .bool x.q, .bool x.r, .bool x.tn] := (Blk.new wr _ _).below hB3 (by simp)
      have Q3 := Lib.hid kq
      have H3 := Lib.hid hh3
      clear x0 x1 x2 x3 x4 x5 x6 y0 y1 y2 y3 y4 y5 y6
      clear hr3 hB3 hh3 hBa kq
      have x0 : w3.cell? ⟨w.heap.size, 0, none⟩ = some (.int .i64 a) := (K3.out).cell 0
      have x1 : w3.cell? ⟨w.heap.size, 1, none⟩ = some (.int .i64 b) := (K3.out).cell 1
      have x2 : w3.cell? ⟨w.heap.size, 2, none⟩ = some (.int .i64 c) := (K3.out).cell 2
      have x3 : w3.cell? ⟨w.heap.size, 3, none⟩ = some (.bool p) := (K3.out).cell 3
      have x4 : w3.cell? ⟨w.heap.size, 4, none⟩ = some (.bool q) := (K3.out).cell 4
      have x5 : w3.cell? ⟨w.heap.size, 5, none⟩ = some (.bool r) := (K3.out).cell 5
      have x6 : w3.cell? ⟨w.heap.size, 6, none⟩ = some (.bool true) := (K3.out).cell 6
      have q0 : w3.cell? ⟨wr.heap.size, 0, none⟩ = some (.int .i64 x.a) := (Q3.out).cell 0
      have q1 : w3.cell? ⟨wr.heap.size, 1, none⟩ = some (.int .i64 x.b) := (Q3.out).cell 1
      have q2 : w3.cell? ⟨wr.heap.size, 2, none⟩ = some (.int .i64 x.c) := (Q3.out).cell 2
      have q3 : w3.cell? ⟨wr.heap.size, 3, none⟩ = some (.bool x.p) := (Q3.out).cell 3
      have q4 : w3.cell? ⟨wr.heap.size, 4, none⟩ = some (.bool x.q) := (Q3.out).cell 4
      have q5 : w3.cell? ⟨wr.heap.size, 5, none⟩ = some (.bool x.r) := (Q3.out).cell 5
      have q6 : w3.cell? ⟨wr.heap.size, 6, none⟩ = some (.bool x.tn) := (Q3.out).cell 6
      have hO := of_any ⟨a, b, c, p, q, r, true⟩ x.a x.b x.c x.p x.q x.r (wwf_of (HF.out.1 x HXL.out).1).1 (wwf_of (HF.out.1 x HXL.out).1).2.1 (wwf_of (HF.out.1 x HXL.out).1).2.2
      dsimp only at hO
      rw [HF.out.2.2.2.2.2 x HXL.out] at hO
      unfold WV.arr at hO
      dsimp only at hO
      have HO := Lib.hid hO
      clear hO
      go_wp2_with fail
      refine (HO.out _).mono ?_
      rintro e w4 ⟨rfl, hB4⟩
      have HB4 := Lib.hid (below_up HB3.out hB4)
      have K4 := Lib.hid (K3.out.below hB4 K3.out.lt)
      have Q4 := Lib.hid (Q3.out.below hB4 Q3.out.lt)
      have H4 := Lib.hid (And.intro (HH.out.up HB4.out) (H3.out.up hB4))
      clear x0 x1 x2 x3 x4 x5 x6 q0 q1 q2 q3 q4 q5 q6
      clear hB4
      have x0 : w4.cell? ⟨w.heap.size, 0, none⟩ = some (.int .i64 a) := (K4.out).cell 0
      have x1 : w4.cell? ⟨w.heap.size, 1, none⟩ = some (.int .i64 b) := (K4.out).cell 1
      have x2 : w4.cell? ⟨w.heap.size, 2, none⟩ = some (.int .i64 c) := (K4.out).cell 2
      have x3 : w4.cell? ⟨w.heap.size, 3, none⟩ = some (.bool p) := (K4.out).cell 3
      have x4 : w4.cell? ⟨w.heap.size, 4, none⟩ = some (.bool q) := (K4.out).cell 4
      have x5 : w4.cell? ⟨w.heap.size, 5, none⟩ = some (.bool r) := (K4.out).cell 5
      have x6 : w4.cell? ⟨w.heap.size, 6, none⟩ = some (.bool true) := (K4.out).cell 6
      have q0 : w4.cell? ⟨wr.heap.size, 0, none⟩ = some (.int .i64 x.a) := (Q4.out).cell 0
      have q1 : w4.cell? ⟨wr.heap.size, 1, none⟩ = some (.int .i64 x.b) := (Q4.out).cell 1
      have q2 : w4.cell? ⟨wr.heap.size, 2, none⟩ = some (.int .i64 x.c) := (Q4.out).cell 2
      have q3 : w4.cell? ⟨wr.heap.size, 3, none⟩ = some (.bool x.p) := (Q4.out).cell 3
      have q4 : w4.cell? ⟨wr.heap.size, 4, none⟩ = some (.bool x.q) := (Q4.out).cell 4
      have q5 : w4.cell? ⟨wr.heap.size, 5, none⟩ = some (.bool x.r) := (Q4.out).cell 5
      have q6 : w4.cell? ⟨wr.heap.size, 6, none⟩ = some (.bool x.tn) := (Q4.out).cell 6
      have kx0 := cell_regrown x0
      have kq0 := cell_regrown q0
      have kx1 := cell_regrown x1
      have kq1 := cell_regrown q1
      have kx2 := cell_regrown x2
      have kq2 := cell_regrown q2
      have kx3 := cell_regrown x3
      have kq3 := cell_regrown q3
      have kx4 := cell_regrown x4
      have kq4 := cell_regrown q4
      have kx5 := cell_regrown x5
      have kq5 := cell_regrown q5
      have kx6 := cell_regrown x6
      have kq6 := cell_regrown q6
      have hlk := HF.out.2.2.1 x HXL.out
      have f6 : (bitI x.p + bitI x.q + bitI x.r != bitI p + bitI q + bitI r) = false := by rw [hlk.1]; simp
      have okx := (HF.out.1 x HXL.out).1
      have okw := HA.out.2.1
      have f1 : IntKind.i64.wrap (x.a * x.b) = x.a * x.b := IntWalk.i64_in _ (two okx.1 okx.2.1)
      have f2 : IntKind.i64.wrap (x.a * x.b * x.c) = x.a * x.b * x.c := IntWalk.i64_in _ (three okx.1 okx.2.1 okx.2.2)
      have f3 : IntKind.i64.wrap (a * b) = a * b := IntWalk.i64_in _ (two okw.1 okw.2.1)
      have f4 : IntKind.i64.wrap (a * b * c) = a * b * c := IntWalk.i64_in _ (three okw.1 okw.2.1 okw.2.2)
      have f5 : (x.a * x.b * x.c != a * b * c) = false := by rw [hlk.2]; simp
      have hsm := fun (w : World) h1 h2 => same_any (some ⟨b0, o0, none⟩) X3 cap cap3 l (by omega) (fun z hz => wwf_of (HF.out.1 z hz).1) w h1 h2
      rw [hN] at hsm
      have HSM := Lib.hid hsm
      clear hlk okx okw hsm
      go_wp2_with fail
      refine wp_region_quiet_below (by kernel_rfl) (by kernel_rfl) ?_
      repeat (go_big_quiet_step (first | exact Calls.regrown_of (HSM.out _ (H4.out.1.up (below_regrown _ _ _)) (H4.out.2.up (below_regrown _ _ _))) | exact Calls.regrown_of (tori_any _ _ _ _ _ _ _ _)))
      refine wpQuiet_nil ?_
      intro _ hw'
      obtain ⟨⟨dq, osq⟩, hw''⟩ := hw'
      subst hw''
      have hB5 := below_regrown w4 dq osq
      have HB5 := Lib.hid (below_up HB4.out hB5)
      have K5 := Lib.hid (K4.out.below hB5 K4.out.lt)
      have Q5 := Lib.hid (Q4.out.below hB5 Q4.out.lt)
      clear kx0 kx1 kx2 kx3 kx4 kx5 kx6 kq0 kq1 kq2 kq3 kq4 kq5 kq6 hB5
      clear x0 x1 x2 x3 x4 x5 x6 q0 q1 q2 q3 q4 q5 q6
      generalize grow (redrawn w4 dq) osq = w5 at *
      have x0 : w5.cell? ⟨w.heap.size, 0, none⟩ = some (.int .i64 a) := (K5.out).cell 0
      have x1 : w5.cell? ⟨w.heap.size, 1, none⟩ = some (.int .i64 b) := (K5.out).cell 1
      have x2 : w5.cell? ⟨w.heap.size, 2, none⟩ = some (.int .i64 c) := (K5.out).cell 2
      have x3 : w5.cell? ⟨w.heap.size, 3, none⟩ = some (.bool p) := (K5.out).cell 3
      have x4 : w5.cell? ⟨w.heap.size, 4, none⟩ = some (.bool q) := (K5.out).cell 4
      have x5 : w5.cell? ⟨w.heap.size, 5, none⟩ = some (.bool r) := (K5.out).cell 5
      have x6 : w5.cell? ⟨w.heap.size, 6, none⟩ = some (.bool true) := (K5.out).cell 6
      have q0 : w5.cell? ⟨wr.heap.size, 0, none⟩ = some (.int .i64 x.a) := (Q5.out).cell 0
      have q1 : w5.cell? ⟨wr.heap.size, 1, none⟩ = some (.int .i64 x.b) := (Q5.out).cell 1
      have q2 : w5.cell? ⟨wr.heap.size, 2, none⟩ = some (.int .i64 x.c) := (Q5.out).cell 2
      have q3 : w5.cell? ⟨wr.heap.size, 3, none⟩ = some (.bool x.p) := (Q5.out).cell 3
      have q4 : w5.cell? ⟨wr.heap.size, 4, none⟩ = some (.bool x.q) := (Q5.out).cell 4
      have q5 : w5.cell? ⟨wr.heap.size, 5, none⟩ = some (.bool x.r) := (Q5.out).cell 5
      have q6 : w5.cell? ⟨wr.heap.size, 6, none⟩ = some (.bool x.tn) := (Q5.out).cell 6
      go_upto_region 17 with fail
      have heq := eq_wants (wwf_of (HF.out.1 x HXL.out).1) (wwf_of HA.out.2.1)
      unfold WV.arr at heq
      dsimp only at heq
      obtain ⟨d, hd⟩ : ∃ d, d = decide (x = (⟨a, b, c, p, q, r, true⟩ : WV)) := ⟨_, rfl⟩
      rw [← hd] at heq
      have hnew : decide ((⟨a, b, c, p, q, r, true⟩ : WV) ∈ l.take (k + 1)) = (ob || d) := by
        rw [hob.out, hd, List.take_add_one, HG.out]
        simp [eq_comm]
      have HNEW := Lib.hid hnew
      have HD := Lib.hid hd
      clear hnew hd hob hB hlt
      generalize wr.heap.size = gq at *
      cases ob <;> cases d
      · skip
        go_wp2_with fail
        clear x0 x1 x2 x3 x4 x5 x6 q0 q1 q2 q3 q4 q5 q6
        go_loopw [14] (fun j wi => ∃ m : Nat, m ≤ k ∧ j = .int .i64 m ∧ Hid (Below w5.heap.size w5 wi))
          (fun j _ => k - (intOf j).toNat)
        case atStart => exact ⟨0, Nat.zero_le _, rfl, Below.refl _ _⟩
        case round =>
          obtain ⟨m, hm, rfl, hBi⟩ := hrel
          by_cases hmk : m < k
          · have hg2 : l[m]? = some l[m] := List.getElem?_eq_getElem (by omega)
            generalize l[m] = z at hg2
            have hBz := below_up HB5.out hBi.out
            obtain ⟨b2, o2, hbo, hb2, z0, z1, z2, z3, z4, z5, z6⟩ := (HH.out.up hBz) m z hg2
            obtain ⟨rfl, rfl⟩ : b0 = b2 ∧ o0 = o2 := by cases hbo; exact ⟨rfl, rfl⟩
            have kq := Q5.out.below hBi.out Q5.out.lt
            have q0 : wr.cell? ⟨gq, 0, none⟩ = some (.int .i64 x.a) := kq.cell 0
            have q1 : wr.cell? ⟨gq, 1, none⟩ = some (.int .i64 x.b) := kq.cell 1
            have q2 : wr.cell? ⟨gq, 2, none⟩ = some (.int .i64 x.c) := kq.cell 2
            have q3 : wr.cell? ⟨gq, 3, none⟩ = some (.bool x.p) := kq.cell 3
            have q4 : wr.cell? ⟨gq, 4, none⟩ = some (.bool x.q) := kq.cell 4
            have q5 : wr.cell? ⟨gq, 5, none⟩ = some (.bool x.r) := kq.cell 5
            have q6 : wr.cell? ⟨gq, 6, none⟩ = some (.bool x.tn) := kq.cell 6
            have hne : z ≠ x := fun e => by
              rw [e] at hg2
              have hm' : m < l.length := by omega
              have hk' : k < l.length := by omega
              have h1 : l[m] = x := by rw [List.getElem?_eq_getElem hm'] at hg2; exact Option.some.inj hg2
              have h2 : l[k] = x := by have := HG.out; rw [List.getElem?_eq_getElem hk'] at this; exact Option.some.inj this
              exact (List.pairwise_iff_getElem.1 HF.out.2.2.2.2.1 m k hm' hk' hmk) (h1.trans h2.symm)
            have hez := eq_wants (wwf_of (HF.out.1 z (List.mem_of_getElem? hg2)).1) (wwf_of (HF.out.1 x HXL.out).1)
            unfold WV.arr at hez
            rw [show decide (z = x) = false by simp [hne]] at hez
            have mkz : (m : Int) < (k : Int) := by omega
            have mn : (m : Int) < 6 := by omega
            clear hne hg2 kq hBz hbo
            go_wp2_with fail
            go_quiet (fail)
            go_wp2_with fail
            go_roundw
            case rel => exact ⟨m + 1, by omega, by go_num, below_drewN hBi.out _⟩
            case measure => simp [intOf]; omega
          · have mkz : ¬ (m : Int) < (k : Int) := by omega
            go_wp2_with fail
            go_roundw
            case rel => exact ⟨k + 1, false, by omega, by go_num, rfl, HNEW.out.symm, below_up HB5.out hBi.out⟩
            case measure => simp [intOf]; omega
      · skip
        go_wp2_with fail
        clear x0 x1 x2 x3 x4 x5 x6 q0 q1 q2 q3 q4 q5 q6
        go_loopw [14] (fun j wi => ∃ m : Nat, m ≤ k ∧ j = .int .i64 m ∧ Hid (Below w5.heap.size w5 wi))
          (fun j _ => k - (intOf j).toNat)
        case atStart => exact ⟨0, Nat.zero_le _, rfl, Below.refl _ _⟩
        case round =>
          obtain ⟨m, hm, rfl, hBi⟩ := hrel
          by_cases hmk : m < k
          · have hg2 : l[m]? = some l[m] := List.getElem?_eq_getElem (by omega)
            generalize l[m] = z at hg2
            have hBz := below_up HB5.out hBi.out
            obtain ⟨b2, o2, hbo, hb2, z0, z1, z2, z3, z4, z5, z6⟩ := (HH.out.up hBz) m z hg2
            obtain ⟨rfl, rfl⟩ : b0 = b2 ∧ o0 = o2 := by cases hbo; exact ⟨rfl, rfl⟩
            have kq := Q5.out.below hBi.out Q5.out.lt
            have q0 : wr.cell? ⟨gq, 0, none⟩ = some (.int .i64 x.a) := kq.cell 0
            have q1 : wr.cell? ⟨gq, 1, none⟩ = some (.int .i64 x.b) := kq.cell 1
            have q2 : wr.cell? ⟨gq, 2, none⟩ = some (.int .i64 x.c) := kq.cell 2
            have q3 : wr.cell? ⟨gq, 3, none⟩ = some (.bool x.p) := kq.cell 3
            have q4 : wr.cell? ⟨gq, 4, none⟩ = some (.bool x.q) := kq.cell 4
            have q5 : wr.cell? ⟨gq, 5, none⟩ = some (.bool x.r) := kq.cell 5
            have q6 : wr.cell? ⟨gq, 6, none⟩ = some (.bool x.tn) := kq.cell 6
            have hne : z ≠ x := fun e => by
              rw [e] at hg2
              have hm' : m < l.length := by omega
              have hk' : k < l.length := by omega
              have h1 : l[m] = x := by rw [List.getElem?_eq_getElem hm'] at hg2; exact Option.some.inj hg2
              have h2 : l[k] = x := by have := HG.out; rw [List.getElem?_eq_getElem hk'] at this; exact Option.some.inj this
              exact (List.pairwise_iff_getElem.1 HF.out.2.2.2.2.1 m k hm' hk' hmk) (h1.trans h2.symm)
            have hez := eq_wants (wwf_of (HF.out.1 z (List.mem_of_getElem? hg2)).1) (wwf_of (HF.out.1 x HXL.out).1)
            unfold WV.arr at hez
            rw [show decide (z = x) = false by simp [hne]] at hez
            have mkz : (m : Int) < (k : Int) := by omega
            have mn : (m : Int) < 6 := by omega
            clear hne hg2 kq hBz hbo
            go_wp2_with fail
            go_quiet (fail)
            go_wp2_with fail
            go_roundw
            case rel => exact ⟨m + 1, by omega, by go_num, below_drewN hBi.out _⟩
            case measure => simp [intOf]; omega
          · have mkz : ¬ (m : Int) < (k : Int) := by omega
            go_wp2_with fail
            go_roundw
            case rel => exact ⟨k + 1, true, by omega, by go_num, rfl, HNEW.out.symm, below_up HB5.out hBi.out⟩
            case measure => simp [intOf]; omega
      · skip
        go_wp2_with fail
        clear x0 x1 x2 x3 x4 x5 x6 q0 q1 q2 q3 q4 q5 q6
        go_loopw [14] (fun j wi => ∃ m : Nat, m ≤ k ∧ j = .int .i64 m ∧ Hid (Below w5.heap.size w5 wi))
          (fun j _ => k - (intOf j).toNat)
        case atStart => exact ⟨0, Nat.zero_le _, rfl, Below.refl _ _⟩
        case round =>
          obtain ⟨m, hm, rfl, hBi⟩ := hrel
          by_cases hmk : m < k
          · have hg2 : l[m]? = some l[m] := List.getElem?_eq_getElem (by omega)
            generalize l[m] = z at hg2
            have hBz := below_up HB5.out hBi.out
            obtain ⟨b2, o2, hbo, hb2, z0, z1, z2, z3, z4, z5, z6⟩ := (HH.out.up hBz) m z hg2
            obtain ⟨rfl, rfl⟩ : b0 = b2 ∧ o0 = o2 := by cases hbo; exact ⟨rfl, rfl⟩
            have kq := Q5.out.below hBi.out Q5.out.lt
            have q0 : wr.cell? ⟨gq, 0, none⟩ = some (.int .i64 x.a) := kq.cell 0
            have q1 : wr.cell? ⟨gq, 1, none⟩ = some (.int .i64 x.b) := kq.cell 1
            have q2 : wr.cell? ⟨gq, 2, none⟩ = some (.int .i64 x.c) := kq.cell 2
            have q3 : wr.cell? ⟨gq, 3, none⟩ = some (.bool x.p) := kq.cell 3
            have q4 : wr.cell? ⟨gq, 4, none⟩ = some (.bool x.q) := kq.cell 4
            have q5 : wr.cell? ⟨gq, 5, none⟩ = some (.bool x.r) := kq.cell 5
            have q6 : wr.cell? ⟨gq, 6, none⟩ = some (.bool x.tn) := kq.cell 6
            have hne : z ≠ x := fun e => by
              rw [e] at hg2
              have hm' : m < l.length := by omega
              have hk' : k < l.length := by omega
              have h1 : l[m] = x := by rw [List.getElem?_eq_getElem hm'] at hg2; exact Option.some.inj hg2
              have h2 : l[k] = x := by have := HG.out; rw [List.getElem?_eq_getElem hk'] at this; exact Option.some.inj this
              exact (List.pairwise_iff_getElem.1 HF.out.2.2.2.2.1 m k hm' hk' hmk) (h1.trans h2.symm)
            have hez := eq_wants (wwf_of (HF.out.1 z (List.mem_of_getElem? hg2)).1) (wwf_of (HF.out.1 x HXL.out).1)
            unfold WV.arr at hez
            rw [show decide (z = x) = false by simp [hne]] at hez
            have mkz : (m : Int) < (k : Int) := by omega
            have mn : (m : Int) < 6 := by omega
            clear hne hg2 kq hBz hbo
            go_wp2_with fail
            go_quiet (fail)
            go_wp2_with fail
            go_roundw
            case rel => exact ⟨m + 1, by omega, by go_num, below_drewN hBi.out _⟩
            case measure => simp [intOf]; omega
          · have mkz : ¬ (m : Int) < (k : Int) := by omega
            go_wp2_with fail
            go_roundw
            case rel => exact ⟨k + 1, true, by omega, by go_num, rfl, HNEW.out.symm, below_up HB5.out hBi.out⟩
            case measure => simp [intOf]; omega
      · skip
        go_wp2_with fail
        clear x0 x1 x2 x3 x4 x5 x6 q0 q1 q2 q3 q4 q5 q6
        go_loopw [14] (fun j wi => ∃ m : Nat, m ≤ k ∧ j = .int .i64 m ∧ Hid (Below w5.heap.size w5 wi))
          (fun j _ => k - (intOf j).toNat)
        case atStart => exact ⟨0, Nat.zero_le _, rfl, Below.refl _ _⟩
        case round =>
          obtain ⟨m, hm, rfl, hBi⟩ := hrel
          by_cases hmk : m < k
          · have hg2 : l[m]? = some l[m] := List.getElem?_eq_getElem (by omega)
            generalize l[m] = z at hg2
            have hBz := below_up HB5.out hBi.out
            obtain ⟨b2, o2, hbo, hb2, z0, z1, z2, z3, z4, z5, z6⟩ := (HH.out.up hBz) m z hg2
            obtain ⟨rfl, rfl⟩ : b0 = b2 ∧ o0 = o2 := by cases hbo; exact ⟨rfl, rfl⟩
            have kq := Q5.out.below hBi.out Q5.out.lt
            have q0 : wr.cell? ⟨gq, 0, none⟩ = some (.int .i64 x.a) := kq.cell 0
            have q1 : wr.cell? ⟨gq, 1, none⟩ = some (.int .i64 x.b) := kq.cell 1
            have q2 : wr.cell? ⟨gq, 2, none⟩ = some (.int .i64 x.c) := kq.cell 2
            have q3 : wr.cell? ⟨gq, 3, none⟩ = some (.bool x.p) := kq.cell 3
            have q4 : wr.cell? ⟨gq, 4, none⟩ = some (.bool x.q) := kq.cell 4
            have q5 : wr.cell? ⟨gq, 5, none⟩ = some (.bool x.r) := kq.cell 5
            have q6 : wr.cell? ⟨gq, 6, none⟩ = some (.bool x.tn) := kq.cell 6
            have hne : z ≠ x := fun e => by
              rw [e] at hg2
              have hm' : m < l.length := by omega
              have hk' : k < l.length := by omega
              have h1 : l[m] = x := by rw [List.getElem?_eq_getElem hm'] at hg2; exact Option.some.inj hg2
              have h2 : l[k] = x := by have := HG.out; rw [List.getElem?_eq_getElem hk'] at this; exact Option.some.inj this
              exact (List.pairwise_iff_getElem.1 HF.out.2.2.2.2.1 m k hm' hk' hmk) (h1.trans h2.symm)
            have hez := eq_wants (wwf_of (HF.out.1 z (List.mem_of_getElem? hg2)).1) (wwf_of (HF.out.1 x HXL.out).1)
            unfold WV.arr at hez
            rw [show decide (z = x) = false by simp [hne]] at hez
            have mkz : (m : Int) < (k : Int) := by omega
            have mn : (m : Int) < 6 := by omega
            clear hne hg2 kq hBz hbo
            go_wp2_with fail
            go_quiet (fail)
            go_wp2_with fail
            go_roundw
            case rel => exact ⟨m + 1, by omega, by go_num, below_drewN hBi.out _⟩
            case measure => simp [intOf]; omega
          · have mkz : ¬ (m : Int) < (k : Int) := by omega
            go_wp2_with fail
            go_roundw
            case rel => exact ⟨k + 1, true, by omega, by go_num, rfl, HNEW.out.symm, below_up HB5.out hBi.out⟩
            case measure => simp [intOf]; omega
    · have kki : ¬ (k : Int) < 6 := by omega
      have hob' : ob = true := by
        rw [hob.out, List.take_of_length_le (by omega)]
        simp [HF.out.2.2.2.1]
      subst hob'
      go_wp2_with fail
      go_ret
      exact ⟨rfl, below_up HB2.out hB.out⟩
end Go.Proofs.Ytcapbkihjjhkjaa.TurnGroupD
