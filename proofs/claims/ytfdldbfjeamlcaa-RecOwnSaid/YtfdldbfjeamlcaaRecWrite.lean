/- rec.Write of records of commands. -/
import Derived.BigQuiet
import Derived.Deep.QuietTactic
import Derived.Deep.MidRow
import Derived.Deep.DeepCutAuto
import Derived.Lib.QuietBelow
import Derived.Lib.SliceRun
import Derived.Test.YtfdldbfjeamlcaaRecGuard
import Derived.Test.YtfdldbfjeamlcaaRecWr0
namespace Go.Proofs.Ytfdldbfjeamlcaa.RecWrite
open Go.RowKit RecGuard Mem RecMem RecByte RecNum RecEach RecMath RecPort RecCmd RecCommand RecCmdJ RecEq RecJobs RecSame RecWr0
set_option linter.unusedVariables false
set_option linter.unusedSimpArgs false

theorem cmdB_own (c : CV) : cmdB (own c) = cmdB c := by
  unfold cmdB
  rw [own_kd]
  unfold own
  by_cases h1 : isJob c.kd
  · simp only [h1, if_true, askB]
  · by_cases h2 : isId c.kd
    · simp only [h1, h2, if_true, if_false]
    · by_cases h3 : isKeep c.kd
      · simp only [h1, h2, h3, if_true, if_false]
      · by_cases h4 : isWell c.kd
        · simp only [h1, h2, h3, h4, if_true, if_false]
        · by_cases h5 : isN c.kd
          · simp only [h1, h2, h3, h4, h5, if_true, if_false]
          · simp only [h1, h2, h3, h4, h5, if_false]
theorem ints_sets2 {W : World} {g i : Nat} {vs : List Value} {Y : Option Addr} {l : List Int} (h : IntsAt W Y l) (hY : ∀ b o, Y = some ⟨b, o, none⟩ → b ≠ g) : IntsAt (World.setCells W g i vs) Y l := fun j v hj => by
  obtain ⟨b, o, e, hb, hc⟩ := h j v hj
  exact ⟨b, o, e, by rw [size_sets]; exact hb, cell_sets (hY b o e) hc⟩
theorem set_zrec : setA #[.int .i64 0, .int .i64 0, .int .i64 0, .int .i64 0, .int .i64 0, .int .i64 0, .int .i64 0, .int .i64 0, .slice none 0 0, .int .i64 0, .int .i64 0, .slice none 0 0, .slice none 0 0, .slice none 0 0, .slice none 0 0, .slice none 0 0, .slice none 0 0, .int .u8 0, .int .i64 0, .int .i64 0, .int .i64 0, .int .i64 0, .int .i64 0, .int .i64 0, .bool false, .bool false, .bool false, .bool false, .int .i64 0, .int .i64 0, .bool false, .slice none 0 0, .int .u8 0, .int .i64 0, .int .i64 0, .int .i64 0, .int .i64 0, .int .i64 0, .int .i64 0, .int .i64 0, .int .i64 0, .int .i64 0, .int .i64 0, .int .i64 0, .bool false] 0 [.int .i64 0, .int .i64 0, .int .i64 0, .int .i64 0, .int .i64 0, .int .i64 0, .int .i64 0, .int .i64 0, .slice none 0 0, .int .i64 0, .int .i64 0, .slice none 0 0, .slice none 0 0, .slice none 0 0, .slice none 0 0, .slice none 0 0, .slice none 0 0, .int .u8 0, .int .i64 0, .int .i64 0, .int .i64 0, .int .i64 0, .int .i64 0, .int .i64 0, .bool false, .bool false, .bool false, .bool false, .int .i64 0, .int .i64 0, .bool false, .slice none 0 0, .int .u8 0, .int .i64 0, .int .i64 0, .int .i64 0, .int .i64 0, .int .i64 0, .int .i64 0, .int .i64 0, .int .i64 0, .int .i64 0, .int .i64 0, .int .i64 0, .bool false] = List.toArray [.int .i64 0, .int .i64 0, .int .i64 0, .int .i64 0, .int .i64 0, .int .i64 0, .int .i64 0, .int .i64 0, .slice none 0 0, .int .i64 0, .int .i64 0, .slice none 0 0, .slice none 0 0, .slice none 0 0, .slice none 0 0, .slice none 0 0, .slice none 0 0, .int .u8 0, .int .i64 0, .int .i64 0, .int .i64 0, .int .i64 0, .int .i64 0, .int .i64 0, .bool false, .bool false, .bool false, .bool false, .int .i64 0, .int .i64 0, .bool false, .slice none 0 0, .int .u8 0, .int .i64 0, .int .i64 0, .int .i64 0, .int .i64 0, .int .i64 0, .int .i64 0, .int .i64 0, .int .i64 0, .int .i64 0, .int .i64 0, .int .i64 0, .bool false] := by
  simp only [setA, List.setIfInBounds_toArray, List.set_cons_zero, List.set_cons_succ]
theorem own_form {w : World} {B n : Nat} {v : Value} {xs : List Value} (h : w.ownsRow B 5 1 v n xs) : ∃ Y c, v = .slice Y n c := own_slice h
def okW (c : CV) : Bool := (mayK c.kd && decide (own c = c))
set_option maxRecDepth 100000 in
set_option maxHeartbeats 4000000 in
theorem wwrite (c : CV) (Y : Option Addr) (cy : Nat) (hc : CWf c) (hn : c.af.length ≤ 1000) (w : World) (hI : IntsAt w Y c.af) :
    Calls Try.prog 17 #[.agg (recA c Y cy)] w fun e w' => (okW c = true ∧ (∃ X n cc, e = .returned (.tuple #[.slice X n cc, .int .i64 0]) ∧ n = (nB 0 ++ cmdB c).length ∧ BytesAt w' X (nB 0 ++ cmdB c)) ∨ okW c = false ∧ e = .returned (.tuple #[.slice none 0 0, .int .i64 8])) ∧ Below w.heap.size w w' := by
  have HI := Lib.hid hI
  have HC := Lib.hid hc
  clear hI hc
  go_enter Try.func17, Try.ntmps17
  go_upto_region 1 with fail
  have K00 := Lib.hid (Blk.new w 51 (recA c Y cy))
  have HB0 := Lib.hid (below_alloc (o := .cells (recA c Y cy) 51) (Below.refl w.heap.size w))
  have hs0 : (w.alloc (.cells (recA c Y cy) 51)).heap.size = w.heap.size + 1 := by simp
  have hg0 := K00.out.cell 0
  generalize w.alloc (.cells (recA c Y cy) 51) = W0 at *
  have k1 : Blk (World.setCells (W0.alloc (.cells #[.int .i64 0, .int .i64 0, .int .i64 0, .int .i64 0, .int .i64 0, .int .i64 0, .int .i64 0, .int .i64 0, .slice none 0 0, .int .i64 0, .int .i64 0, .slice none 0 0, .slice none 0 0, .slice none 0 0, .slice none 0 0, .slice none 0 0, .slice none 0 0, .int .u8 0, .int .i64 0, .int .i64 0, .int .i64 0, .int .i64 0, .int .i64 0, .int .i64 0, .bool false, .bool false, .bool false, .bool false, .int .i64 0, .int .i64 0, .bool false, .slice none 0 0, .int .u8 0, .int .i64 0, .int .i64 0, .int .i64 0, .int .i64 0, .int .i64 0, .int .i64 0, .int .i64 0, .int .i64 0, .int .i64 0, .int .i64 0, .int .i64 0, .bool false] 51)) (w.heap.size + 1) 0 [.int .i64 0, .int .i64 0, .int .i64 0, .int .i64 0, .int .i64 0, .int .i64 0, .int .i64 0, .int .i64 0, .slice none 0 0, .int .i64 0, .int .i64 0, .slice none 0 0, .slice none 0 0, .slice none 0 0, .slice none 0 0, .slice none 0 0, .slice none 0 0, .int .u8 0, .int .i64 0, .int .i64 0, .int .i64 0, .int .i64 0, .int .i64 0, .int .i64 0, .bool false, .bool false, .bool false, .bool false, .int .i64 0, .int .i64 0, .bool false, .slice none 0 0, .int .u8 0, .int .i64 0, .int .i64 0, .int .i64 0, .int .i64 0, .int .i64 0, .int .i64 0, .int .i64 0, .int .i64 0, .int .i64 0, .int .i64 0, .int .i64 0, .bool false]) (w.heap.size + 1) 51 (List.toArray [.int .i64 0, .int .i64 0, .int .i64 0, .int .i64 0, .int .i64 0, .int .i64 0, .int .i64 0, .int .i64 0, .slice none 0 0, .int .i64 0, .int .i64 0, .slice none 0 0, .slice none 0 0, .slice none 0 0, .slice none 0 0, .slice none 0 0, .slice none 0 0, .int .u8 0, .int .i64 0, .int .i64 0, .int .i64 0, .int .i64 0, .int .i64 0, .int .i64 0, .bool false, .bool false, .bool false, .bool false, .int .i64 0, .int .i64 0, .bool false, .slice none 0 0, .int .u8 0, .int .i64 0, .int .i64 0, .int .i64 0, .int .i64 0, .int .i64 0, .int .i64 0, .int .i64 0, .int .i64 0, .int .i64 0, .int .i64 0, .int .i64 0, .bool false]) := blk_all (blk_new_of hs0 51 #[.int .i64 0, .int .i64 0, .int .i64 0, .int .i64 0, .int .i64 0, .int .i64 0, .int .i64 0, .int .i64 0, .slice none 0 0, .int .i64 0, .int .i64 0, .slice none 0 0, .slice none 0 0, .slice none 0 0, .slice none 0 0, .slice none 0 0, .slice none 0 0, .int .u8 0, .int .i64 0, .int .i64 0, .int .i64 0, .int .i64 0, .int .i64 0, .int .i64 0, .bool false, .bool false, .bool false, .bool false, .int .i64 0, .int .i64 0, .bool false, .slice none 0 0, .int .u8 0, .int .i64 0, .int .i64 0, .int .i64 0, .int .i64 0, .int .i64 0, .int .i64 0, .int .i64 0, .int .i64 0, .int .i64 0, .int .i64 0, .int .i64 0, .bool false]) set_zrec
  have k0 : Blk (World.setCells (W0.alloc (.cells #[.int .i64 0, .int .i64 0, .int .i64 0, .int .i64 0, .int .i64 0, .int .i64 0, .int .i64 0, .int .i64 0, .slice none 0 0, .int .i64 0, .int .i64 0, .slice none 0 0, .slice none 0 0, .slice none 0 0, .slice none 0 0, .slice none 0 0, .slice none 0 0, .int .u8 0, .int .i64 0, .int .i64 0, .int .i64 0, .int .i64 0, .int .i64 0, .int .i64 0, .bool false, .bool false, .bool false, .bool false, .int .i64 0, .int .i64 0, .bool false, .slice none 0 0, .int .u8 0, .int .i64 0, .int .i64 0, .int .i64 0, .int .i64 0, .int .i64 0, .int .i64 0, .int .i64 0, .int .i64 0, .int .i64 0, .int .i64 0, .int .i64 0, .bool false] 51)) (w.heap.size + 1) 0 [.int .i64 0, .int .i64 0, .int .i64 0, .int .i64 0, .int .i64 0, .int .i64 0, .int .i64 0, .int .i64 0, .slice none 0 0, .int .i64 0, .int .i64 0, .slice none 0 0, .slice none 0 0, .slice none 0 0, .slice none 0 0, .slice none 0 0, .slice none 0 0, .int .u8 0, .int .i64 0, .int .i64 0, .int .i64 0, .int .i64 0, .int .i64 0, .int .i64 0, .bool false, .bool false, .bool false, .bool false, .int .i64 0, .int .i64 0, .bool false, .slice none 0 0, .int .u8 0, .int .i64 0, .int .i64 0, .int .i64 0, .int .i64 0, .int .i64 0, .int .i64 0, .int .i64 0, .int .i64 0, .int .i64 0, .int .i64 0, .int .i64 0, .bool false]) w.heap.size 51 (recA c Y cy) := blk_sets_far (by omega) (K00.out.alloc _)
  have kB : Below w.heap.size w (World.setCells (W0.alloc (.cells #[.int .i64 0, .int .i64 0, .int .i64 0, .int .i64 0, .int .i64 0, .int .i64 0, .int .i64 0, .int .i64 0, .slice none 0 0, .int .i64 0, .int .i64 0, .slice none 0 0, .slice none 0 0, .slice none 0 0, .slice none 0 0, .slice none 0 0, .slice none 0 0, .int .u8 0, .int .i64 0, .int .i64 0, .int .i64 0, .int .i64 0, .int .i64 0, .int .i64 0, .bool false, .bool false, .bool false, .bool false, .int .i64 0, .int .i64 0, .bool false, .slice none 0 0, .int .u8 0, .int .i64 0, .int .i64 0, .int .i64 0, .int .i64 0, .int .i64 0, .int .i64 0, .int .i64 0, .int .i64 0, .int .i64 0, .int .i64 0, .int .i64 0, .bool false] 51)) (w.heap.size + 1) 0 [.int .i64 0, .int .i64 0, .int .i64 0, .int .i64 0, .int .i64 0, .int .i64 0, .int .i64 0, .int .i64 0, .slice none 0 0, .int .i64 0, .int .i64 0, .slice none 0 0, .slice none 0 0, .slice none 0 0, .slice none 0 0, .slice none 0 0, .slice none 0 0, .int .u8 0, .int .i64 0, .int .i64 0, .int .i64 0, .int .i64 0, .int .i64 0, .int .i64 0, .bool false, .bool false, .bool false, .bool false, .int .i64 0, .int .i64 0, .bool false, .slice none 0 0, .int .u8 0, .int .i64 0, .int .i64 0, .int .i64 0, .int .i64 0, .int .i64 0, .int .i64 0, .int .i64 0, .int .i64 0, .int .i64 0, .int .i64 0, .int .i64 0, .bool false]) := below_sets (by omega) (below_alloc HB0.out)
  go_upto_region 2 with (first | (refine wpList_store_mid rfl 51 _ _ rfl (w.heap.size + 1) 0 #[.int .i64 0, .int .i64 0, .int .i64 0, .int .i64 0, .int .i64 0, .int .i64 0, .int .i64 0, .int .i64 0, .slice none 0 0, .int .i64 0, .int .i64 0, .slice none 0 0, .slice none 0 0, .slice none 0 0, .slice none 0 0, .slice none 0 0, .slice none 0 0, .int .u8 0, .int .i64 0, .int .i64 0, .int .i64 0, .int .i64 0, .int .i64 0, .int .i64 0, .bool false, .bool false, .bool false, .bool false, .int .i64 0, .int .i64 0, .bool false, .slice none 0 0, .int .u8 0, .int .i64 0, .int .i64 0, .int .i64 0, .int .i64 0, .int .i64 0, .int .i64 0, .int .i64 0, .int .i64 0, .int .i64 0, .int .i64 0, .int .i64 0, .bool false] rfl rfl (there_of (blk_new_of hs0 51 #[.int .i64 0, .int .i64 0, .int .i64 0, .int .i64 0, .int .i64 0, .int .i64 0, .int .i64 0, .int .i64 0, .slice none 0 0, .int .i64 0, .int .i64 0, .slice none 0 0, .slice none 0 0, .slice none 0 0, .slice none 0 0, .slice none 0 0, .slice none 0 0, .int .u8 0, .int .i64 0, .int .i64 0, .int .i64 0, .int .i64 0, .int .i64 0, .int .i64 0, .bool false, .bool false, .bool false, .bool false, .int .i64 0, .int .i64 0, .bool false, .slice none 0 0, .int .u8 0, .int .i64 0, .int .i64 0, .int .i64 0, .int .i64 0, .int .i64 0, .int .i64 0, .int .i64 0, .int .i64 0, .int .i64 0, .int .i64 0, .int .i64 0, .bool false]) (Nat.le_of_ble_eq_true rfl)) (by kernel_rfl) (by kernel_rfl) ?_; simp only [List.toList_toArray]; generalize World.setCells _ _ _ _ = WB at *; (try simp only [Act.put])))
  have K0 := Lib.hid k0
  have K1 := Lib.hid k1
  have HB := Lib.hid kB
  have HIB := Lib.hid (HI.out.up HB.out)
  have hgB : WB.cell? ⟨w.heap.size, 0, none⟩ = some (.int .i64 0) := K0.out.cell 0
  clear k0 k1 kB hg0 hs0 K00 HB0
  have HRC := Lib.hid (show WB.rangeAt w.heap.size 17 [.int .u8 c.kd, .int .i64 c.id, .int .i64 c.us, .int .i64 c.cl, .int .i64 c.a, .int .i64 c.b, .int .i64 c.c, .bool c.p, .bool c.q, .bool c.r, .bool c.tn, .int .i64 c.wa, .int .i64 c.pr, .bool c.he, .slice Y c.af.length cy, .int .u8 c.st, .int .i64 c.ca, .int .i64 c.ci, .int .i64 c.b0, .int .i64 c.b1, .int .i64 c.b2, .int .i64 c.b3, .int .i64 c.b4, .int .i64 c.b5, .int .i64 c.fr, .int .i64 c.to, .int .i64 c.n, .bool c.we] from range_part (n := 28) K0.out rfl)
  go_wp2_with (first | (refine wpList_load_mid rfl 34 _ rfl _ _ rfl _ _ HRC.out Try.underlying34 rfl (by kernel_rfl) ?_))
  refine (ccommand c Y cy hn _ HIB.out).mono ?_
  rintro e w1 ⟨Y1, cy1, rfl, hcy1, hI1, hB1, hY1⟩
  have K0b := Lib.hid (K0.out.below hB1 K0.out.lt)
  have K1b := Lib.hid (K1.out.below hB1 K1.out.lt)
  have HBb := Lib.hid (below_up HB.out hB1)
  have HIb := Lib.hid (HIB.out.up hB1)
  have hs1 : w.heap.size + 1 < WB.heap.size := K1.out.lt
  have HI2 := Lib.hid (And.intro hI1 (show ∀ b o, Y1 = some ⟨b, o, none⟩ → b ≠ w.heap.size + 1 from fun b o e => by have := hY1 b o e; omega))
  have HIc := Lib.hid (show ∀ b o, Y = some ⟨b, o, none⟩ → c.af ≠ [] → b ≠ w.heap.size + 1 from fun b o e hne hb => by
    cases ha : c.af with
    | nil => exact hne ha
    | cons x xs =>
      obtain ⟨b2, o2, e2, h2, _⟩ := HI.out 0 x (by rw [ha]; rfl)
      rw [e] at e2; cases e2; omega)
  clear hI1 hB1 hY1 K0 K1 HB HRC HIB hgB
  have k1 : Blk (World.setCells w1 (w.heap.size + 1) 17 [.int .u8 (own c).kd, .int .i64 (own c).id, .int .i64 (own c).us, .int .i64 (own c).cl, .int .i64 (own c).a, .int .i64 (own c).b, .int .i64 (own c).c, .bool (own c).p, .bool (own c).q, .bool (own c).r, .bool (own c).tn, .int .i64 (own c).wa, .int .i64 (own c).pr, .bool (own c).he, .slice Y1 (own c).af.length cy1, .int .u8 (own c).st, .int .i64 (own c).ca, .int .i64 (own c).ci, .int .i64 (own c).b0, .int .i64 (own c).b1, .int .i64 (own c).b2, .int .i64 (own c).b3, .int .i64 (own c).b4, .int .i64 (own c).b5, .int .i64 (own c).fr, .int .i64 (own c).to, .int .i64 (own c).n, .bool (own c).we]) (w.heap.size + 1) 51 (recA (own c) Y1 cy1) := (by have := blk_setA (i := 17) (vs := [.int .u8 (own c).kd, .int .i64 (own c).id, .int .i64 (own c).us, .int .i64 (own c).cl, .int .i64 (own c).a, .int .i64 (own c).b, .int .i64 (own c).c, .bool (own c).p, .bool (own c).q, .bool (own c).r, .bool (own c).tn, .int .i64 (own c).wa, .int .i64 (own c).pr, .bool (own c).he, .slice Y1 (own c).af.length cy1, .int .u8 (own c).st, .int .i64 (own c).ca, .int .i64 (own c).ci, .int .i64 (own c).b0, .int .i64 (own c).b1, .int .i64 (own c).b2, .int .i64 (own c).b3, .int .i64 (own c).b4, .int .i64 (own c).b5, .int .i64 (own c).fr, .int .i64 (own c).to, .int .i64 (own c).n, .bool (own c).we]) K1b.out; rwa [set_rec] at this)
  have k0 : Blk (World.setCells w1 (w.heap.size + 1) 17 [.int .u8 (own c).kd, .int .i64 (own c).id, .int .i64 (own c).us, .int .i64 (own c).cl, .int .i64 (own c).a, .int .i64 (own c).b, .int .i64 (own c).c, .bool (own c).p, .bool (own c).q, .bool (own c).r, .bool (own c).tn, .int .i64 (own c).wa, .int .i64 (own c).pr, .bool (own c).he, .slice Y1 (own c).af.length cy1, .int .u8 (own c).st, .int .i64 (own c).ca, .int .i64 (own c).ci, .int .i64 (own c).b0, .int .i64 (own c).b1, .int .i64 (own c).b2, .int .i64 (own c).b3, .int .i64 (own c).b4, .int .i64 (own c).b5, .int .i64 (own c).fr, .int .i64 (own c).to, .int .i64 (own c).n, .bool (own c).we]) w.heap.size 51 (recA c Y cy) := blk_sets_far (by omega) K0b.out
  have kB : Below w.heap.size w (World.setCells w1 (w.heap.size + 1) 17 [.int .u8 (own c).kd, .int .i64 (own c).id, .int .i64 (own c).us, .int .i64 (own c).cl, .int .i64 (own c).a, .int .i64 (own c).b, .int .i64 (own c).c, .bool (own c).p, .bool (own c).q, .bool (own c).r, .bool (own c).tn, .int .i64 (own c).wa, .int .i64 (own c).pr, .bool (own c).he, .slice Y1 (own c).af.length cy1, .int .u8 (own c).st, .int .i64 (own c).ca, .int .i64 (own c).ci, .int .i64 (own c).b0, .int .i64 (own c).b1, .int .i64 (own c).b2, .int .i64 (own c).b3, .int .i64 (own c).b4, .int .i64 (own c).b5, .int .i64 (own c).fr, .int .i64 (own c).to, .int .i64 (own c).n, .bool (own c).we]) := below_sets (by omega) HBb.out
  have kI : IntsAt (World.setCells w1 (w.heap.size + 1) 17 [.int .u8 (own c).kd, .int .i64 (own c).id, .int .i64 (own c).us, .int .i64 (own c).cl, .int .i64 (own c).a, .int .i64 (own c).b, .int .i64 (own c).c, .bool (own c).p, .bool (own c).q, .bool (own c).r, .bool (own c).tn, .int .i64 (own c).wa, .int .i64 (own c).pr, .bool (own c).he, .slice Y1 (own c).af.length cy1, .int .u8 (own c).st, .int .i64 (own c).ca, .int .i64 (own c).ci, .int .i64 (own c).b0, .int .i64 (own c).b1, .int .i64 (own c).b2, .int .i64 (own c).b3, .int .i64 (own c).b4, .int .i64 (own c).b5, .int .i64 (own c).fr, .int .i64 (own c).to, .int .i64 (own c).n, .bool (own c).we]) Y1 (own c).af := ints_sets2 HI2.out.1 HI2.out.2
  have kJ : IntsAt (World.setCells w1 (w.heap.size + 1) 17 [.int .u8 (own c).kd, .int .i64 (own c).id, .int .i64 (own c).us, .int .i64 (own c).cl, .int .i64 (own c).a, .int .i64 (own c).b, .int .i64 (own c).c, .bool (own c).p, .bool (own c).q, .bool (own c).r, .bool (own c).tn, .int .i64 (own c).wa, .int .i64 (own c).pr, .bool (own c).he, .slice Y1 (own c).af.length cy1, .int .u8 (own c).st, .int .i64 (own c).ca, .int .i64 (own c).ci, .int .i64 (own c).b0, .int .i64 (own c).b1, .int .i64 (own c).b2, .int .i64 (own c).b3, .int .i64 (own c).b4, .int .i64 (own c).b5, .int .i64 (own c).fr, .int .i64 (own c).to, .int .i64 (own c).n, .bool (own c).we]) Y c.af := HI.out.up kB
  go_upto_region 5 with (first | (refine wpList_store_mid rfl 34 _ _ rfl (w.heap.size + 1) 17 (List.toArray [.int .u8 (own c).kd, .int .i64 (own c).id, .int .i64 (own c).us, .int .i64 (own c).cl, .int .i64 (own c).a, .int .i64 (own c).b, .int .i64 (own c).c, .bool (own c).p, .bool (own c).q, .bool (own c).r, .bool (own c).tn, .int .i64 (own c).wa, .int .i64 (own c).pr, .bool (own c).he, .slice Y1 (own c).af.length cy1, .int .u8 (own c).st, .int .i64 (own c).ca, .int .i64 (own c).ci, .int .i64 (own c).b0, .int .i64 (own c).b1, .int .i64 (own c).b2, .int .i64 (own c).b3, .int .i64 (own c).b4, .int .i64 (own c).b5, .int .i64 (own c).fr, .int .i64 (own c).to, .int .i64 (own c).n, .bool (own c).we]) rfl rfl (there_of K1b.out (Nat.le_of_ble_eq_true rfl)) (by kernel_rfl) (by kernel_rfl) ?_; simp only [List.toList_toArray]; generalize World.setCells _ _ _ _ = W3 at *; (try simp only [Act.put])))
  have K0 := Lib.hid k0
  have K1 := Lib.hid k1
  have HB := Lib.hid kB
  have HIJ := Lib.hid (And.intro kI kJ)
  clear k0 k1 kB kI kJ K0b K1b HBb HIb HI2 HIc
  go_wp2_with fail
  refine (wrecord W3.heap.size (w.heap.size + 1) (.slice none 0 0) (own c) Y1 cy1 hcy1 (own_len hn) (own_wf HC.out) _ port_new (K1.out.alloc _) (far_new K1.out.lt) (ints_new HIJ.out.1)).mono ?_
  rintro e w4 ⟨⟨r, rfl⟩, v4, hP4, hF4⟩
  rw [cmdB_own, own_kd] at hP4
  have hB4 : Below W3.heap.size (W3.alloc (.cells #[.slice none 0 0, .bool false, .bool false] PT)) w4 := hF4.below (Nat.le_refl _) (by simp [Value.ownBlock]) (by simp)
  have hB34 : Below W3.heap.size W3 w4 := (below_alloc (Below.refl _ W3)).trans hB4
  have k0 := K0.out.below hB34 K0.out.lt
  have k1 := K1.out.below hB34 K1.out.lt
  have HB4 := Lib.hid (below_up HB.out hB34)
  have HI4 := Lib.hid (And.intro (HIJ.out.1.up hB34) (HIJ.out.2.up hB34))
  have hL : (nB 0 ++ cmdB c).length ≤ 65536 := by have := cmdB_len c; rw [List.length_append, nB_len]; omega
  generalize hN : (nB 0 ++ cmdB c).length = N at *
  obtain ⟨X4, c4, rfl⟩ := own_form hP4.2.1
  have q2 : w4.cell? ⟨W3.heap.size, 2, none⟩ = some (.bool (!mayK c.kd)) := hP4.1.cell 2
  have HQ0 := Lib.hid (show w4.cell? ⟨W3.heap.size, 0, none⟩ = some (.slice X4 N c4) from by rw [← hN]; exact hP4.1.cell 0)
  have HR := Lib.hid (Reads.of_own hP4.2.1)
  have HN := Lib.hid hN
  have HK := Lib.hid (And.intro k0 k1)
  have hOK := Lib.hid (show okW c = (mayK c.kd && decide (own c = c)) from rfl)
  clear hP4 hF4 hB4 hB34 k0 k1 K0 K1 HB HIJ HI hN
  cases e0 : mayK c.kd
  · simp only [e0, Bool.not_false] at q2
    go_wp2_with fail
    go_ret2
    exact ⟨Or.inr ⟨by rw [hOK.out, e0]; rfl, rfl⟩, HB4.out⟩
  · simp only [e0, Bool.not_true] at q2
    have HRO := Lib.hid (show w4.rangeAt (w.heap.size + 1) 0 [.int .i64 0, .int .i64 0, .int .i64 0, .int .i64 0, .int .i64 0, .int .i64 0, .int .i64 0, .int .i64 0, .slice none 0 0, .int .i64 0, .int .i64 0, .slice none 0 0, .slice none 0 0, .slice none 0 0, .slice none 0 0, .slice none 0 0, .slice none 0 0, .int .u8 (own c).kd, .int .i64 (own c).id, .int .i64 (own c).us, .int .i64 (own c).cl, .int .i64 (own c).a, .int .i64 (own c).b, .int .i64 (own c).c, .bool (own c).p, .bool (own c).q, .bool (own c).r, .bool (own c).tn, .int .i64 (own c).wa, .int .i64 (own c).pr, .bool (own c).he, .slice Y1 (own c).af.length cy1, .int .u8 (own c).st, .int .i64 (own c).ca, .int .i64 (own c).ci, .int .i64 (own c).b0, .int .i64 (own c).b1, .int .i64 (own c).b2, .int .i64 (own c).b3, .int .i64 (own c).b4, .int .i64 (own c).b5, .int .i64 (own c).fr, .int .i64 (own c).to, .int .i64 (own c).n, .bool (own c).we] from range_part (n := 45) HK.out.2 rfl)
    have HRC := Lib.hid (show w4.rangeAt w.heap.size 0 [.int .i64 0, .int .i64 0, .int .i64 0, .int .i64 0, .int .i64 0, .int .i64 0, .int .i64 0, .int .i64 0, .slice none 0 0, .int .i64 0, .int .i64 0, .slice none 0 0, .slice none 0 0, .slice none 0 0, .slice none 0 0, .slice none 0 0, .slice none 0 0, .int .u8 c.kd, .int .i64 c.id, .int .i64 c.us, .int .i64 c.cl, .int .i64 c.a, .int .i64 c.b, .int .i64 c.c, .bool c.p, .bool c.q, .bool c.r, .bool c.tn, .int .i64 c.wa, .int .i64 c.pr, .bool c.he, .slice Y c.af.length cy, .int .u8 c.st, .int .i64 c.ca, .int .i64 c.ci, .int .i64 c.b0, .int .i64 c.b1, .int .i64 c.b2, .int .i64 c.b3, .int .i64 c.b4, .int .i64 c.b5, .int .i64 c.fr, .int .i64 c.to, .int .i64 c.n, .bool c.we] from range_part (n := 45) HK.out.1 rfl)
    go_wp2_with (first | (refine wpList_load_mid_g rfl 51 _ rfl _ _ rfl _ _ HRO.out Try.underlying51 rfl (by kernel_rfl) ?_) | (refine wpList_load_mid_g rfl 51 _ rfl _ _ rfl _ _ HRC.out Try.underlying51 rfl (by kernel_rfl) ?_))
    refine (rsame (own c) c Y1 Y cy1 cy (own_wf HC.out) HC.out (own_len hn) hn w4 HI4.out.1 HI4.out.2).mono ?_
    rintro e w5 ⟨rfl, hB5⟩
    have HB5 := Lib.hid (below_up HB4.out hB5)
    have q0 : w5.cell? ⟨W3.heap.size, 0, none⟩ = some (.slice X4 N c4) := keep_cell HQ0.out hB5
    have HR5 := Lib.hid (show BytesAt w5 X4 (nB 0 ++ cmdB c) from BytesAt.up HR.out hB5)
    clear hB5 HRO HRC HQ0 q2
    cases e1 : decide (own c = c)
    · have HE := Lib.hid e1
      clear q0 e1
      go_wp2_with fail
      go_ret2
      exact ⟨Or.inr ⟨by rw [hOK.out, HE.out, Bool.and_false], rfl⟩, HB5.out⟩
    · have HE := Lib.hid (And.intro e0 e1)
      clear e0 e1
      go_wp2_with fail
      go_ret2
      exact ⟨Or.inl ⟨by rw [hOK.out, HE.out.1, HE.out.2]; rfl, _, _, _, rfl, HN.out.symm, HR5.out⟩, HB5.out⟩
end Go.Proofs.Ytfdldbfjeamlcaa.RecWrite
