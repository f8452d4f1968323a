/- The walks of the laws MarkApart, MarkNames: each returns true, and nothing that was there has turned. -/
import Derived.Test.YtgnaadaihncgeaaMarkOf
import Derived.Test.YtgnaadaihncgeaaFrame
namespace Go.Proofs.Ytgnaadaihncgeaa.MarkLaws
open Go.RowKit MarkMath MarkWalks Mem SeqKit MarkSeq MarkOf
set_option linter.unusedVariables false

theorem bytes_of {l : List Int} (h : ∀ n ∈ l, (Lit.int .u8 n).wf = true) : isBytes l := fun x hx => u8_bounds (h x hx)

set_option maxHeartbeats 1000000 in
theorem apart (w : World) (x : Int) (wx : (Lit.int .u32 x).wf = true) (y : Int) (wy : (Lit.int .u32 y).wf = true) (X : Option Addr) (c : Nat) (l : List Int) (hc : l.length ≤ c) (hm : c ≤ maxLen) (hr : Reads w w.heap.size 1 X l.length (l.map (Value.int .u8))) (hw : ∀ n ∈ l, (Lit.int .u8 n).wf = true) :
    Calls Try.prog 7 #[.int .u32 x, .int .u32 y, .slice X l.length c] w fun e w' => e = .returned (.bool true) ∧ Below w.heap.size w w' := by
  obtain ⟨hx0, hx1⟩ := u32_bounds wx
  obtain ⟨hy0, hy1⟩ := u32_bounds wy
  obtain ⟨b, rfl⟩ := of_bytes l (bytes_of hw)
  rw [ints_length] at hr hc ⊢
  have HR := Lib.hid (show Reads w w.heap.size 1 X b.length (u8s (ints b)) from hr)
  clear hr hw wx wy
  unfold maxLen at hm
  go_enter Try.func7, Try.ntmps7
  go_wp2_with fail
  refine (alive_any _).mono ?_
  rintro e w1 ⟨rfl, hB1⟩
  have HB1 := Lib.hid hB1
  clear hB1
  by_cases h : (b.length ≤ 5000 ∧ x < 4294967291) ∧ y < 4294967291
  · obtain ⟨⟨h1, h2⟩, h3⟩ := h
    go_wp2_with fail
    refine (on_any x hx0 hx1 X c b (by omega) _ ((HR.out.below HB1.out).more HB1.out.size)).mono ?_
    rintro e w2 ⟨rfl, hB2⟩
    have HB2 := Lib.hid (HB1.out.trans (hB2.mono HB1.out.size))
    clear hB2
    go_wp2_with fail
    refine (on_any y hy0 hy1 X c b (by omega) _ ((HR.out.below HB2.out).more HB2.out.size)).mono ?_
    rintro e w3 ⟨rfl, hB3⟩
    have HB3 := Lib.hid (HB2.out.trans (hB3.mono HB2.out.size))
    clear hB3
    have e1 := mk_inj (ints b) hx0 h2 hy0 h3
    have E1 := Lib.hid e1
    clear e1
    go_wp2_with fail
    go_ret
    refine ⟨?_, HB3.out⟩
    have e := E1.out
    rw [Int.emod_eq_of_lt hx0 h2, Int.emod_eq_of_lt hy0 h3]
    simp [e, Bool.beq_eq_decide_eq]
  · by_cases h1 : b.length ≤ 5000
    · by_cases h2 : x < 4294967291
      · have h3 : 4294967291 ≤ y := by omega
        clear h
        go_wp2_with fail
        go_ret
        exact ⟨rfl, HB1.out⟩
      · clear h
        go_wp2_with fail
        go_ret
        exact ⟨rfl, HB1.out⟩
    · clear h
      go_wp2_with fail
      go_ret
      exact ⟨rfl, HB1.out⟩

/-- The chapter's examples. -/
def bbc : List B8 := [⟨98, by omega⟩, ⟨99, by omega⟩]
theorem on_lit (m : Int) (hm0 : 0 ≤ m) (hm1 : m ≤ 4294967295) (w : World) (cs : Array Value) (b : List B8) (hcs : cs = (u8s (ints b)).toArray) (n : Nat) (hn : n = b.length) (hb : b.length ≤ 1000) (fr : Nat × Nat) (t : TypeId) (v : Int) (hv : mk (m % 4294967291) (ints b) = v) :
    Calls Try.prog 15 #[.int .u32 m, .slice (some ⟨w.heap.size, 0, none⟩) n n] (w.alloc (.cells cs t fr)) fun e w' => e = .returned (.int .u32 v) ∧ Below w.heap.size w w' := by
  subst hcs; subst hn; subst hv
  have h := on_any m hm0 hm1 (some ⟨w.heap.size, 0, none⟩) b.length b (by omega) (w.alloc (.cells (u8s (ints b)).toArray t fr)) (reads_new w t b _ _ (by simp) rfl fr)
  exact h.mono fun e w' ⟨he, hB⟩ => ⟨he, ((Below.refl _ w).alloc (Nat.le_refl _) _).trans (hB.mono (by simp))⟩
theorem join_ex (w : World) :
    Calls Try.prog 10 #[.int .u32 98, .int .u32 6488263, .int .i64 2] w fun e w' => e = .returned (.tuple #[.int .u32 19333907, .int .i64 0]) ∧ w = w' := by
  refine (join_any 98 6488263 2 w (by omega) (by omega) (by omega) (by omega) (by omega)).mono ?_
  rintro e w' ⟨⟨v, rfl, h0, h1, hR⟩, rfl⟩
  have hv : v = 19333907 := (hR.small h0 h1).trans (by decide)
  exact ⟨by rw [hv], rfl⟩
set_option maxHeartbeats 1000000 in
theorem names (w : World) :
    Calls Try.prog 8 #[] w fun e w' => e = .returned (.bool true) ∧ Below w.heap.size w w' := by
  have kc := fun (w : World) (C : Array Value) (n c : Nat) => Lib.run_convert_bytes_const (P := Try.prog) w 29 5 C n c Try.underlying29 Try.underlying5
  go_enter Try.func8, Try.ntmps8
  go_wp2_with fail
  refine (of_lit w _ bbc rfl 2 rfl (by decide) _ _ _ 6488263 (by decide)).mono ?_
  rintro e w1 ⟨rfl, hB1⟩
  have HB1 := Lib.hid hB1
  clear hB1
  go_wp2_with fail
  refine (join_ex _).mono ?_
  rintro e w' ⟨rfl, rfl⟩
  go_wp2_with fail
  refine (join_neg 1 2 (-1) _ (by omega)).mono ?_
  rintro e w' ⟨rfl, rfl⟩
  go_wp2_with fail
  refine (alive_any _).mono ?_
  rintro e w2 ⟨rfl, hB2⟩
  have HB2 := Lib.hid (HB1.out.trans (hB2.mono HB1.out.size))
  clear hB2
  go_wp2_with fail
  refine (on_lit 98 (by omega) (by omega) w2 _ bbc rfl 2 rfl (by decide) _ _ 19333907 (by decide)).mono ?_
  rintro e w3 ⟨rfl, hB3⟩
  have HB3 := Lib.hid (HB2.out.trans (hB3.mono HB2.out.size))
  clear hB3
  go_wp2_with fail
  go_ret
  exact ⟨rfl, HB3.out⟩
end Go.Proofs.Ytgnaadaihncgeaa.MarkLaws
