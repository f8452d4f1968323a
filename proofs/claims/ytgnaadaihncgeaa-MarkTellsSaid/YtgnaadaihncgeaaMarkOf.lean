/- The contracts of mark.Of and mark.On, and the examples (alive): for all parts below the heap's size. -/
import Derived.Test.YtgnaadaihncgeaaMarkSeq
import Derived.Lib.SlBytesConst
namespace Go.Proofs.Ytgnaadaihncgeaa.MarkOf
open Go.RowKit Go.Shelf MarkMath MarkWalks Mem SeqKit MarkSeq
set_option linter.unusedVariables false

theorem of_any (A : Option Addr) (c : Nat) (ps : List (List B8)) (hlen : ps.length ≤ 4611686018427387904) (hlens : ∀ b ∈ ps, b.length ≤ 4611686018427387904) (w : World) (hP : Parts w w.heap.size A (ps.map ints)) :
    Calls Try.prog 13 #[.slice A ps.length c] w fun e w' => e = .returned (.int .u32 (mk 0 (ints ps.flatten))) ∧ Below w.heap.size w w' := by
  have HL := Lib.hid hlens
  have HP := Lib.hid hP
  clear hlens hP
  go_enter Try.func13, Try.ntmps13
  go_wp2_with fail
  refine (from_any 0 (by omega) (by omega) A c ps hlen HL.out _ HP.out).mono ?_
  rintro e w' ⟨rfl, hB⟩
  have HB := Lib.hid hB
  clear hB
  go_wp2_with fail
  go_ret
  exact ⟨rfl, HB.out⟩

/-- One part, in a new block. -/
theorem parts_one (w : World) (t : TypeId) (X : Option Addr) (b : List B8) (c B : Nat) (hB : B = w.heap.size + 1) (hR : Reads w w.heap.size 1 X b.length (u8s (ints b))) :
    Parts (w.alloc (.cells #[.slice X b.length c] t)) B (some ⟨w.heap.size, 0, none⟩) ([b].map ints) := by
  subst hB
  refine ⟨[.slice X b.length c], ⟨rfl, fun _ => ⟨_, rfl, by simp, ?_⟩⟩, ?_⟩
  · intro j u hu
    cases j with
    | zero => cases hu; exact (Blk.new w t #[.slice X b.length c]).cell 0
    | succ j => simp at hu
  · intro i l hl
    cases i with
    | zero => cases hl; exact ⟨X, c, by rw [ints_length]; rfl, by rw [ints_length]; exact (hR.alloc (Nat.le_refl _) _).more (by omega)⟩
    | succ i => simp at hl
theorem parts_two (w : World) (t : TypeId) (X Y : Option Addr) (b d : List B8) (c c' B : Nat) (hB : B = w.heap.size + 1) (hR : Reads w w.heap.size 1 X b.length (u8s (ints b))) (hS : Reads w w.heap.size 1 Y d.length (u8s (ints d))) :
    Parts (w.alloc (.cells #[.slice X b.length c, .slice Y d.length c'] t)) B (some ⟨w.heap.size, 0, none⟩) ([b, d].map ints) := by
  subst hB
  refine ⟨[.slice X b.length c, .slice Y d.length c'], ⟨rfl, fun _ => ⟨_, rfl, by simp, ?_⟩⟩, ?_⟩
  · intro j u hu
    match j with
    | 0 => cases hu; exact (Blk.new w t #[.slice X b.length c, .slice Y d.length c']).cell 0
    | 1 => cases hu; exact (Blk.new w t #[.slice X b.length c, .slice Y d.length c']).cell 1
    | j + 2 => simp at hu
  · intro i l hl
    match i with
    | 0 => cases hl; exact ⟨X, c, by rw [ints_length]; rfl, by rw [ints_length]; exact (hR.alloc (Nat.le_refl _) _).more (by omega)⟩
    | 1 => cases hl; exact ⟨Y, c', by rw [ints_length]; rfl, by rw [ints_length]; exact (hS.alloc (Nat.le_refl _) _).more (by omega)⟩
    | i + 2 => simp at hl
/-- A new block of bytes. -/
theorem reads_new (w : World) (t : TypeId) (b : List B8) (B n : Nat) (hB : B = w.heap.size + 1) (hn : n = b.length) (fr : Nat × Nat) : Reads (w.alloc (.cells (u8s (ints b)).toArray t fr)) B 1 (some ⟨w.heap.size, 0, none⟩) n (u8s (ints b)) := by
  subst hB; subst hn
  refine ⟨by simp [u8s, ints], fun _ => ⟨_, rfl, by simp, fun j u hu => ?_⟩⟩
  have h : (w.alloc (.cells (u8s (ints b)).toArray t fr)).heap[w.heap.size]? = some (.cells (u8s (ints b)).toArray t fr) := World.alloc_heap_new w _
  rw [show (⟨w.heap.size, 0, none⟩ : Addr).add j = ⟨w.heap.size, j, none⟩ from by unfold Addr.add; split <;> simp_all]
  simp only [World.cell?]
  rw [h]
  simpa using hu

theorem of_one (X : Option Addr) (c : Nat) (b : List B8) (hb : b.length ≤ 4611686018427387904) (w : World) (t : TypeId) (hR : Reads w w.heap.size 1 X b.length (u8s (ints b))) :
    Calls Try.prog 13 #[.slice (some ⟨w.heap.size, 0, none⟩) 1 1] (w.alloc (.cells #[.slice X b.length c] t)) fun e w' => e = .returned (.int .u32 (mk 0 (ints b))) ∧ Below w.heap.size w w' := by
  have h := of_any (some ⟨w.heap.size, 0, none⟩) 1 [b] (by simp) (by simpa using hb) (w.alloc (.cells #[.slice X b.length c] t)) (parts_one w t X b c _ (by simp) hR)
  refine h.mono fun e w' ⟨he, hB⟩ => ⟨by simpa using he, ?_⟩
  exact ((Below.refl _ w).alloc (Nat.le_refl _) _).trans (hB.mono (by simp))
theorem of_two (X Y : Option Addr) (c c' : Nat) (b d : List B8) (hb : b.length ≤ 4611686018427387904) (hd : d.length ≤ 4611686018427387904) (w : World) (t : TypeId) (hR : Reads w w.heap.size 1 X b.length (u8s (ints b))) (hS : Reads w w.heap.size 1 Y d.length (u8s (ints d))) :
    Calls Try.prog 13 #[.slice (some ⟨w.heap.size, 0, none⟩) 2 2] (w.alloc (.cells #[.slice X b.length c, .slice Y d.length c'] t)) fun e w' => e = .returned (.int .u32 (mk 0 (ints (b ++ d)))) ∧ Below w.heap.size w w' := by
  have h := of_any (some ⟨w.heap.size, 0, none⟩) 2 [b, d] (by simp) (by simp; exact ⟨hb, hd⟩) (w.alloc (.cells #[.slice X b.length c, .slice Y d.length c'] t)) (parts_two w t X Y b d c c' _ (by simp) hR hS)
  refine h.mono fun e w' ⟨he, hB⟩ => ⟨by simpa using he, ?_⟩
  exact ((Below.refl _ w).alloc (Nat.le_refl _) _).trans (hB.mono (by simp))

theorem on_any (m : Int) (hm0 : 0 ≤ m) (hm1 : m ≤ 4294967295) (X : Option Addr) (c : Nat) (b : List B8) (hb : b.length ≤ 4611686018427387904) (w : World) (hR : Reads w w.heap.size 1 X b.length (u8s (ints b))) :
    Calls Try.prog 15 #[.int .u32 m, .slice X b.length c] w fun e w' => e = .returned (.int .u32 (mk (m % 4294967291) (ints b))) ∧ Below w.heap.size w w' := by
  have HR := Lib.hid hR
  clear hR
  go_enter Try.func15, Try.ntmps15
  go_wp2_with fail
  refine (from_any (m % 4294967291) (by omega) (by omega) (some ⟨w.heap.size, 0, none⟩) 1 [b] (by simp) (by simpa using hb) _ (parts_one w _ X b c _ (by simp) HR.out)).mono ?_
  rintro e w' ⟨rfl, hB⟩
  have HB := Lib.hid hB
  clear hB
  go_wp2_with fail
  go_ret
  exact ⟨by simp, ((Below.refl _ w).alloc (Nat.le_refl _) _).trans (HB.out.mono (by simp))⟩

theorem of_none (w : World) :
    Calls Try.prog 13 #[.slice none 0 0] w fun e w' => e = .returned (.int .u32 0) ∧ Below w.heap.size w w' :=
  of_any none 0 [] (by simp) (by simp) w ⟨[], Reads.none_, by simp⟩

def ba : List B8 := [⟨97, by omega⟩]
def bab : List B8 := [⟨97, by omega⟩, ⟨98, by omega⟩]
def babc : List B8 := [⟨97, by omega⟩, ⟨98, by omega⟩, ⟨99, by omega⟩]
/-- mark.Of of constant bytes, as the walk lays them. -/
theorem of_lit (w : World) (cs : Array Value) (b : List B8) (hcs : cs = (u8s (ints b)).toArray) (n : Nat) (hn : n = b.length) (hb : b.length ≤ 1000) (fr : Nat × Nat) (t t' : TypeId) (v : Int) (hv : mk 0 (ints b) = v) :
    Calls Try.prog 13 #[.slice (some ⟨w.heap.size + 1, 0, none⟩) 1 1] ((w.alloc (.cells cs t fr)).alloc (.cells #[.slice (some ⟨w.heap.size, 0, none⟩) n n] t')) fun e w' => e = .returned (.int .u32 v) ∧ Below w.heap.size w w' := by
  subst hcs; subst hn; subst hv
  have h := of_one (some ⟨w.heap.size, 0, none⟩) b.length b (by omega) (w.alloc (.cells (u8s (ints b)).toArray t fr)) t' (reads_new w t b _ _ (by simp) rfl fr)
  rw [World.size_alloc] at h
  exact h.mono fun e w' ⟨he, hB⟩ => ⟨he, ((Below.refl _ w).alloc (Nat.le_refl _) _).trans (hB.mono (by simp))⟩

set_option maxHeartbeats 800000 in
theorem alive_any (w : World) :
    Calls Try.prog 12 #[] w fun e w' => e = .returned (.bool true) ∧ Below w.heap.size w w' := by
  have kc := fun (w : World) (C : Array Value) (n c : Nat) => Lib.run_convert_bytes_const (P := Try.prog) w 29 5 C n c Try.underlying29 Try.underlying5
  go_enter Try.func12, Try.ntmps12
  go_wp2_with fail
  refine (of_none _).mono ?_
  rintro e w1 ⟨rfl, hB1⟩
  have HB1 := Lib.hid hB1
  clear hB1
  go_wp2_with fail
  refine (of_lit w1 _ ba rfl 1 rfl (by decide) _ _ _ 98 (by decide)).mono ?_
  rintro e w2 ⟨rfl, hB2⟩
  have HB2 := Lib.hid (HB1.out.trans (hB2.mono HB1.out.size))
  clear hB2
  go_wp2_with fail
  refine (of_lit w2 _ bab rfl 2 rfl (by decide) _ _ _ 6422725 (by decide)).mono ?_
  rintro e w3 ⟨rfl, hB3⟩
  have HB3 := Lib.hid (HB2.out.trans (hB3.mono HB2.out.size))
  clear hB3
  go_wp2_with fail
  refine (of_lit w3 _ babc rfl 3 rfl (by decide) _ _ _ 19333907 (by decide)).mono ?_
  rintro e w4 ⟨rfl, hB4⟩
  have HB4 := Lib.hid (HB3.out.trans (hB4.mono HB3.out.size))
  clear hB4
  go_wp2_with fail
  go_ret
  exact ⟨rfl, HB4.out⟩
end Go.Proofs.Ytgnaadaihncgeaa.MarkOf
