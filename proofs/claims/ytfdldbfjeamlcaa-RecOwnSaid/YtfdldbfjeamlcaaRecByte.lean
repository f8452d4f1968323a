/- rec.port's byte, num, truth, where it writes. No conditions but those named. -/
import Derived.BigQuiet
import Derived.Deep.QuietTactic
import Derived.Deep.RegionLaw
import Derived.Lib.QuietBelow
import Derived.IntWalk
import Derived.WalkKit
import Derived.Test.YtfdldbfjeamlcaaRecMem
namespace Go.Proofs.Ytfdldbfjeamlcaa.RecByte
open Go.RowKit Mem RecMem
set_option linter.unusedVariables false
set_option linter.unusedSimpArgs false

theorem byte_info : (Try.prog.info? 5).map (fun i => (i.zero, i.size, i.bytes)) = some (some (.int .u8 0), 1, 1) := by kernel_rfl
theorem reads_one (w : World) (t : TypeId) (u : Value) : Reads (w.alloc (.cells #[u] t)) (w.heap.size + 1) 1 (some ⟨w.heap.size, 0, none⟩) 1 [u] :=
  ⟨rfl, fun _ => ⟨_, rfl, by simp, fun j q hq => by
    match j with
    | 0 => rw [add_flat]; exact ((Blk.new w t #[u]).cell 0).trans hq
    | j + 1 => simp at hq⟩⟩
/-- A row of bytes is a slice. -/
theorem own_slice {w : World} {B n : Nat} {v : Value} {xs : List Value} (h : w.ownsRow B 5 1 v n xs) : ∃ Y c, v = .slice Y n c := by
  rcases h.2 with ⟨rfl, e0⟩ | ⟨g, cap', cur, rfl, _⟩
  · exact ⟨none, 0, by rw [e0]⟩
  · exact ⟨_, cap', rfl⟩
set_option maxRecDepth 100000 in
set_option maxHeartbeats 4000000 in
theorem wbyte (gp : Nat) (v : Value) (t : List Int) (od : Bool) (b o : Nat) (x : Int) (hl : t.length ≤ 1000000) (w : World) (hP : PW w gp v t od) (ha : w.cell? ⟨b, o, none⟩ = some (.int .u8 x)) :
    Calls Try.prog 102 #[.pointer (some ⟨gp, 0, none⟩), .pointer (some ⟨b, o, none⟩)] w fun e w' => (∃ r, e = .returned r) ∧ ∃ v', PW w' gp v' (t ++ [x]) od ∧ Fr gp v w v' w' := by
  obtain ⟨i0, hi0, hz0, hz1, hz2⟩ := info_parts byte_info
  have HI := Lib.hid (And.intro hi0 (And.intro hz0 (And.intro hz1 hz2)))
  have p0 : w.cell? ⟨gp, 0, none⟩ = some v := hP.1.cell 0
  have p1 : w.cell? ⟨gp, 1, none⟩ = some (.bool false) := hP.1.cell 1
  have f0 := hP.1.frozen 0
  have hgs : gp < w.heap.size := hP.lt
  have hbs : b < w.heap.size := cell_lt ha
  have HP := Lib.hid hP
  clear hP hi0 hz0 hz1 hz2
  go_enter Try.func102, Try.ntmps102
  go_wp2_with fail
  go_region_law (refine step_append_any _ rfl (.tmp 13) (.tmp 17) _ rfl 0 5 i0 (.int .u8 0) 1 1 Try.underlying37 HI.out.1 HI.out.2.1 HI.out.2.2.1 HI.out.2.2.2 rfl (by decide) v t.length (t.map (Value.int .u8)) (by simp [Act.eval, Act.put]) ((HP.out.2.1.drew).alloc (.cells #[.int .u8 x] 5)) (w.heap.size + 1) (some ⟨w.heap.size, 0, none⟩) 1 1 [.int .u8 x] (by simp [Act.eval, Act.put]) (Reads.drew (reads_one w 5 (.int .u8 x))) (fun u hu => by simp at hu; subst hu; rfl) (by simp only [maxLen]; omega) (by omega) (Nat.zero_le _) ?_; intro v2 w2 hown hg hat; obtain ⟨X2, c2, rfl⟩ := own_slice hown; have hK2 := ((HP.out.1.drew).alloc (.cells #[.int .u8 x] 5)).grown hg (fun e => HP.out.2.2 e.symm); have q0 : w2.cell? ⟨gp, 0, none⟩ = some v := hK2.cell 0; have g0 := hK2.frozen 0; have H2 := Lib.hid (And.intro hown (And.intro hg (And.intro hat hK2))); clear hown hg hat hK2)
  all_goals
    go_wp2_with fail
    refine bodyPost_ret (results_none rfl _ _ _) rfl ?_
    have hne : (Value.slice X2 (t.length + 1) c2).ownBlock ≠ some gp := fun e => by
      rcases H2.out.2.2.1 with h | h
      · exact HP.out.2.2 (h ▸ e)
      · rw [e] at h; simp at h; omega
    have e1 : (t ++ [x]).length = t.length + 1 := by simp
    refine ⟨⟨_, rfl⟩, .slice X2 (t.length + 1) c2, ⟨(H2.out.2.2.2.set_ 0 _), ?_, hne⟩, ?_⟩
    · rw [e1, List.map_append]
      exact Go.ownsRow_setCell_other H2.out.1 (a := ⟨gp, 0, none⟩) hne _
    · exact (((Fr.refl gp v w).drew.alloc (.cells #[.int .u8 x] 5)).grown H2.out.2.1 H2.out.2.2.1).set_ (.inl rfl) _
end Go.Proofs.Ytfdldbfjeamlcaa.RecByte
