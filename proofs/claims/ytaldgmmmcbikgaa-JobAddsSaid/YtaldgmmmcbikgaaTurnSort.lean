/- slices.SortFunc at wants, at most 6 of them: the slice holds them sorted. No conditions but those named. -/
import Derived.Shelf.SlSortCmp.InsertionK
import Derived.Sort.LotA
import Derived.Lib.QuietBelow
import Derived.Maps.RangeWalk
import Derived.WalkSpells
import Derived.Test.YtaldgmmmcbikgaaTurnWalks
import Derived.Test.YtaldgmmmcbikgaaTurnAppend
namespace Go.Proofs.Ytaldgmmmcbikgaa.TurnSort
open Go.Shelf Mem TurnMath TurnWalks TurnMap TurnAppend
open Go.RowKit (Below)
open Go.Sort (Holds HoldsK putRowK flatK SWO SortedIn PermIn grow)
set_option linter.unusedVariables false
set_option linter.unusedSimpArgs false

abbrev INS := 96
abbrev CMP := 81
def rn : Ren := ⟨fun n => if n = 20 then INS else n, fun n => if n = 0 then 0 else if n = 3 then 3 else if n = 4 then 4 else if n = 22 then 94 else if n = 24 then 30 else if n = 25 then 109 else n, fun n => n⟩
theorem lay : SlLaysF0.n20 Try.prog rn := {
  mixed := by kernel_rfl
  f20 := ⟨Try.f96.name, by decide, Try.func96.trans (by kernel_rfl)⟩
  t0 := Try.underlying0
  a0 := fun w => by kernel_rfl
  z0 := fun w => by kernel_rfl
  v0 := fun w => by kernel_rfl
  t3 := Try.underlying3
  a3 := fun w => by kernel_rfl
  z3 := fun w => by kernel_rfl
  v3 := fun w => by kernel_rfl
  t4 := Try.underlying4
  a4 := fun w => by kernel_rfl
  z4 := fun w => by kernel_rfl
  v4 := fun w => by kernel_rfl
  t22 := Try.underlying94
  a22 := fun w => by kernel_rfl
  z22 := fun w => by kernel_rfl
  v22 := fun w => by kernel_rfl
  t25 := Try.underlying109
  a25 := fun w => by kernel_rfl
  z25 := fun w => by kernel_rfl
  v25 := fun w => by kernel_rfl }

abbrev OW := { x : WV // WOk x }
instance : Inhabited OW := ⟨⟨⟨1, 1, 1, false, false, false, false⟩, by unfold WOk inD; decide⟩⟩
def encW (x : OW) : List Value := x.1.cells
def cfW (x y : OW) : Int := cmpW x.1 y.1
theorem lt_num (x y : OW) : ltOf cfW x y = decide (numW x.1 < numW y.1) := by
  unfold ltOf cfW
  rw [cmpW_num x.2 y.2]
  rcases cmpI_eq (numW x.1) (numW y.1) with ⟨h, e⟩ | ⟨h, e⟩ | ⟨h, e⟩ <;> rw [e]
  · simp [h]
  · simp [h]
  · have : ¬ numW x.1 < numW y.1 := by omega
    simp [this]
theorem swo : SWO (ltOf cfW) := by
  refine ⟨fun x => ?_, fun x y z => ?_, fun x y z => ?_⟩
  · rw [lt_num]; simp
  · rw [lt_num, lt_num, lt_num]; simp; omega
  · rw [lt_num, lt_num, lt_num]; simp; omega
theorem cmp_lays (blk off size : Nat) (w : World) : CmpLays Try.prog CMP #[] encW 7 cfW blk off size w := fun m os dk _ x y => by
  obtain ⟨⟨a1, b1, c1, p1, q1, r1, n1⟩, hx⟩ := x
  obtain ⟨⟨a2, b2, c2, p2, q2, r2, n2⟩, hy⟩ := y
  exact wcompare a1 b1 c1 p1 q1 r1 n1 a2 b2 c2 p2 q2 r2 n2 _ rfl _

theorem sort_below {w : World} {B blk off n : Nat} {d : Array OW} {os : Array Obj} (h : B ≤ blk) (hw : B ≤ w.heap.size) : Below B w (sortWorldK encW 7 w blk off n d os) := by
  refine ⟨rfl, rfl, rfl, size_sortWorldK_c .., fun j hj => ?_⟩
  have hne : blk ≠ j := by omega
  have hjs : j < w.heap.size := by omega
  unfold sortWorldK putRowK Go.Sort.putRow
  simp [grow, Go.Sort.mapBlock, Go.Sort.ahead, Array.getElem?_append, hjs, Array.getElem?_modify, hne]
  rw [Array.getElem_modify, if_neg hne]

set_option maxHeartbeats 2000000 in
theorem insertion_any (blk off cap : Nat) (d : Array OW) (w : World) (hH : HoldsK encW 7 w blk off d) (hblk : blk < w.heap.size) (hsz : d.size ≤ 6) :
    Calls Try.prog INS #[.slice (some ⟨blk, off, none⟩) d.size cap, .int .i64 0, .int .i64 d.size, .func (.func CMP) #[] #[]] w fun e w' =>
      e = .returned (.tuple #[]) ∧ ∃ n os, w' = sortWorldK encW 7 w blk off n (Go.Sort.insertionSort (ltOf cfW) d 0 d.size) os :=
  AnyQ.insertionSortCmpFunc lay 7 (fun w => by kernel_rfl) (fun w => by kernel_rfl) encW (fun _ => rfl) (fun x v hv => one_cell x.1 v hv) cfW CMP #[] blk off cap 0 d.size d w
    (enters_of Try.func81 (by kernel_rfl) rfl) (cmp_lays blk off d.size w) hH hblk (Nat.zero_le _) (Nat.le_refl _) (by omega)

theorem len64_any (n : Nat) (h : n ≤ 6) (w : World) : Calls Try.prog 105 #[.int .u64 n] w fun e w' => (∃ l : Int, e = .returned (.int .i64 l)) ∧ w' = w := by
  have h7 : n = 0 ∨ n = 1 ∨ n = 2 ∨ n = 3 ∨ n = 4 ∨ n = 5 ∨ n = 6 := by omega
  rcases h7 with rfl | rfl | rfl | rfl | rfl | rfl | rfl
  all_goals
    go_enter Try.func105, Try.ntmps105
    go_wp2_with fail
    go_ret
    exact ⟨⟨_, rfl⟩, rfl⟩
theorem len_any (n : Nat) (h : n ≤ 6) (w : World) : Calls Try.prog 93 #[.int .u64 n] w fun e w' => (∃ l : Int, e = .returned (.int .i64 l)) ∧ w' = w := by
  have H := Lib.hid (len64_any n h w)
  go_enter Try.func93, Try.ntmps93
  go_wp2_with fail
  refine H.out.mono ?_
  rintro e w' ⟨⟨l, rfl⟩, rfl⟩
  go_wp2_with fail
  go_ret
  exact ⟨⟨_, rfl⟩, rfl⟩

set_option maxRecDepth 100000 in
set_option maxHeartbeats 2000000 in
theorem pdq_any (blk off cap : Nat) (d : Array OW) (lim : Int) (w : World) (hH : HoldsK encW 7 w blk off d) (hblk : blk < w.heap.size) (hsz : d.size ≤ 6) :
    Calls Try.prog 92 #[.slice (some ⟨blk, off, none⟩) d.size cap, .int .i64 0, .int .i64 d.size, .int .i64 lim, .func (.func CMP) #[] #[]] w fun e w' =>
      e = .returned (.tuple #[]) ∧ ∃ n os, w' = sortWorldK encW 7 w blk off n (Go.Sort.insertionSort (ltOf cfW) d 0 d.size) os := by
  have H := Lib.hid (insertion_any blk off cap d w hH hblk hsz)
  have h12 : (d.size : Int) ≤ 12 := by omega
  have hw : IntKind.i64.wrap (d.size : Int) = (d.size : Int) := IntWalk.i64_in _ (by omega)
  clear hH
  go_enter Try.func92, Try.ntmps92
  go_wp2_with fail
  refine wp_loop_rounds 1 ?_
  rw [rounds_succ]
  go_wp2_with fail
  refine H.out.mono ?_
  rintro e w' ⟨rfl, n, os, rfl⟩
  go_wp2_with fail
  refine bodyPost_ret (results_none rfl _ _ _) rfl ?_
  exact ⟨rfl, n, os, rfl⟩

set_option maxRecDepth 100000 in
theorem sortFunc_any (blk off cap : Nat) (d : Array OW) (w : World) (hH : HoldsK encW 7 w blk off d) (hblk : blk < w.heap.size) (hsz : d.size ≤ 6) :
    Calls Try.prog 86 #[.slice (some ⟨blk, off, none⟩) d.size cap, .func (.func CMP) #[] #[]] w fun e w' =>
      e = .returned (.tuple #[]) ∧ ∃ n os, w' = sortWorldK encW 7 w blk off n (Go.Sort.insertionSort (ltOf cfW) d 0 d.size) os := by
  have H := Lib.hid (fun lim => pdq_any blk off cap d lim w hH hblk hsz)
  have HL := Lib.hid (len_any d.size hsz w)
  have hw : IntKind.u64.wrap (d.size : Int) = (d.size : Int) := by rw [IntKind.wrap_u64]; omega
  clear hH
  go_enter Try.func86, Try.ntmps86
  go_wp2_with fail
  refine HL.out.mono ?_
  rintro e w' ⟨⟨l, rfl⟩, rfl⟩
  go_wp2_with fail
  refine (H.out l).mono ?_
  rintro e w' ⟨rfl, n, os, rfl⟩
  go_wp2_with fail
  go_end0
  exact ⟨rfl, n, os, rfl⟩
end Go.Proofs.Ytaldgmmmcbikgaa.TurnSort
