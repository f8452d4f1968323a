/- The contract of part.table: what turns make of phases. -/
import Derived.Test.YtfndopemfhmhgaaPartClass
import Derived.Laws.CopyOwn
import Derived.Laws.Tables
import Derived.Laws.Rows
namespace Go.Proofs.Ytfndopemfhmhgaa.PartTable
open Go.RowKit Mem PartMath
set_option linter.unusedVariables false

theorem wpList_build_to {P : Program} {ops : Array Oper} {rest : List Oper} {o : Oper} {a : Act} {w : World} {Q : Exit → Act → World → Prop} (hg : o.guard = none) (t : TypeId) (parts : Array (Nat × Operand)) (ho : o.op = .build t parts) (cs : Array Value)
    (hb : P.built t (parts.map fun (i, x) => (i, a.eval x)).toList = some cs) (h : wpList P ops Q rest (a.put o.dst (.agg cs)) w) : wpList P ops Q (o :: rest) a w :=
  wpList_build hg t parts ho (by rw [hb]; rfl) (by rw [hb]; exact h)
def zeroA : Array Value := #[.int .u8 0, .int .u8 0, .bool false, .bool false, .int .u8 0, .int .u8 0, .bool false, .bool false, .int .u8 0, .int .u8 0, .bool false, .bool false, .int .u8 0, .int .u8 0, .bool false, .bool false, .int .u8 0, .int .u8 0, .bool false, .bool false, .int .u8 0, .int .u8 0, .bool false, .bool false, .int .u8 0, .int .u8 0, .bool false, .bool false, .int .u8 0, .int .u8 0, .bool false, .bool false, .int .u8 0, .int .u8 0, .bool false, .bool false, .int .u8 0, .int .u8 0, .bool false, .bool false, .int .u8 0, .int .u8 0, .bool false, .bool false, .int .u8 0, .int .u8 0, .bool false, .bool false, .int .u8 0, .int .u8 0, .bool false, .bool false, .int .u8 0, .int .u8 0, .bool false, .bool false, .int .u8 0, .int .u8 0, .bool false, .bool false, .int .u8 0, .int .u8 0, .bool false, .bool false, .int .u8 0, .int .u8 0, .bool false, .bool false, .int .u8 0, .int .u8 0, .bool false, .bool false, .int .u8 0, .int .u8 0, .bool false, .bool false, .int .u8 0, .int .u8 0, .bool false, .bool false, .int .u8 0, .int .u8 0, .bool false, .bool false, .int .u8 0, .int .u8 0, .bool false, .bool false, .int .u8 0, .int .u8 0, .bool false, .bool false, .int .u8 0, .int .u8 0, .bool false, .bool false, .int .u8 0, .int .u8 0, .bool false, .bool false, .int .u8 0, .int .u8 0, .bool false, .bool false, .int .u8 0, .int .u8 0, .bool false, .bool false, .int .u8 0, .int .u8 0, .bool false, .bool false, .int .u8 0, .int .u8 0, .bool false, .bool false, .int .u8 0, .int .u8 0, .bool false, .bool false, .int .u8 0, .int .u8 0, .bool false, .bool false, .int .u8 0, .int .u8 0, .bool false, .bool false, .int .u8 0, .int .u8 0, .bool false, .bool false, .int .u8 0, .int .u8 0, .bool false, .bool false, .int .u8 0, .int .u8 0, .bool false, .bool false, .int .u8 0, .int .u8 0, .bool false, .bool false]
def tabA : Array Value := #[.int .u8 0, .int .u8 0, .bool false, .bool false, .int .u8 0, .int .u8 0, .bool false, .bool false, .int .u8 0, .int .u8 0, .bool false, .bool false, .int .u8 0, .int .u8 0, .bool false, .bool false, .int .u8 0, .int .u8 0, .bool false, .bool false, .int .u8 2, .int .u8 0, .bool false, .bool false, .int .u8 0, .int .u8 0, .bool false, .bool false, .int .u8 0, .int .u8 0, .bool false, .bool false, .int .u8 0, .int .u8 0, .bool false, .bool false, .int .u8 1, .int .u8 0, .bool false, .bool false, .int .u8 0, .int .u8 0, .bool false, .bool false, .int .u8 0, .int .u8 0, .bool false, .bool false, .int .u8 0, .int .u8 0, .bool false, .bool false, .int .u8 0, .int .u8 0, .bool false, .bool false, .int .u8 3, .int .u8 3, .bool false, .bool false, .int .u8 0, .int .u8 0, .bool false, .bool false, .int .u8 0, .int .u8 0, .bool false, .bool false, .int .u8 0, .int .u8 0, .bool false, .bool false, .int .u8 3, .int .u8 6, .bool false, .bool false, .int .u8 0, .int .u8 0, .bool false, .bool false, .int .u8 0, .int .u8 0, .bool false, .bool false, .int .u8 0, .int .u8 0, .bool false, .bool false, .int .u8 3, .int .u8 4, .bool false, .bool false, .int .u8 0, .int .u8 0, .bool false, .bool false, .int .u8 0, .int .u8 0, .bool false, .bool false, .int .u8 3, .int .u8 5, .bool false, .bool false, .int .u8 3, .int .u8 5, .bool false, .bool false, .int .u8 0, .int .u8 0, .bool false, .bool false, .int .u8 0, .int .u8 0, .bool false, .bool false, .int .u8 3, .int .u8 6, .bool false, .bool false, .int .u8 3, .int .u8 6, .bool false, .bool false, .int .u8 3, .int .u8 0, .bool true, .bool false, .int .u8 0, .int .u8 0, .bool false, .bool false, .int .u8 0, .int .u8 0, .bool false, .bool false, .int .u8 0, .int .u8 0, .bool false, .bool false, .int .u8 3, .int .u8 0, .bool false, .bool true]
def row0A : Array Value := #[.int .u8 0, .int .u8 0, .bool false, .bool false, .int .u8 0, .int .u8 0, .bool false, .bool false, .int .u8 0, .int .u8 0, .bool false, .bool false, .int .u8 0, .int .u8 0, .bool false, .bool false]
def row1A : Array Value := #[.int .u8 0, .int .u8 0, .bool false, .bool false, .int .u8 2, .int .u8 0, .bool false, .bool false, .int .u8 0, .int .u8 0, .bool false, .bool false, .int .u8 0, .int .u8 0, .bool false, .bool false]
def row2A : Array Value := #[.int .u8 0, .int .u8 0, .bool false, .bool false, .int .u8 1, .int .u8 0, .bool false, .bool false, .int .u8 0, .int .u8 0, .bool false, .bool false, .int .u8 0, .int .u8 0, .bool false, .bool false]
def row3A : Array Value := #[.int .u8 0, .int .u8 0, .bool false, .bool false, .int .u8 0, .int .u8 0, .bool false, .bool false, .int .u8 3, .int .u8 3, .bool false, .bool false, .int .u8 0, .int .u8 0, .bool false, .bool false]
def row4A : Array Value := #[.int .u8 0, .int .u8 0, .bool false, .bool false, .int .u8 0, .int .u8 0, .bool false, .bool false, .int .u8 3, .int .u8 6, .bool false, .bool false, .int .u8 0, .int .u8 0, .bool false, .bool false]
def row5A : Array Value := #[.int .u8 0, .int .u8 0, .bool false, .bool false, .int .u8 0, .int .u8 0, .bool false, .bool false, .int .u8 3, .int .u8 4, .bool false, .bool false, .int .u8 0, .int .u8 0, .bool false, .bool false]
def row6A : Array Value := #[.int .u8 0, .int .u8 0, .bool false, .bool false, .int .u8 3, .int .u8 5, .bool false, .bool false, .int .u8 3, .int .u8 5, .bool false, .bool false, .int .u8 0, .int .u8 0, .bool false, .bool false]
def row7A : Array Value := #[.int .u8 0, .int .u8 0, .bool false, .bool false, .int .u8 3, .int .u8 6, .bool false, .bool false, .int .u8 3, .int .u8 6, .bool false, .bool false, .int .u8 3, .int .u8 0, .bool true, .bool false]
def row8A : Array Value := #[.int .u8 0, .int .u8 0, .bool false, .bool false, .int .u8 0, .int .u8 0, .bool false, .bool false, .int .u8 0, .int .u8 0, .bool false, .bool false, .int .u8 3, .int .u8 0, .bool false, .bool true]
theorem free_any (j : Int) (w : World) :
    Calls Try.prog 35 #[.int .u8 j] w fun e w' => e = .returned (.agg #[.int .u8 3, .int .u8 j, .bool false, .bool false]) ∧ Below w.heap.size w w' := by
  go_enter Try.func35, Try.ntmps35
  go_wp2_with fail
  exact bodyPost_ret (v := .agg #[.int .u8 3, .int .u8 j, .bool false, .bool false]) (by simp [results, Try.results35, go_sem]) rfl ⟨rfl, below_alloc (Below.refl _ _)⟩
set_option maxRecDepth 100000 in
set_option maxHeartbeats 4000000 in
theorem table_any (w : World) :
    Calls Try.prog 25 #[] w fun e w' => e = .returned (.agg tabA) ∧ Below w.heap.size w w' := by
  have zv : ∀ w, (zeroValue 64).run Try.prog w = .ok (.agg zeroA) w := fun _ => by kernel_rfl
  go_enter Try.func25, Try.ntmps25
  go_wp2_with fail
  refine (free_any 3 _).mono ?_
  rintro e w1 ⟨rfl, hB1⟩
  have HB1 : Hid (Below w.heap.size w w1) := below_up (below_alloc (Below.refl _ _)) hB1
  have kb1 : Blk w1 w.heap.size 64 zeroA := (Blk.new w _ _).below hB1 (by simp)
  have KB1 := Lib.hid kb1
  clear hB1 kb1
  go_wp2_with fail
  refine (free_any 6 _).mono ?_
  rintro e w2 ⟨rfl, hB2⟩
  have HB2 : Hid (Below w.heap.size w w2) := below_up HB1.out hB2
  have kb2 : Blk w2 w.heap.size 64 zeroA := KB1.out.below hB2 KB1.out.lt
  have KB2 := Lib.hid kb2
  clear hB2 kb2
  go_wp2_with fail
  refine (free_any 4 _).mono ?_
  rintro e w3 ⟨rfl, hB3⟩
  have HB3 : Hid (Below w.heap.size w w3) := below_up HB2.out hB3
  have kb3 : Blk w3 w.heap.size 64 zeroA := KB2.out.below hB3 KB2.out.lt
  have KB3 := Lib.hid kb3
  clear hB3 kb3
  go_wp2_with fail
  refine (free_any 5 _).mono ?_
  rintro e w4 ⟨rfl, hB4⟩
  have HB4 : Hid (Below w.heap.size w w4) := below_up HB3.out hB4
  have kb4 : Blk w4 w.heap.size 64 zeroA := KB3.out.below hB4 KB3.out.lt
  have KB4 := Lib.hid kb4
  clear hB4 kb4
  go_wp2_with fail
  refine (free_any 5 _).mono ?_
  rintro e w5 ⟨rfl, hB5⟩
  have HB5 : Hid (Below w.heap.size w w5) := below_up HB4.out hB5
  have kb5 : Blk w5 w.heap.size 64 zeroA := KB4.out.below hB5 KB4.out.lt
  have KB5 := Lib.hid kb5
  clear hB5 kb5
  go_wp2_with fail
  refine (free_any 6 _).mono ?_
  rintro e w6 ⟨rfl, hB6⟩
  have HB6 : Hid (Below w.heap.size w w6) := below_up HB5.out hB6
  have kb6 : Blk w6 w.heap.size 64 zeroA := KB5.out.below hB6 KB5.out.lt
  have KB6 := Lib.hid kb6
  clear hB6 kb6
  go_wp2_with fail
  refine (free_any 6 _).mono ?_
  rintro e w7 ⟨rfl, hB7⟩
  have HB7 : Hid (Below w.heap.size w w7) := below_up HB6.out hB7
  have kb7 : Blk w7 w.heap.size 64 zeroA := KB6.out.below hB7 KB6.out.lt
  have KB7 := Lib.hid kb7
  clear hB7 kb7
  go_wp2_with (first | (refine wpList_build_to rfl 64 #[(1, .tmp 3), (2, .tmp 5), (3, .tmp 8), (4, .tmp 11), (5, .tmp 14), (6, .tmp 19), (7, .tmp 25), (8, .tmp 27)] rfl tabA (by kernel_rfl) ?_) | (refine wpList_store_row rfl 64 (.tmp 0) (.tmp 28) rfl w.heap.size tabA rfl rfl 64 zeroA KB7.out (by kernel_rfl) (by kernel_rfl) (by kernel_rfl) ?_))
  exact bodyPost_ret (v := .agg tabA) (results_cell_row rfl _ _ w.heap.size 64 tabA (0, 0) _ rfl (setRow_heap w7 w.heap.size zeroA tabA _ _ KB7.out) Try.underlying64 rfl (by kernel_rfl)) rfl ⟨rfl, below_setRow HB7.out (Nat.le_refl _) _⟩
end Go.Proofs.Ytfndopemfhmhgaa.PartTable
