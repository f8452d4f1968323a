/- turn.All: the rotations of what is asked for, each once, rising: for all wants. -/
import Derived.BigRegion
import Derived.Carry
import Derived.Laws.CopyOwn
import Derived.Laws.Tables
import Derived.Laws.Rows
import Derived.Test.YtaldgmmmcbikgaaTurnSorted
namespace Go.Proofs.Ytaldgmmmcbikgaa.TurnAll
open Go.RowKit Mem TurnMath TurnWalks TurnMap TurnSorted
set_option linter.unusedVariables false
set_option linter.unusedSimpArgs false

theorem wpList_build_to {P : Program} {ops : Array Oper} {rest : List Oper} {o : Oper} {a : Act} {w : World} {Q : Exit → Act → World → Prop} (hg : o.guard = none) (t : TypeId) (parts : Array (Nat × Operand)) (ho : o.op = .build t parts) (cs : Array Value)
    (hb : P.built t (parts.map fun (i, x) => (i, a.eval x)).toList = some cs) (h : wpList P ops Q rest (a.put o.dst (.agg cs)) w) : wpList P ops Q (o :: rest) a w :=
  wpList_build hg t parts ho (by rw [hb]; rfl) (by rw [hb]; exact h)
def zeroO : Array Value := #[.int .i64 0, .int .i64 0, .int .i64 0, .int .i64 0, .int .i64 0, .int .i64 0, .int .i64 0, .int .i64 0, .int .i64 0, .int .i64 0, .int .i64 0, .int .i64 0, .int .i64 0, .int .i64 0, .int .i64 0, .int .i64 0, .int .i64 0, .int .i64 0]
def ordO : Array Value := #[.int .i64 0, .int .i64 1, .int .i64 2, .int .i64 0, .int .i64 2, .int .i64 1, .int .i64 1, .int .i64 0, .int .i64 2, .int .i64 1, .int .i64 2, .int .i64 0, .int .i64 2, .int .i64 0, .int .i64 1, .int .i64 2, .int .i64 1, .int .i64 0]
set_option maxRecDepth 100000 in
set_option maxHeartbeats 4000000 in
theorem orders_any (w : World) : Calls Try.prog 78 #[] w fun e w' => e = .returned (.agg ordO) ∧ Below w.heap.size w w' := by
  have zv : ∀ w, (zeroValue 103).run Try.prog w = .ok (.agg zeroO) w := fun _ => by kernel_rfl
  have kb := Blk.new w 103 zeroO
  have KB := Lib.hid kb
  clear kb
  go_enter Try.func78, Try.ntmps78
  go_wp2_with (first | (refine wpList_build_to rfl 103 #[(0, .tmp 1), (1, .tmp 2), (2, .tmp 3), (3, .tmp 4), (4, .tmp 5), (5, .tmp 6)] rfl ordO (by kernel_rfl) ?_) | (refine wpList_store_row rfl 103 (.tmp 0) (.tmp 7) rfl w.heap.size ordO rfl rfl 103 zeroO KB.out (by kernel_rfl) (by kernel_rfl) (by kernel_rfl) ?_))
  exact bodyPost_ret (v := .agg ordO) (results_cell_row rfl _ _ w.heap.size 103 ordO (0, 0) _ rfl (setRow_heap (w.alloc (.cells zeroO 103)) w.heap.size zeroO ordO _ _ KB.out) Try.underlying103 rfl (by kernel_rfl)) rfl ⟨rfl, below_setRow (below_alloc (Below.refl _ _)) (Nat.le_refl _) _⟩
/-- What is answered: the rotations, or an error. -/
def AllRes (w w' : World) (x : WV) (v : Value) (e : Int) : Prop :=
  (WOk x ∧ e = 0 ∧ WSl w' w.heap.size v (allL x)) ∨ (¬ WOk x ∧ e = 8 ∧ v = .slice none 0 0)
theorem all_bad (a b c : Int) (p q r tn : Bool) (h : ¬ WOk ⟨a, b, c, p, q, r, tn⟩) (w : World) :
    Calls Try.prog 69 #[.agg #[.int .i64 a, .int .i64 b, .int .i64 c, .bool p, .bool q, .bool r, .bool tn]] w fun e w' => e = .returned (.tuple #[.slice none 0 0, .int .i64 8]) ∧ Below w.heap.size w w' := by
  have HH := Lib.hid h
  clear h
  go_enter Try.func69, Try.ntmps69
  go_wp2_with fail
  refine (wcheck_bad a b c p q r tn HH.out _).mono ?_
  rintro e w1 ⟨rfl, hB1⟩
  have HB1 := Lib.hid (below_up (below_alloc (Below.refl _ w)) hB1)
  clear hB1
  go_wp2_with fail
  go_ret2
  exact ⟨rfl, HB1.out⟩
theorem all_one (a b c : Int) (p q r : Bool) (h : WOk ⟨a, b, c, p, q, r, false⟩) (w : World) :
    Calls Try.prog 69 #[.agg #[.int .i64 a, .int .i64 b, .int .i64 c, .bool p, .bool q, .bool r, .bool false]] w fun e w' => ∃ v, e = .returned (.tuple #[v, .int .i64 0]) ∧ WSl w' w.heap.size v [⟨a, b, c, p, q, r, false⟩] ∧ Below w.heap.size w w' := by
  have HH := Lib.hid h
  clear h
  go_enter Try.func69, Try.ntmps69
  go_wp2_with fail
  refine (wcheck_ok a b c p q r false HH.out _).mono ?_
  rintro e w1 ⟨rfl, hB1⟩
  have kx : Blk w1 w.heap.size 30 #[.int .i64 a, .int .i64 b, .int .i64 c, .bool p, .bool q, .bool r, .bool false] := (Blk.new w _ _).below hB1 (by simp)
  have x0 : w1.cell? ⟨w.heap.size, 0, none⟩ = some (.int .i64 a) := kx.cell 0
  have x1 : w1.cell? ⟨w.heap.size, 1, none⟩ = some (.int .i64 b) := kx.cell 1
  have x2 : w1.cell? ⟨w.heap.size, 2, none⟩ = some (.int .i64 c) := kx.cell 2
  have x3 : w1.cell? ⟨w.heap.size, 3, none⟩ = some (.bool p) := kx.cell 3
  have x4 : w1.cell? ⟨w.heap.size, 4, none⟩ = some (.bool q) := kx.cell 4
  have x5 : w1.cell? ⟨w.heap.size, 5, none⟩ = some (.bool r) := kx.cell 5
  have x6 : w1.cell? ⟨w.heap.size, 6, none⟩ = some (.bool false) := kx.cell 6
  have HB1 := Lib.hid (below_up (below_alloc (Below.refl _ w)) hB1)
  clear hB1 kx
  go_wp2_with fail
  go_ret2
  refine ⟨_, rfl, ⟨w1.heap.size, 1, rfl, HB1.out.size, Nat.le_refl _, by decide, fun i x hi j u hu => ?_⟩, below_alloc HB1.out⟩
  match i, hi with
  | 0, hi =>
    simp at hi
    subst hi
    rw [Nat.zero_mul, Nat.zero_add, (Blk.new w1 _ _).cell j]
    simpa [WV.cells] using hu
  | i + 1, hi => simp at hi
def stepK (x : WV) : Nat → List WV
  | 0 => []
  | k + 1 => addK (stepK x k) (perm x k)
theorem stepK_mem {x y : WV} : ∀ k, y ∈ stepK x k ↔ ∃ i, i < k ∧ y = perm x i
  | 0 => by simp [stepK]
  | k + 1 => by
    unfold stepK addK
    split
    · rename_i h
      rw [stepK_mem k]
      constructor
      · rintro ⟨i, hi, e⟩; exact ⟨i, by omega, e⟩
      · rintro ⟨i, hi, e⟩
        by_cases hik : i = k
        · subst hik; rw [e]; exact (stepK_mem i).1 h
        · exact ⟨i, by omega, e⟩
    · rw [List.mem_append, List.mem_singleton, stepK_mem k]
      constructor
      · rintro (⟨i, hi, e⟩ | e)
        · exact ⟨i, by omega, e⟩
        · exact ⟨k, by omega, e⟩
      · rintro ⟨i, hi, e⟩
        by_cases hik : i = k
        · subst hik; exact .inr e
        · exact .inl ⟨i, by omega, e⟩
theorem stepK_len (x : WV) : ∀ k, (stepK x k).length ≤ k
  | 0 => by simp [stepK]
  | k + 1 => by
    have := stepK_len x k
    unfold stepK addK
    split
    · omega
    · rw [List.length_append, List.length_singleton]; omega
theorem stepK_six (x y : WV) : y ∈ stepK x 6 ↔ y ∈ rots x := by
  rw [stepK_mem, mem_rots]
  constructor
  · rintro ⟨i, hi, e⟩; exact ⟨i, by omega, e⟩
  · rintro ⟨i, hi, e⟩; exact ⟨i, by omega, e⟩
def innerC (a b c : Int) (p q r : Bool) (k m : Nat) : Array Value := match k, m with
  | 0, 0 => #[.int .i64 a, .int .i64 b, .int .i64 c, .bool p, .bool q, .bool r, .bool true]
  | 0, 1 => #[.int .i64 a, .int .i64 b, .int .i64 c, .bool p, .bool q, .bool r, .bool true]
  | 0, 2 => #[.int .i64 a, .int .i64 b, .int .i64 c, .bool p, .bool q, .bool r, .bool true]
  | 0, 3 => #[.int .i64 a, .int .i64 b, .int .i64 c, .bool p, .bool q, .bool r, .bool true]
  | 1, 0 => #[.int .i64 a, .int .i64 b, .int .i64 c, .bool p, .bool q, .bool r, .bool true]
  | 1, 1 => #[.int .i64 a, .int .i64 b, .int .i64 c, .bool p, .bool q, .bool r, .bool true]
  | 1, 2 => #[.int .i64 a, .int .i64 c, .int .i64 c, .bool p, .bool r, .bool r, .bool true]
  | 1, 3 => #[.int .i64 a, .int .i64 c, .int .i64 b, .bool p, .bool r, .bool q, .bool true]
  | 2, 0 => #[.int .i64 a, .int .i64 b, .int .i64 c, .bool p, .bool q, .bool r, .bool true]
  | 2, 1 => #[.int .i64 b, .int .i64 b, .int .i64 c, .bool q, .bool q, .bool r, .bool true]
  | 2, 2 => #[.int .i64 b, .int .i64 a, .int .i64 c, .bool q, .bool p, .bool r, .bool true]
  | 2, 3 => #[.int .i64 b, .int .i64 a, .int .i64 c, .bool q, .bool p, .bool r, .bool true]
  | 3, 0 => #[.int .i64 a, .int .i64 b, .int .i64 c, .bool p, .bool q, .bool r, .bool true]
  | 3, 1 => #[.int .i64 b, .int .i64 b, .int .i64 c, .bool q, .bool q, .bool r, .bool true]
  | 3, 2 => #[.int .i64 b, .int .i64 c, .int .i64 c, .bool q, .bool r, .bool r, .bool true]
  | 3, 3 => #[.int .i64 b, .int .i64 c, .int .i64 a, .bool q, .bool r, .bool p, .bool true]
  | 4, 0 => #[.int .i64 a, .int .i64 b, .int .i64 c, .bool p, .bool q, .bool r, .bool true]
  | 4, 1 => #[.int .i64 c, .int .i64 b, .int .i64 c, .bool r, .bool q, .bool r, .bool true]
  | 4, 2 => #[.int .i64 c, .int .i64 a, .int .i64 c, .bool r, .bool p, .bool r, .bool true]
  | 4, 3 => #[.int .i64 c, .int .i64 a, .int .i64 b, .bool r, .bool p, .bool q, .bool true]
  | 5, 0 => #[.int .i64 a, .int .i64 b, .int .i64 c, .bool p, .bool q, .bool r, .bool true]
  | 5, 1 => #[.int .i64 c, .int .i64 b, .int .i64 c, .bool r, .bool q, .bool r, .bool true]
  | 5, 2 => #[.int .i64 c, .int .i64 b, .int .i64 c, .bool r, .bool q, .bool r, .bool true]
  | 5, 3 => #[.int .i64 c, .int .i64 b, .int .i64 a, .bool r, .bool q, .bool p, .bool true]
  | _, _ => #[]
set_option maxRecDepth 100000 in
set_option maxHeartbeats 16000000 in
theorem all_six (a b c : Int) (p q r : Bool) (h : WOk ⟨a, b, c, p, q, r, true⟩) (w : World) :
    Calls Try.prog 69 #[.agg #[.int .i64 a, .int .i64 b, .int .i64 c, .bool p, .bool q, .bool r, .bool true]] w fun e w' => ∃ v, e = .returned (.tuple #[v, .int .i64 0]) ∧ WSl w' w.heap.size v (allL ⟨a, b, c, p, q, r, true⟩) ∧ Below w.heap.size w w' := by
  have HH := Lib.hid h
  clear h
  have ix0 : ∀ w, (Instr.index 103 (.agg ordO) (.int .i64 0)).run Try.prog w = .ok (.agg #[.int .i64 0, .int .i64 1, .int .i64 2]) w := fun _ => by kernel_rfl
  have iy0_0 : ∀ w, (Instr.index 22 (.agg #[.int .i64 0, .int .i64 1, .int .i64 2]) (.int .i64 0)).run Try.prog w = .ok (.int .i64 0) w := fun _ => by kernel_rfl
  have iy0_1 : ∀ w, (Instr.index 22 (.agg #[.int .i64 0, .int .i64 1, .int .i64 2]) (.int .i64 1)).run Try.prog w = .ok (.int .i64 1) w := fun _ => by kernel_rfl
  have iy0_2 : ∀ w, (Instr.index 22 (.agg #[.int .i64 0, .int .i64 1, .int .i64 2]) (.int .i64 2)).run Try.prog w = .ok (.int .i64 2) w := fun _ => by kernel_rfl
  have ix1 : ∀ w, (Instr.index 103 (.agg ordO) (.int .i64 1)).run Try.prog w = .ok (.agg #[.int .i64 0, .int .i64 2, .int .i64 1]) w := fun _ => by kernel_rfl
  have iy1_0 : ∀ w, (Instr.index 22 (.agg #[.int .i64 0, .int .i64 2, .int .i64 1]) (.int .i64 0)).run Try.prog w = .ok (.int .i64 0) w := fun _ => by kernel_rfl
  have iy1_1 : ∀ w, (Instr.index 22 (.agg #[.int .i64 0, .int .i64 2, .int .i64 1]) (.int .i64 1)).run Try.prog w = .ok (.int .i64 2) w := fun _ => by kernel_rfl
  have iy1_2 : ∀ w, (Instr.index 22 (.agg #[.int .i64 0, .int .i64 2, .int .i64 1]) (.int .i64 2)).run Try.prog w = .ok (.int .i64 1) w := fun _ => by kernel_rfl
  have ix2 : ∀ w, (Instr.index 103 (.agg ordO) (.int .i64 2)).run Try.prog w = .ok (.agg #[.int .i64 1, .int .i64 0, .int .i64 2]) w := fun _ => by kernel_rfl
  have iy2_0 : ∀ w, (Instr.index 22 (.agg #[.int .i64 1, .int .i64 0, .int .i64 2]) (.int .i64 0)).run Try.prog w = .ok (.int .i64 1) w := fun _ => by kernel_rfl
  have iy2_1 : ∀ w, (Instr.index 22 (.agg #[.int .i64 1, .int .i64 0, .int .i64 2]) (.int .i64 1)).run Try.prog w = .ok (.int .i64 0) w := fun _ => by kernel_rfl
  have iy2_2 : ∀ w, (Instr.index 22 (.agg #[.int .i64 1, .int .i64 0, .int .i64 2]) (.int .i64 2)).run Try.prog w = .ok (.int .i64 2) w := fun _ => by kernel_rfl
  have ix3 : ∀ w, (Instr.index 103 (.agg ordO) (.int .i64 3)).run Try.prog w = .ok (.agg #[.int .i64 1, .int .i64 2, .int .i64 0]) w := fun _ => by kernel_rfl
  have iy3_0 : ∀ w, (Instr.index 22 (.agg #[.int .i64 1, .int .i64 2, .int .i64 0]) (.int .i64 0)).run Try.prog w = .ok (.int .i64 1) w := fun _ => by kernel_rfl
  have iy3_1 : ∀ w, (Instr.index 22 (.agg #[.int .i64 1, .int .i64 2, .int .i64 0]) (.int .i64 1)).run Try.prog w = .ok (.int .i64 2) w := fun _ => by kernel_rfl
  have iy3_2 : ∀ w, (Instr.index 22 (.agg #[.int .i64 1, .int .i64 2, .int .i64 0]) (.int .i64 2)).run Try.prog w = .ok (.int .i64 0) w := fun _ => by kernel_rfl
  have ix4 : ∀ w, (Instr.index 103 (.agg ordO) (.int .i64 4)).run Try.prog w = .ok (.agg #[.int .i64 2, .int .i64 0, .int .i64 1]) w := fun _ => by kernel_rfl
  have iy4_0 : ∀ w, (Instr.index 22 (.agg #[.int .i64 2, .int .i64 0, .int .i64 1]) (.int .i64 0)).run Try.prog w = .ok (.int .i64 2) w := fun _ => by kernel_rfl
  have iy4_1 : ∀ w, (Instr.index 22 (.agg #[.int .i64 2, .int .i64 0, .int .i64 1]) (.int .i64 1)).run Try.prog w = .ok (.int .i64 0) w := fun _ => by kernel_rfl
  have iy4_2 : ∀ w, (Instr.index 22 (.agg #[.int .i64 2, .int .i64 0, .int .i64 1]) (.int .i64 2)).run Try.prog w = .ok (.int .i64 1) w := fun _ => by kernel_rfl
  have ix5 : ∀ w, (Instr.index 103 (.agg ordO) (.int .i64 5)).run Try.prog w = .ok (.agg #[.int .i64 2, .int .i64 1, .int .i64 0]) w := fun _ => by kernel_rfl
  have iy5_0 : ∀ w, (Instr.index 22 (.agg #[.int .i64 2, .int .i64 1, .int .i64 0]) (.int .i64 0)).run Try.prog w = .ok (.int .i64 2) w := fun _ => by kernel_rfl
  have iy5_1 : ∀ w, (Instr.index 22 (.agg #[.int .i64 2, .int .i64 1, .int .i64 0]) (.int .i64 1)).run Try.prog w = .ok (.int .i64 1) w := fun _ => by kernel_rfl
  have iy5_2 : ∀ w, (Instr.index 22 (.agg #[.int .i64 2, .int .i64 1, .int .i64 0]) (.int .i64 2)).run Try.prog w = .ok (.int .i64 0) w := fun _ => by kernel_rfl
  have hmm := @run_makeMap Try.prog
  go_enter Try.func69, Try.ntmps69
  go_wp2_with fail
  refine (wcheck_ok a b c p q r true HH.out _).mono ?_
  rintro e w1 ⟨rfl, hB1⟩
  have kx : Blk w1 w.heap.size 30 #[.int .i64 a, .int .i64 b, .int .i64 c, .bool p, .bool q, .bool r, .bool true] := (Blk.new w _ _).below hB1 (by simp)
  have x6 : w1.cell? ⟨w.heap.size, 6, none⟩ = some (.bool true) := kx.cell 6
  have HB1 := Lib.hid (below_up (below_alloc (Below.refl _ w)) hB1)
  have KX1 := Lib.hid kx
  have hlt1 : w.heap.size < w1.heap.size := kx.lt
  clear hB1 kx
  go_wp2_with fail
  refine (orders_any _).mono ?_
  rintro e w2 ⟨rfl, hB2⟩
  have hM : MapOf w2 w1.heap.size [] := (MapOf.new w1).same (hB2.block _ (by simp))
  have kx : Blk w2 w.heap.size 30 #[.int .i64 a, .int .i64 b, .int .i64 c, .bool p, .bool q, .bool r, .bool true] := (KX1.out.alloc _).below hB2 (by simp; omega)
  have HB2 := Lib.hid (below_up (below_alloc HB1.out) hB2)
  have HM := Lib.hid (And.intro hM kx)
  clear hB2 x6 hM kx KX1
  go_wp2_with fail
  go_loopw [23] (fun i wr => ∃ k : Nat, k ≤ 6 ∧ i = .int .i64 k ∧ Hid (MapOf wr w1.heap.size (stepK ⟨a, b, c, p, q, r, true⟩ k)) ∧ Hid (Blk wr w.heap.size 30 #[.int .i64 a, .int .i64 b, .int .i64 c, .bool p, .bool q, .bool r, .bool true]) ∧ Hid (Below w.heap.size w wr))
    (fun i _ => 6 - (intOf i).toNat)
  case atStart => exact ⟨0, by omega, rfl, HM.out.1, HM.out.2, HB2.out⟩
  case round =>
    obtain ⟨k, hk, rfl, hM, hX, hB⟩ := hrel
    clear HM HB2
    have kx := hX.out
    have x0 : wr.cell? ⟨w.heap.size, 0, none⟩ = some (.int .i64 a) := kx.cell 0
    have x1 : wr.cell? ⟨w.heap.size, 1, none⟩ = some (.int .i64 b) := kx.cell 1
    have x2 : wr.cell? ⟨w.heap.size, 2, none⟩ = some (.int .i64 c) := kx.cell 2
    have x3 : wr.cell? ⟨w.heap.size, 3, none⟩ = some (.bool p) := kx.cell 3
    have x4 : wr.cell? ⟨w.heap.size, 4, none⟩ = some (.bool q) := kx.cell 4
    have x5 : wr.cell? ⟨w.heap.size, 5, none⟩ = some (.bool r) := kx.cell 5
    have x6 : wr.cell? ⟨w.heap.size, 6, none⟩ = some (.bool true) := kx.cell 6
    have hltx : w.heap.size < wr.heap.size := kx.lt
    have hltm : w1.heap.size < wr.heap.size := hM.out.lt
    clear kx
    match k, hk, hM with
    | 0, _, hM =>
      go_wp2_with fail
      obtain ⟨wo, hwo⟩ : ∃ wo : World, wo = (wr.alloc (.cells #[.int .i64 0, .int .i64 1, .int .i64 2] 22)).alloc (.cells #[.int .i64 a, .int .i64 b, .int .i64 c, .bool p, .bool q, .bool r, .bool true] 30) := ⟨_, rfl⟩
      have kq : Blk wo (wr.heap.size + 1) 30 (innerC a b c p q r 0 0) := by rw [hwo]; exact blk1 wr _ _
      have kx : Blk wo w.heap.size 30 #[.int .i64 a, .int .i64 b, .int .i64 c, .bool p, .bool q, .bool r, .bool true] := by rw [hwo]; exact (hX.out.alloc _).alloc _
      have hMo : MapOf wo w1.heap.size (stepK ⟨a, b, c, p, q, r, true⟩ 0) := by rw [hwo]; exact hM.out.same ((Below.heap_alloc _ _ _ (by simp; omega)).trans (Below.heap_alloc _ _ _ hltm))
      have hBo : Below w.heap.size w wo := by rw [hwo]; exact below_alloc (below_alloc hB.out)
      have KO := Lib.hid (And.intro kq (And.intro kx (And.intro hMo hBo)))
      clear kq kx hMo hBo x0 x1 x2 x3 x4 x5 x6
      rw [← hwo]
      clear hwo
      have h8a : w.heap.size < wr.heap.size + 1 := by omega
      have h8b : w1.heap.size < wr.heap.size + 1 := by omega
      have h8c : w.heap.size ≤ w1.heap.size := HB1.out.size
      generalize wr.heap.size + 1 = g8 at *
      go_loopw [28] (fun j wi => ∃ m : Nat, m ≤ 3 ∧ j = .int .i64 m ∧ Hid (Blk wi g8 30 (innerC a b c p q r 0 m)) ∧ Hid (Blk wi w.heap.size 30 #[.int .i64 a, .int .i64 b, .int .i64 c, .bool p, .bool q, .bool r, .bool true]) ∧ Hid (MapOf wi w1.heap.size (stepK ⟨a, b, c, p, q, r, true⟩ 0)) ∧ Hid (Below w.heap.size w wi))
        (fun j _ => 3 - (intOf j).toNat)
      case atStart => exact ⟨0, by omega, rfl, KO.out.1, KO.out.2.1, KO.out.2.2.1, KO.out.2.2.2⟩
      case round =>
        obtain ⟨m, hm, rfl, hQ, hX2, hM2, hB2⟩ := hrel
        have kx := hX2.out
        have hltx2 : w.heap.size < wr.heap.size := kx.lt
        have x0 : wr.cell? ⟨w.heap.size, 0, none⟩ = some (.int .i64 a) := kx.cell 0
        have x1 : wr.cell? ⟨w.heap.size, 1, none⟩ = some (.int .i64 b) := kx.cell 1
        have x2 : wr.cell? ⟨w.heap.size, 2, none⟩ = some (.int .i64 c) := kx.cell 2
        have x3 : wr.cell? ⟨w.heap.size, 3, none⟩ = some (.bool p) := kx.cell 3
        have x4 : wr.cell? ⟨w.heap.size, 4, none⟩ = some (.bool q) := kx.cell 4
        have x5 : wr.cell? ⟨w.heap.size, 5, none⟩ = some (.bool r) := kx.cell 5
        have x6 : wr.cell? ⟨w.heap.size, 6, none⟩ = some (.bool true) := kx.cell 6
        clear kx
        match m, hm, hQ with
        | 0, _, hQ =>
          have kq : Blk wr g8 30 #[.int .i64 a, .int .i64 b, .int .i64 c, .bool p, .bool q, .bool r, .bool true] := hQ.out
          have hltq := kq.lt
          have q0 := kq.cell 0
          have f0 := kq.frozen 0
          simp only [List.getElem?_toArray, List.getElem?_cons_zero, List.getElem?_cons_succ] at q0
          have q3 := kq.cell 3
          have f3 := kq.frozen 3
          simp only [List.getElem?_toArray, List.getElem?_cons_zero, List.getElem?_cons_succ] at q3
          have KQ := Lib.hid kq
          clear kq
          go_wp2_with fail
          go_region
          all_goals
            go_wp2_with fail
            go_roundw
            case rel =>
              refine ⟨1, by omega, rfl, ?_, ?_, ?_, ?_⟩
              · first
                  | exact ((KQ.out.drew.set_ 0 (.int .i64 a)).set_ 3 (.bool p))
                  | exact ((KQ.out.drew.set_ 3 (.bool p)).set_ 0 (.int .i64 a))
              · exact ((hX2.out.drew.far (p := ⟨_, _, none⟩) (by simp; omega) _).far (p := ⟨_, _, none⟩) (by simp; omega) _)
              · exact (hM2.out.same (show wr.drew.heap[w1.heap.size]? = _ from rfl)).same ((Below.heap_setCell _ _ _ _ (by simp; omega)).trans (Below.heap_setCell _ _ _ _ (by simp; omega)))
              · exact ((hB2.out.drew.setCell (p := ⟨_, _, none⟩) (by simp; omega) _).setCell (p := ⟨_, _, none⟩) (by simp; omega) _)
            case measure => simp [intOf]
        | 1, _, hQ =>
          have kq : Blk wr g8 30 #[.int .i64 a, .int .i64 b, .int .i64 c, .bool p, .bool q, .bool r, .bool true] := hQ.out
          have hltq := kq.lt
          have q1 := kq.cell 1
          have f1 := kq.frozen 1
          simp only [List.getElem?_toArray, List.getElem?_cons_zero, List.getElem?_cons_succ] at q1
          have q4 := kq.cell 4
          have f4 := kq.frozen 4
          simp only [List.getElem?_toArray, List.getElem?_cons_zero, List.getElem?_cons_succ] at q4
          have KQ := Lib.hid kq
          clear kq
          go_wp2_with fail
          go_region
          all_goals
            go_wp2_with fail
            go_roundw
            case rel =>
              refine ⟨2, by omega, rfl, ?_, ?_, ?_, ?_⟩
              · first
                  | exact ((KQ.out.drew.set_ 1 (.int .i64 b)).set_ 4 (.bool q))
                  | exact ((KQ.out.drew.set_ 4 (.bool q)).set_ 1 (.int .i64 b))
              · exact ((hX2.out.drew.far (p := ⟨_, _, none⟩) (by simp; omega) _).far (p := ⟨_, _, none⟩) (by simp; omega) _)
              · exact (hM2.out.same (show wr.drew.heap[w1.heap.size]? = _ from rfl)).same ((Below.heap_setCell _ _ _ _ (by simp; omega)).trans (Below.heap_setCell _ _ _ _ (by simp; omega)))
              · exact ((hB2.out.drew.setCell (p := ⟨_, _, none⟩) (by simp; omega) _).setCell (p := ⟨_, _, none⟩) (by simp; omega) _)
            case measure => simp [intOf]
        | 2, _, hQ =>
          have kq : Blk wr g8 30 #[.int .i64 a, .int .i64 b, .int .i64 c, .bool p, .bool q, .bool r, .bool true] := hQ.out
          have hltq := kq.lt
          have q2 := kq.cell 2
          have f2 := kq.frozen 2
          simp only [List.getElem?_toArray, List.getElem?_cons_zero, List.getElem?_cons_succ] at q2
          have q5 := kq.cell 5
          have f5 := kq.frozen 5
          simp only [List.getElem?_toArray, List.getElem?_cons_zero, List.getElem?_cons_succ] at q5
          have KQ := Lib.hid kq
          clear kq
          go_wp2_with fail
          go_region
          all_goals
            go_wp2_with fail
            go_roundw
            case rel =>
              refine ⟨3, by omega, rfl, ?_, ?_, ?_, ?_⟩
              · first
                  | exact ((KQ.out.drew.set_ 2 (.int .i64 c)).set_ 5 (.bool r))
                  | exact ((KQ.out.drew.set_ 5 (.bool r)).set_ 2 (.int .i64 c))
              · exact ((hX2.out.drew.far (p := ⟨_, _, none⟩) (by simp; omega) _).far (p := ⟨_, _, none⟩) (by simp; omega) _)
              · exact (hM2.out.same (show wr.drew.heap[w1.heap.size]? = _ from rfl)).same ((Below.heap_setCell _ _ _ _ (by simp; omega)).trans (Below.heap_setCell _ _ _ _ (by simp; omega)))
              · exact ((hB2.out.drew.setCell (p := ⟨_, _, none⟩) (by simp; omega) _).setCell (p := ⟨_, _, none⟩) (by simp; omega) _)
            case measure => simp [intOf]
        | 3, _, hQ =>
          have kq : Blk wr g8 30 #[.int .i64 a, .int .i64 b, .int .i64 c, .bool p, .bool q, .bool r, .bool true] := hQ.out
          have q0 := kq.cell 0
          simp only [List.getElem?_toArray, List.getElem?_cons_zero, List.getElem?_cons_succ] at q0
          have q1 := kq.cell 1
          simp only [List.getElem?_toArray, List.getElem?_cons_zero, List.getElem?_cons_succ] at q1
          have q2 := kq.cell 2
          simp only [List.getElem?_toArray, List.getElem?_cons_zero, List.getElem?_cons_succ] at q2
          have q3 := kq.cell 3
          simp only [List.getElem?_toArray, List.getElem?_cons_zero, List.getElem?_cons_succ] at q3
          have q4 := kq.cell 4
          simp only [List.getElem?_toArray, List.getElem?_cons_zero, List.getElem?_cons_succ] at q4
          have q5 := kq.cell 5
          simp only [List.getElem?_toArray, List.getElem?_cons_zero, List.getElem?_cons_succ] at q5
          have q6 := kq.cell 6
          simp only [List.getElem?_toArray, List.getElem?_cons_zero, List.getElem?_cons_succ] at q6
          obtain ⟨o, hup, hM3⟩ := upd (t := 102) hM2.out (perm_ok HH.out 0) Try.underlying102
          have hup' : (Instr.mapUpdate 102 (.map (some w1.heap.size)) (.agg #[.int .i64 a, .int .i64 b, .int .i64 c, .bool p, .bool q, .bool r, .bool true]) (.bool true)).run Try.prog wr = .ok () (Go.ChangeMaps.setBlock wr w1.heap.size o) := hup
          have HM3 := Lib.hid hM3
          clear hup hM3 kq x0 x1 x2 x3 x4 x5 x6
          go_wp2_with fail
          go_roundw
          case rel => exact ⟨1, by omega, rfl, HM3.out, (TurnKeys.heap_setBlock_ne (by omega)).trans hX2.out, below_setBlock hB2.out (by omega)⟩
          case measure => simp [intOf]
    | 1, _, hM =>
      go_wp2_with fail
      obtain ⟨wo, hwo⟩ : ∃ wo : World, wo = (wr.alloc (.cells #[.int .i64 0, .int .i64 2, .int .i64 1] 22)).alloc (.cells #[.int .i64 a, .int .i64 b, .int .i64 c, .bool p, .bool q, .bool r, .bool true] 30) := ⟨_, rfl⟩
      have kq : Blk wo (wr.heap.size + 1) 30 (innerC a b c p q r 1 0) := by rw [hwo]; exact blk1 wr _ _
      have kx : Blk wo w.heap.size 30 #[.int .i64 a, .int .i64 b, .int .i64 c, .bool p, .bool q, .bool r, .bool true] := by rw [hwo]; exact (hX.out.alloc _).alloc _
      have hMo : MapOf wo w1.heap.size (stepK ⟨a, b, c, p, q, r, true⟩ 1) := by rw [hwo]; exact hM.out.same ((Below.heap_alloc _ _ _ (by simp; omega)).trans (Below.heap_alloc _ _ _ hltm))
      have hBo : Below w.heap.size w wo := by rw [hwo]; exact below_alloc (below_alloc hB.out)
      have KO := Lib.hid (And.intro kq (And.intro kx (And.intro hMo hBo)))
      clear kq kx hMo hBo x0 x1 x2 x3 x4 x5 x6
      rw [← hwo]
      clear hwo
      have h8a : w.heap.size < wr.heap.size + 1 := by omega
      have h8b : w1.heap.size < wr.heap.size + 1 := by omega
      have h8c : w.heap.size ≤ w1.heap.size := HB1.out.size
      generalize wr.heap.size + 1 = g8 at *
      go_loopw [28] (fun j wi => ∃ m : Nat, m ≤ 3 ∧ j = .int .i64 m ∧ Hid (Blk wi g8 30 (innerC a b c p q r 1 m)) ∧ Hid (Blk wi w.heap.size 30 #[.int .i64 a, .int .i64 b, .int .i64 c, .bool p, .bool q, .bool r, .bool true]) ∧ Hid (MapOf wi w1.heap.size (stepK ⟨a, b, c, p, q, r, true⟩ 1)) ∧ Hid (Below w.heap.size w wi))
        (fun j _ => 3 - (intOf j).toNat)
      case atStart => exact ⟨0, by omega, rfl, KO.out.1, KO.out.2.1, KO.out.2.2.1, KO.out.2.2.2⟩
      case round =>
        obtain ⟨m, hm, rfl, hQ, hX2, hM2, hB2⟩ := hrel
        have kx := hX2.out
        have hltx2 : w.heap.size < wr.heap.size := kx.lt
        have x0 : wr.cell? ⟨w.heap.size, 0, none⟩ = some (.int .i64 a) := kx.cell 0
        have x1 : wr.cell? ⟨w.heap.size, 1, none⟩ = some (.int .i64 b) := kx.cell 1
        have x2 : wr.cell? ⟨w.heap.size, 2, none⟩ = some (.int .i64 c) := kx.cell 2
        have x3 : wr.cell? ⟨w.heap.size, 3, none⟩ = some (.bool p) := kx.cell 3
        have x4 : wr.cell? ⟨w.heap.size, 4, none⟩ = some (.bool q) := kx.cell 4
        have x5 : wr.cell? ⟨w.heap.size, 5, none⟩ = some (.bool r) := kx.cell 5
        have x6 : wr.cell? ⟨w.heap.size, 6, none⟩ = some (.bool true) := kx.cell 6
        clear kx
        match m, hm, hQ with
        | 0, _, hQ =>
          have kq : Blk wr g8 30 #[.int .i64 a, .int .i64 b, .int .i64 c, .bool p, .bool q, .bool r, .bool true] := hQ.out
          have hltq := kq.lt
          have q0 := kq.cell 0
          have f0 := kq.frozen 0
          simp only [List.getElem?_toArray, List.getElem?_cons_zero, List.getElem?_cons_succ] at q0
          have q3 := kq.cell 3
          have f3 := kq.frozen 3
          simp only [List.getElem?_toArray, List.getElem?_cons_zero, List.getElem?_cons_succ] at q3
          have KQ := Lib.hid kq
          clear kq
          go_wp2_with fail
          go_region
          all_goals
            go_wp2_with fail
            go_roundw
            case rel =>
              refine ⟨1, by omega, rfl, ?_, ?_, ?_, ?_⟩
              · first
                  | exact ((KQ.out.drew.set_ 0 (.int .i64 a)).set_ 3 (.bool p))
                  | exact ((KQ.out.drew.set_ 3 (.bool p)).set_ 0 (.int .i64 a))
              · exact ((hX2.out.drew.far (p := ⟨_, _, none⟩) (by simp; omega) _).far (p := ⟨_, _, none⟩) (by simp; omega) _)
              · exact (hM2.out.same (show wr.drew.heap[w1.heap.size]? = _ from rfl)).same ((Below.heap_setCell _ _ _ _ (by simp; omega)).trans (Below.heap_setCell _ _ _ _ (by simp; omega)))
              · exact ((hB2.out.drew.setCell (p := ⟨_, _, none⟩) (by simp; omega) _).setCell (p := ⟨_, _, none⟩) (by simp; omega) _)
            case measure => simp [intOf]
        | 1, _, hQ =>
          have kq : Blk wr g8 30 #[.int .i64 a, .int .i64 b, .int .i64 c, .bool p, .bool q, .bool r, .bool true] := hQ.out
          have hltq := kq.lt
          have q1 := kq.cell 1
          have f1 := kq.frozen 1
          simp only [List.getElem?_toArray, List.getElem?_cons_zero, List.getElem?_cons_succ] at q1
          have q4 := kq.cell 4
          have f4 := kq.frozen 4
          simp only [List.getElem?_toArray, List.getElem?_cons_zero, List.getElem?_cons_succ] at q4
          have KQ := Lib.hid kq
          clear kq
          go_wp2_with fail
          go_region
          all_goals
            go_wp2_with fail
            go_roundw
            case rel =>
              refine ⟨2, by omega, rfl, ?_, ?_, ?_, ?_⟩
              · first
                  | exact ((KQ.out.drew.set_ 1 (.int .i64 c)).set_ 4 (.bool r))
                  | exact ((KQ.out.drew.set_ 4 (.bool r)).set_ 1 (.int .i64 c))
              · exact ((hX2.out.drew.far (p := ⟨_, _, none⟩) (by simp; omega) _).far (p := ⟨_, _, none⟩) (by simp; omega) _)
              · exact (hM2.out.same (show wr.drew.heap[w1.heap.size]? = _ from rfl)).same ((Below.heap_setCell _ _ _ _ (by simp; omega)).trans (Below.heap_setCell _ _ _ _ (by simp; omega)))
              · exact ((hB2.out.drew.setCell (p := ⟨_, _, none⟩) (by simp; omega) _).setCell (p := ⟨_, _, none⟩) (by simp; omega) _)
            case measure => simp [intOf]
        | 2, _, hQ =>
          have kq : Blk wr g8 30 #[.int .i64 a, .int .i64 c, .int .i64 c, .bool p, .bool r, .bool r, .bool true] := hQ.out
          have hltq := kq.lt
          have q2 := kq.cell 2
          have f2 := kq.frozen 2
          simp only [List.getElem?_toArray, List.getElem?_cons_zero, List.getElem?_cons_succ] at q2
          have q5 := kq.cell 5
          have f5 := kq.frozen 5
          simp only [List.getElem?_toArray, List.getElem?_cons_zero, List.getElem?_cons_succ] at q5
          have KQ := Lib.hid kq
          clear kq
          go_wp2_with fail
          go_region
          all_goals
            go_wp2_with fail
            go_roundw
            case rel =>
              refine ⟨3, by omega, rfl, ?_, ?_, ?_, ?_⟩
              · first
                  | exact ((KQ.out.drew.set_ 2 (.int .i64 b)).set_ 5 (.bool q))
                  | exact ((KQ.out.drew.set_ 5 (.bool q)).set_ 2 (.int .i64 b))
              · exact ((hX2.out.drew.far (p := ⟨_, _, none⟩) (by simp; omega) _).far (p := ⟨_, _, none⟩) (by simp; omega) _)
              · exact (hM2.out.same (show wr.drew.heap[w1.heap.size]? = _ from rfl)).same ((Below.heap_setCell _ _ _ _ (by simp; omega)).trans (Below.heap_setCell _ _ _ _ (by simp; omega)))
              · exact ((hB2.out.drew.setCell (p := ⟨_, _, none⟩) (by simp; omega) _).setCell (p := ⟨_, _, none⟩) (by simp; omega) _)
            case measure => simp [intOf]
        | 3, _, hQ =>
          have kq : Blk wr g8 30 #[.int .i64 a, .int .i64 c, .int .i64 b, .bool p, .bool r, .bool q, .bool true] := hQ.out
          have q0 := kq.cell 0
          simp only [List.getElem?_toArray, List.getElem?_cons_zero, List.getElem?_cons_succ] at q0
          have q1 := kq.cell 1
          simp only [List.getElem?_toArray, List.getElem?_cons_zero, List.getElem?_cons_succ] at q1
          have q2 := kq.cell 2
          simp only [List.getElem?_toArray, List.getElem?_cons_zero, List.getElem?_cons_succ] at q2
          have q3 := kq.cell 3
          simp only [List.getElem?_toArray, List.getElem?_cons_zero, List.getElem?_cons_succ] at q3
          have q4 := kq.cell 4
          simp only [List.getElem?_toArray, List.getElem?_cons_zero, List.getElem?_cons_succ] at q4
          have q5 := kq.cell 5
          simp only [List.getElem?_toArray, List.getElem?_cons_zero, List.getElem?_cons_succ] at q5
          have q6 := kq.cell 6
          simp only [List.getElem?_toArray, List.getElem?_cons_zero, List.getElem?_cons_succ] at q6
          obtain ⟨o, hup, hM3⟩ := upd (t := 102) hM2.out (perm_ok HH.out 1) Try.underlying102
          have hup' : (Instr.mapUpdate 102 (.map (some w1.heap.size)) (.agg #[.int .i64 a, .int .i64 c, .int .i64 b, .bool p, .bool r, .bool q, .bool true]) (.bool true)).run Try.prog wr = .ok () (Go.ChangeMaps.setBlock wr w1.heap.size o) := hup
          have HM3 := Lib.hid hM3
          clear hup hM3 kq x0 x1 x2 x3 x4 x5 x6
          go_wp2_with fail
          go_roundw
          case rel => exact ⟨2, by omega, rfl, HM3.out, (TurnKeys.heap_setBlock_ne (by omega)).trans hX2.out, below_setBlock hB2.out (by omega)⟩
          case measure => simp [intOf]
    | 2, _, hM =>
      go_wp2_with fail
      obtain ⟨wo, hwo⟩ : ∃ wo : World, wo = (wr.alloc (.cells #[.int .i64 1, .int .i64 0, .int .i64 2] 22)).alloc (.cells #[.int .i64 a, .int .i64 b, .int .i64 c, .bool p, .bool q, .bool r, .bool true] 30) := ⟨_, rfl⟩
      have kq : Blk wo (wr.heap.size + 1) 30 (innerC a b c p q r 2 0) := by rw [hwo]; exact blk1 wr _ _
      have kx : Blk wo w.heap.size 30 #[.int .i64 a, .int .i64 b, .int .i64 c, .bool p, .bool q, .bool r, .bool true] := by rw [hwo]; exact (hX.out.alloc _).alloc _
      have hMo : MapOf wo w1.heap.size (stepK ⟨a, b, c, p, q, r, true⟩ 2) := by rw [hwo]; exact hM.out.same ((Below.heap_alloc _ _ _ (by simp; omega)).trans (Below.heap_alloc _ _ _ hltm))
      have hBo : Below w.heap.size w wo := by rw [hwo]; exact below_alloc (below_alloc hB.out)
      have KO := Lib.hid (And.intro kq (And.intro kx (And.intro hMo hBo)))
      clear kq kx hMo hBo x0 x1 x2 x3 x4 x5 x6
      rw [← hwo]
      clear hwo
      have h8a : w.heap.size < wr.heap.size + 1 := by omega
      have h8b : w1.heap.size < wr.heap.size + 1 := by omega
      have h8c : w.heap.size ≤ w1.heap.size := HB1.out.size
      generalize wr.heap.size + 1 = g8 at *
      go_loopw [28] (fun j wi => ∃ m : Nat, m ≤ 3 ∧ j = .int .i64 m ∧ Hid (Blk wi g8 30 (innerC a b c p q r 2 m)) ∧ Hid (Blk wi w.heap.size 30 #[.int .i64 a, .int .i64 b, .int .i64 c, .bool p, .bool q, .bool r, .bool true]) ∧ Hid (MapOf wi w1.heap.size (stepK ⟨a, b, c, p, q, r, true⟩ 2)) ∧ Hid (Below w.heap.size w wi))
        (fun j _ => 3 - (intOf j).toNat)
      case atStart => exact ⟨0, by omega, rfl, KO.out.1, KO.out.2.1, KO.out.2.2.1, KO.out.2.2.2⟩
      case round =>
        obtain ⟨m, hm, rfl, hQ, hX2, hM2, hB2⟩ := hrel
        have kx := hX2.out
        have hltx2 : w.heap.size < wr.heap.size := kx.lt
        have x0 : wr.cell? ⟨w.heap.size, 0, none⟩ = some (.int .i64 a) := kx.cell 0
        have x1 : wr.cell? ⟨w.heap.size, 1, none⟩ = some (.int .i64 b) := kx.cell 1
        have x2 : wr.cell? ⟨w.heap.size, 2, none⟩ = some (.int .i64 c) := kx.cell 2
        have x3 : wr.cell? ⟨w.heap.size, 3, none⟩ = some (.bool p) := kx.cell 3
        have x4 : wr.cell? ⟨w.heap.size, 4, none⟩ = some (.bool q) := kx.cell 4
        have x5 : wr.cell? ⟨w.heap.size, 5, none⟩ = some (.bool r) := kx.cell 5
        have x6 : wr.cell? ⟨w.heap.size, 6, none⟩ = some (.bool true) := kx.cell 6
        clear kx
        match m, hm, hQ with
        | 0, _, hQ =>
          have kq : Blk wr g8 30 #[.int .i64 a, .int .i64 b, .int .i64 c, .bool p, .bool q, .bool r, .bool true] := hQ.out
          have hltq := kq.lt
          have q0 := kq.cell 0
          have f0 := kq.frozen 0
          simp only [List.getElem?_toArray, List.getElem?_cons_zero, List.getElem?_cons_succ] at q0
          have q3 := kq.cell 3
          have f3 := kq.frozen 3
          simp only [List.getElem?_toArray, List.getElem?_cons_zero, List.getElem?_cons_succ] at q3
          have KQ := Lib.hid kq
          clear kq
          go_wp2_with fail
          go_region
          all_goals
            go_wp2_with fail
            go_roundw
            case rel =>
              refine ⟨1, by omega, rfl, ?_, ?_, ?_, ?_⟩
              · first
                  | exact ((KQ.out.drew.set_ 0 (.int .i64 b)).set_ 3 (.bool q))
                  | exact ((KQ.out.drew.set_ 3 (.bool q)).set_ 0 (.int .i64 b))
              · exact ((hX2.out.drew.far (p := ⟨_, _, none⟩) (by simp; omega) _).far (p := ⟨_, _, none⟩) (by simp; omega) _)
              · exact (hM2.out.same (show wr.drew.heap[w1.heap.size]? = _ from rfl)).same ((Below.heap_setCell _ _ _ _ (by simp; omega)).trans (Below.heap_setCell _ _ _ _ (by simp; omega)))
              · exact ((hB2.out.drew.setCell (p := ⟨_, _, none⟩) (by simp; omega) _).setCell (p := ⟨_, _, none⟩) (by simp; omega) _)
            case measure => simp [intOf]
        | 1, _, hQ =>
          have kq : Blk wr g8 30 #[.int .i64 b, .int .i64 b, .int .i64 c, .bool q, .bool q, .bool r, .bool true] := hQ.out
          have hltq := kq.lt
          have q1 := kq.cell 1
          have f1 := kq.frozen 1
          simp only [List.getElem?_toArray, List.getElem?_cons_zero, List.getElem?_cons_succ] at q1
          have q4 := kq.cell 4
          have f4 := kq.frozen 4
          simp only [List.getElem?_toArray, List.getElem?_cons_zero, List.getElem?_cons_succ] at q4
          have KQ := Lib.hid kq
          clear kq
          go_wp2_with fail
          go_region
          all_goals
            go_wp2_with fail
            go_roundw
            case rel =>
              refine ⟨2, by omega, rfl, ?_, ?_, ?_, ?_⟩
              · first
                  | exact ((KQ.out.drew.set_ 1 (.int .i64 a)).set_ 4 (.bool p))
                  | exact ((KQ.out.drew.set_ 4 (.bool p)).set_ 1 (.int .i64 a))
              · exact ((hX2.out.drew.far (p := ⟨_, _, none⟩) (by simp; omega) _).far (p := ⟨_, _, none⟩) (by simp; omega) _)
              · exact (hM2.out.same (show wr.drew.heap[w1.heap.size]? = _ from rfl)).same ((Below.heap_setCell _ _ _ _ (by simp; omega)).trans (Below.heap_setCell _ _ _ _ (by simp; omega)))
              · exact ((hB2.out.drew.setCell (p := ⟨_, _, none⟩) (by simp; omega) _).setCell (p := ⟨_, _, none⟩) (by simp; omega) _)
            case measure => simp [intOf]
        | 2, _, hQ =>
          have kq : Blk wr g8 30 #[.int .i64 b, .int .i64 a, .int .i64 c, .bool q, .bool p, .bool r, .bool true] := hQ.out
          have hltq := kq.lt
          have q2 := kq.cell 2
          have f2 := kq.frozen 2
          simp only [List.getElem?_toArray, List.getElem?_cons_zero, List.getElem?_cons_succ] at q2
          have q5 := kq.cell 5
          have f5 := kq.frozen 5
          simp only [List.getElem?_toArray, List.getElem?_cons_zero, List.getElem?_cons_succ] at q5
          have KQ := Lib.hid kq
          clear kq
          go_wp2_with fail
          go_region
          all_goals
            go_wp2_with fail
            go_roundw
            case rel =>
              refine ⟨3, by omega, rfl, ?_, ?_, ?_, ?_⟩
              · first
                  | exact ((KQ.out.drew.set_ 2 (.int .i64 c)).set_ 5 (.bool r))
                  | exact ((KQ.out.drew.set_ 5 (.bool r)).set_ 2 (.int .i64 c))
              · exact ((hX2.out.drew.far (p := ⟨_, _, none⟩) (by simp; omega) _).far (p := ⟨_, _, none⟩) (by simp; omega) _)
              · exact (hM2.out.same (show wr.drew.heap[w1.heap.size]? = _ from rfl)).same ((Below.heap_setCell _ _ _ _ (by simp; omega)).trans (Below.heap_setCell _ _ _ _ (by simp; omega)))
              · exact ((hB2.out.drew.setCell (p := ⟨_, _, none⟩) (by simp; omega) _).setCell (p := ⟨_, _, none⟩) (by simp; omega) _)
            case measure => simp [intOf]
        | 3, _, hQ =>
          have kq : Blk wr g8 30 #[.int .i64 b, .int .i64 a, .int .i64 c, .bool q, .bool p, .bool r, .bool true] := hQ.out
          have q0 := kq.cell 0
          simp only [List.getElem?_toArray, List.getElem?_cons_zero, List.getElem?_cons_succ] at q0
          have q1 := kq.cell 1
          simp only [List.getElem?_toArray, List.getElem?_cons_zero, List.getElem?_cons_succ] at q1
          have q2 := kq.cell 2
          simp only [List.getElem?_toArray, List.getElem?_cons_zero, List.getElem?_cons_succ] at q2
          have q3 := kq.cell 3
          simp only [List.getElem?_toArray, List.getElem?_cons_zero, List.getElem?_cons_succ] at q3
          have q4 := kq.cell 4
          simp only [List.getElem?_toArray, List.getElem?_cons_zero, List.getElem?_cons_succ] at q4
          have q5 := kq.cell 5
          simp only [List.getElem?_toArray, List.getElem?_cons_zero, List.getElem?_cons_succ] at q5
          have q6 := kq.cell 6
          simp only [List.getElem?_toArray, List.getElem?_cons_zero, List.getElem?_cons_succ] at q6
          obtain ⟨o, hup, hM3⟩ := upd (t := 102) hM2.out (perm_ok HH.out 2) Try.underlying102
          have hup' : (Instr.mapUpdate 102 (.map (some w1.heap.size)) (.agg #[.int .i64 b, .int .i64 a, .int .i64 c, .bool q, .bool p, .bool r, .bool true]) (.bool true)).run Try.prog wr = .ok () (Go.ChangeMaps.setBlock wr w1.heap.size o) := hup
          have HM3 := Lib.hid hM3
          clear hup hM3 kq x0 x1 x2 x3 x4 x5 x6
          go_wp2_with fail
          go_roundw
          case rel => exact ⟨3, by omega, rfl, HM3.out, (TurnKeys.heap_setBlock_ne (by omega)).trans hX2.out, below_setBlock hB2.out (by omega)⟩
          case measure => simp [intOf]
    | 3, _, hM =>
      go_wp2_with fail
      obtain ⟨wo, hwo⟩ : ∃ wo : World, wo = (wr.alloc (.cells #[.int .i64 1, .int .i64 2, .int .i64 0] 22)).alloc (.cells #[.int .i64 a, .int .i64 b, .int .i64 c, .bool p, .bool q, .bool r, .bool true] 30) := ⟨_, rfl⟩
      have kq : Blk wo (wr.heap.size + 1) 30 (innerC a b c p q r 3 0) := by rw [hwo]; exact blk1 wr _ _
      have kx : Blk wo w.heap.size 30 #[.int .i64 a, .int .i64 b, .int .i64 c, .bool p, .bool q, .bool r, .bool true] := by rw [hwo]; exact (hX.out.alloc _).alloc _
      have hMo : MapOf wo w1.heap.size (stepK ⟨a, b, c, p, q, r, true⟩ 3) := by rw [hwo]; exact hM.out.same ((Below.heap_alloc _ _ _ (by simp; omega)).trans (Below.heap_alloc _ _ _ hltm))
      have hBo : Below w.heap.size w wo := by rw [hwo]; exact below_alloc (below_alloc hB.out)
      have KO := Lib.hid (And.intro kq (And.intro kx (And.intro hMo hBo)))
      clear kq kx hMo hBo x0 x1 x2 x3 x4 x5 x6
      rw [← hwo]
      clear hwo
      have h8a : w.heap.size < wr.heap.size + 1 := by omega
      have h8b : w1.heap.size < wr.heap.size + 1 := by omega
      have h8c : w.heap.size ≤ w1.heap.size := HB1.out.size
      generalize wr.heap.size + 1 = g8 at *
      go_loopw [28] (fun j wi => ∃ m : Nat, m ≤ 3 ∧ j = .int .i64 m ∧ Hid (Blk wi g8 30 (innerC a b c p q r 3 m)) ∧ Hid (Blk wi w.heap.size 30 #[.int .i64 a, .int .i64 b, .int .i64 c, .bool p, .bool q, .bool r, .bool true]) ∧ Hid (MapOf wi w1.heap.size (stepK ⟨a, b, c, p, q, r, true⟩ 3)) ∧ Hid (Below w.heap.size w wi))
        (fun j _ => 3 - (intOf j).toNat)
      case atStart => exact ⟨0, by omega, rfl, KO.out.1, KO.out.2.1, KO.out.2.2.1, KO.out.2.2.2⟩
      case round =>
        obtain ⟨m, hm, rfl, hQ, hX2, hM2, hB2⟩ := hrel
        have kx := hX2.out
        have hltx2 : w.heap.size < wr.heap.size := kx.lt
        have x0 : wr.cell? ⟨w.heap.size, 0, none⟩ = some (.int .i64 a) := kx.cell 0
        have x1 : wr.cell? ⟨w.heap.size, 1, none⟩ = some (.int .i64 b) := kx.cell 1
        have x2 : wr.cell? ⟨w.heap.size, 2, none⟩ = some (.int .i64 c) := kx.cell 2
        have x3 : wr.cell? ⟨w.heap.size, 3, none⟩ = some (.bool p) := kx.cell 3
        have x4 : wr.cell? ⟨w.heap.size, 4, none⟩ = some (.bool q) := kx.cell 4
        have x5 : wr.cell? ⟨w.heap.size, 5, none⟩ = some (.bool r) := kx.cell 5
        have x6 : wr.cell? ⟨w.heap.size, 6, none⟩ = some (.bool true) := kx.cell 6
        clear kx
        match m, hm, hQ with
        | 0, _, hQ =>
          have kq : Blk wr g8 30 #[.int .i64 a, .int .i64 b, .int .i64 c, .bool p, .bool q, .bool r, .bool true] := hQ.out
          have hltq := kq.lt
          have q0 := kq.cell 0
          have f0 := kq.frozen 0
          simp only [List.getElem?_toArray, List.getElem?_cons_zero, List.getElem?_cons_succ] at q0
          have q3 := kq.cell 3
          have f3 := kq.frozen 3
          simp only [List.getElem?_toArray, List.getElem?_cons_zero, List.getElem?_cons_succ] at q3
          have KQ := Lib.hid kq
          clear kq
          go_wp2_with fail
          go_region
          all_goals
            go_wp2_with fail
            go_roundw
            case rel =>
              refine ⟨1, by omega, rfl, ?_, ?_, ?_, ?_⟩
              · first
                  | exact ((KQ.out.drew.set_ 0 (.int .i64 b)).set_ 3 (.bool q))
                  | exact ((KQ.out.drew.set_ 3 (.bool q)).set_ 0 (.int .i64 b))
              · exact ((hX2.out.drew.far (p := ⟨_, _, none⟩) (by simp; omega) _).far (p := ⟨_, _, none⟩) (by simp; omega) _)
              · exact (hM2.out.same (show wr.drew.heap[w1.heap.size]? = _ from rfl)).same ((Below.heap_setCell _ _ _ _ (by simp; omega)).trans (Below.heap_setCell _ _ _ _ (by simp; omega)))
              · exact ((hB2.out.drew.setCell (p := ⟨_, _, none⟩) (by simp; omega) _).setCell (p := ⟨_, _, none⟩) (by simp; omega) _)
            case measure => simp [intOf]
        | 1, _, hQ =>
          have kq : Blk wr g8 30 #[.int .i64 b, .int .i64 b, .int .i64 c, .bool q, .bool q, .bool r, .bool true] := hQ.out
          have hltq := kq.lt
          have q1 := kq.cell 1
          have f1 := kq.frozen 1
          simp only [List.getElem?_toArray, List.getElem?_cons_zero, List.getElem?_cons_succ] at q1
          have q4 := kq.cell 4
          have f4 := kq.frozen 4
          simp only [List.getElem?_toArray, List.getElem?_cons_zero, List.getElem?_cons_succ] at q4
          have KQ := Lib.hid kq
          clear kq
          go_wp2_with fail
          go_region
          all_goals
            go_wp2_with fail
            go_roundw
            case rel =>
              refine ⟨2, by omega, rfl, ?_, ?_, ?_, ?_⟩
              · first
                  | exact ((KQ.out.drew.set_ 1 (.int .i64 c)).set_ 4 (.bool r))
                  | exact ((KQ.out.drew.set_ 4 (.bool r)).set_ 1 (.int .i64 c))
              · exact ((hX2.out.drew.far (p := ⟨_, _, none⟩) (by simp; omega) _).far (p := ⟨_, _, none⟩) (by simp; omega) _)
              · exact (hM2.out.same (show wr.drew.heap[w1.heap.size]? = _ from rfl)).same ((Below.heap_setCell _ _ _ _ (by simp; omega)).trans (Below.heap_setCell _ _ _ _ (by simp; omega)))
              · exact ((hB2.out.drew.setCell (p := ⟨_, _, none⟩) (by simp; omega) _).setCell (p := ⟨_, _, none⟩) (by simp; omega) _)
            case measure => simp [intOf]
        | 2, _, hQ =>
          have kq : Blk wr g8 30 #[.int .i64 b, .int .i64 c, .int .i64 c, .bool q, .bool r, .bool r, .bool true] := hQ.out
          have hltq := kq.lt
          have q2 := kq.cell 2
          have f2 := kq.frozen 2
          simp only [List.getElem?_toArray, List.getElem?_cons_zero, List.getElem?_cons_succ] at q2
          have q5 := kq.cell 5
          have f5 := kq.frozen 5
          simp only [List.getElem?_toArray, List.getElem?_cons_zero, List.getElem?_cons_succ] at q5
          have KQ := Lib.hid kq
          clear kq
          go_wp2_with fail
          go_region
          all_goals
            go_wp2_with fail
            go_roundw
            case rel =>
              refine ⟨3, by omega, rfl, ?_, ?_, ?_, ?_⟩
              · first
                  | exact ((KQ.out.drew.set_ 2 (.int .i64 a)).set_ 5 (.bool p))
                  | exact ((KQ.out.drew.set_ 5 (.bool p)).set_ 2 (.int .i64 a))
              · exact ((hX2.out.drew.far (p := ⟨_, _, none⟩) (by simp; omega) _).far (p := ⟨_, _, none⟩) (by simp; omega) _)
              · exact (hM2.out.same (show wr.drew.heap[w1.heap.size]? = _ from rfl)).same ((Below.heap_setCell _ _ _ _ (by simp; omega)).trans (Below.heap_setCell _ _ _ _ (by simp; omega)))
              · exact ((hB2.out.drew.setCell (p := ⟨_, _, none⟩) (by simp; omega) _).setCell (p := ⟨_, _, none⟩) (by simp; omega) _)
            case measure => simp [intOf]
        | 3, _, hQ =>
          have kq : Blk wr g8 30 #[.int .i64 b, .int .i64 c, .int .i64 a, .bool q, .bool r, .bool p, .bool true] := hQ.out
          have q0 := kq.cell 0
          simp only [List.getElem?_toArray, List.getElem?_cons_zero, List.getElem?_cons_succ] at q0
          have q1 := kq.cell 1
          simp only [List.getElem?_toArray, List.getElem?_cons_zero, List.getElem?_cons_succ] at q1
          have q2 := kq.cell 2
          simp only [List.getElem?_toArray, List.getElem?_cons_zero, List.getElem?_cons_succ] at q2
          have q3 := kq.cell 3
          simp only [List.getElem?_toArray, List.getElem?_cons_zero, List.getElem?_cons_succ] at q3
          have q4 := kq.cell 4
          simp only [List.getElem?_toArray, List.getElem?_cons_zero, List.getElem?_cons_succ] at q4
          have q5 := kq.cell 5
          simp only [List.getElem?_toArray, List.getElem?_cons_zero, List.getElem?_cons_succ] at q5
          have q6 := kq.cell 6
          simp only [List.getElem?_toArray, List.getElem?_cons_zero, List.getElem?_cons_succ] at q6
          obtain ⟨o, hup, hM3⟩ := upd (t := 102) hM2.out (perm_ok HH.out 3) Try.underlying102
          have hup' : (Instr.mapUpdate 102 (.map (some w1.heap.size)) (.agg #[.int .i64 b, .int .i64 c, .int .i64 a, .bool q, .bool r, .bool p, .bool true]) (.bool true)).run Try.prog wr = .ok () (Go.ChangeMaps.setBlock wr w1.heap.size o) := hup
          have HM3 := Lib.hid hM3
          clear hup hM3 kq x0 x1 x2 x3 x4 x5 x6
          go_wp2_with fail
          go_roundw
          case rel => exact ⟨4, by omega, rfl, HM3.out, (TurnKeys.heap_setBlock_ne (by omega)).trans hX2.out, below_setBlock hB2.out (by omega)⟩
          case measure => simp [intOf]
    | 4, _, hM =>
      go_wp2_with fail
      obtain ⟨wo, hwo⟩ : ∃ wo : World, wo = (wr.alloc (.cells #[.int .i64 2, .int .i64 0, .int .i64 1] 22)).alloc (.cells #[.int .i64 a, .int .i64 b, .int .i64 c, .bool p, .bool q, .bool r, .bool true] 30) := ⟨_, rfl⟩
      have kq : Blk wo (wr.heap.size + 1) 30 (innerC a b c p q r 4 0) := by rw [hwo]; exact blk1 wr _ _
      have kx : Blk wo w.heap.size 30 #[.int .i64 a, .int .i64 b, .int .i64 c, .bool p, .bool q, .bool r, .bool true] := by rw [hwo]; exact (hX.out.alloc _).alloc _
      have hMo : MapOf wo w1.heap.size (stepK ⟨a, b, c, p, q, r, true⟩ 4) := by rw [hwo]; exact hM.out.same ((Below.heap_alloc _ _ _ (by simp; omega)).trans (Below.heap_alloc _ _ _ hltm))
      have hBo : Below w.heap.size w wo := by rw [hwo]; exact below_alloc (below_alloc hB.out)
      have KO := Lib.hid (And.intro kq (And.intro kx (And.intro hMo hBo)))
      clear kq kx hMo hBo x0 x1 x2 x3 x4 x5 x6
      rw [← hwo]
      clear hwo
      have h8a : w.heap.size < wr.heap.size + 1 := by omega
      have h8b : w1.heap.size < wr.heap.size + 1 := by omega
      have h8c : w.heap.size ≤ w1.heap.size := HB1.out.size
      generalize wr.heap.size + 1 = g8 at *
      go_loopw [28] (fun j wi => ∃ m : Nat, m ≤ 3 ∧ j = .int .i64 m ∧ Hid (Blk wi g8 30 (innerC a b c p q r 4 m)) ∧ Hid (Blk wi w.heap.size 30 #[.int .i64 a, .int .i64 b, .int .i64 c, .bool p, .bool q, .bool r, .bool true]) ∧ Hid (MapOf wi w1.heap.size (stepK ⟨a, b, c, p, q, r, true⟩ 4)) ∧ Hid (Below w.heap.size w wi))
        (fun j _ => 3 - (intOf j).toNat)
      case atStart => exact ⟨0, by omega, rfl, KO.out.1, KO.out.2.1, KO.out.2.2.1, KO.out.2.2.2⟩
      case round =>
        obtain ⟨m, hm, rfl, hQ, hX2, hM2, hB2⟩ := hrel
        have kx := hX2.out
        have hltx2 : w.heap.size < wr.heap.size := kx.lt
        have x0 : wr.cell? ⟨w.heap.size, 0, none⟩ = some (.int .i64 a) := kx.cell 0
        have x1 : wr.cell? ⟨w.heap.size, 1, none⟩ = some (.int .i64 b) := kx.cell 1
        have x2 : wr.cell? ⟨w.heap.size, 2, none⟩ = some (.int .i64 c) := kx.cell 2
        have x3 : wr.cell? ⟨w.heap.size, 3, none⟩ = some (.bool p) := kx.cell 3
        have x4 : wr.cell? ⟨w.heap.size, 4, none⟩ = some (.bool q) := kx.cell 4
        have x5 : wr.cell? ⟨w.heap.size, 5, none⟩ = some (.bool r) := kx.cell 5
        have x6 : wr.cell? ⟨w.heap.size, 6, none⟩ = some (.bool true) := kx.cell 6
        clear kx
        match m, hm, hQ with
        | 0, _, hQ =>
          have kq : Blk wr g8 30 #[.int .i64 a, .int .i64 b, .int .i64 c, .bool p, .bool q, .bool r, .bool true] := hQ.out
          have hltq := kq.lt
          have q0 := kq.cell 0
          have f0 := kq.frozen 0
          simp only [List.getElem?_toArray, List.getElem?_cons_zero, List.getElem?_cons_succ] at q0
          have q3 := kq.cell 3
          have f3 := kq.frozen 3
          simp only [List.getElem?_toArray, List.getElem?_cons_zero, List.getElem?_cons_succ] at q3
          have KQ := Lib.hid kq
          clear kq
          go_wp2_with fail
          go_region
          all_goals
            go_wp2_with fail
            go_roundw
            case rel =>
              refine ⟨1, by omega, rfl, ?_, ?_, ?_, ?_⟩
              · first
                  | exact ((KQ.out.drew.set_ 0 (.int .i64 c)).set_ 3 (.bool r))
                  | exact ((KQ.out.drew.set_ 3 (.bool r)).set_ 0 (.int .i64 c))
              · exact ((hX2.out.drew.far (p := ⟨_, _, none⟩) (by simp; omega) _).far (p := ⟨_, _, none⟩) (by simp; omega) _)
              · exact (hM2.out.same (show wr.drew.heap[w1.heap.size]? = _ from rfl)).same ((Below.heap_setCell _ _ _ _ (by simp; omega)).trans (Below.heap_setCell _ _ _ _ (by simp; omega)))
              · exact ((hB2.out.drew.setCell (p := ⟨_, _, none⟩) (by simp; omega) _).setCell (p := ⟨_, _, none⟩) (by simp; omega) _)
            case measure => simp [intOf]
        | 1, _, hQ =>
          have kq : Blk wr g8 30 #[.int .i64 c, .int .i64 b, .int .i64 c, .bool r, .bool q, .bool r, .bool true] := hQ.out
          have hltq := kq.lt
          have q1 := kq.cell 1
          have f1 := kq.frozen 1
          simp only [List.getElem?_toArray, List.getElem?_cons_zero, List.getElem?_cons_succ] at q1
          have q4 := kq.cell 4
          have f4 := kq.frozen 4
          simp only [List.getElem?_toArray, List.getElem?_cons_zero, List.getElem?_cons_succ] at q4
          have KQ := Lib.hid kq
          clear kq
          go_wp2_with fail
          go_region
          all_goals
            go_wp2_with fail
            go_roundw
            case rel =>
              refine ⟨2, by omega, rfl, ?_, ?_, ?_, ?_⟩
              · first
                  | exact ((KQ.out.drew.set_ 1 (.int .i64 a)).set_ 4 (.bool p))
                  | exact ((KQ.out.drew.set_ 4 (.bool p)).set_ 1 (.int .i64 a))
              · exact ((hX2.out.drew.far (p := ⟨_, _, none⟩) (by simp; omega) _).far (p := ⟨_, _, none⟩) (by simp; omega) _)
              · exact (hM2.out.same (show wr.drew.heap[w1.heap.size]? = _ from rfl)).same ((Below.heap_setCell _ _ _ _ (by simp; omega)).trans (Below.heap_setCell _ _ _ _ (by simp; omega)))
              · exact ((hB2.out.drew.setCell (p := ⟨_, _, none⟩) (by simp; omega) _).setCell (p := ⟨_, _, none⟩) (by simp; omega) _)
            case measure => simp [intOf]
        | 2, _, hQ =>
          have kq : Blk wr g8 30 #[.int .i64 c, .int .i64 a, .int .i64 c, .bool r, .bool p, .bool r, .bool true] := hQ.out
          have hltq := kq.lt
          have q2 := kq.cell 2
          have f2 := kq.frozen 2
          simp only [List.getElem?_toArray, List.getElem?_cons_zero, List.getElem?_cons_succ] at q2
          have q5 := kq.cell 5
          have f5 := kq.frozen 5
          simp only [List.getElem?_toArray, List.getElem?_cons_zero, List.getElem?_cons_succ] at q5
          have KQ := Lib.hid kq
          clear kq
          go_wp2_with fail
          go_region
          all_goals
            go_wp2_with fail
            go_roundw
            case rel =>
              refine ⟨3, by omega, rfl, ?_, ?_, ?_, ?_⟩
              · first
                  | exact ((KQ.out.drew.set_ 2 (.int .i64 b)).set_ 5 (.bool q))
                  | exact ((KQ.out.drew.set_ 5 (.bool q)).set_ 2 (.int .i64 b))
              · exact ((hX2.out.drew.far (p := ⟨_, _, none⟩) (by simp; omega) _).far (p := ⟨_, _, none⟩) (by simp; omega) _)
              · exact (hM2.out.same (show wr.drew.heap[w1.heap.size]? = _ from rfl)).same ((Below.heap_setCell _ _ _ _ (by simp; omega)).trans (Below.heap_setCell _ _ _ _ (by simp; omega)))
              · exact ((hB2.out.drew.setCell (p := ⟨_, _, none⟩) (by simp; omega) _).setCell (p := ⟨_, _, none⟩) (by simp; omega) _)
            case measure => simp [intOf]
        | 3, _, hQ =>
          have kq : Blk wr g8 30 #[.int .i64 c, .int .i64 a, .int .i64 b, .bool r, .bool p, .bool q, .bool true] := hQ.out
          have q0 := kq.cell 0
          simp only [List.getElem?_toArray, List.getElem?_cons_zero, List.getElem?_cons_succ] at q0
          have q1 := kq.cell 1
          simp only [List.getElem?_toArray, List.getElem?_cons_zero, List.getElem?_cons_succ] at q1
          have q2 := kq.cell 2
          simp only [List.getElem?_toArray, List.getElem?_cons_zero, List.getElem?_cons_succ] at q2
          have q3 := kq.cell 3
          simp only [List.getElem?_toArray, List.getElem?_cons_zero, List.getElem?_cons_succ] at q3
          have q4 := kq.cell 4
          simp only [List.getElem?_toArray, List.getElem?_cons_zero, List.getElem?_cons_succ] at q4
          have q5 := kq.cell 5
          simp only [List.getElem?_toArray, List.getElem?_cons_zero, List.getElem?_cons_succ] at q5
          have q6 := kq.cell 6
          simp only [List.getElem?_toArray, List.getElem?_cons_zero, List.getElem?_cons_succ] at q6
          obtain ⟨o, hup, hM3⟩ := upd (t := 102) hM2.out (perm_ok HH.out 4) Try.underlying102
          have hup' : (Instr.mapUpdate 102 (.map (some w1.heap.size)) (.agg #[.int .i64 c, .int .i64 a, .int .i64 b, .bool r, .bool p, .bool q, .bool true]) (.bool true)).run Try.prog wr = .ok () (Go.ChangeMaps.setBlock wr w1.heap.size o) := hup
          have HM3 := Lib.hid hM3
          clear hup hM3 kq x0 x1 x2 x3 x4 x5 x6
          go_wp2_with fail
          go_roundw
          case rel => exact ⟨5, by omega, rfl, HM3.out, (TurnKeys.heap_setBlock_ne (by omega)).trans hX2.out, below_setBlock hB2.out (by omega)⟩
          case measure => simp [intOf]
    | 5, _, hM =>
      go_wp2_with fail
      obtain ⟨wo, hwo⟩ : ∃ wo : World, wo = (wr.alloc (.cells #[.int .i64 2, .int .i64 1, .int .i64 0] 22)).alloc (.cells #[.int .i64 a, .int .i64 b, .int .i64 c, .bool p, .bool q, .bool r, .bool true] 30) := ⟨_, rfl⟩
      have kq : Blk wo (wr.heap.size + 1) 30 (innerC a b c p q r 5 0) := by rw [hwo]; exact blk1 wr _ _
      have kx : Blk wo w.heap.size 30 #[.int .i64 a, .int .i64 b, .int .i64 c, .bool p, .bool q, .bool r, .bool true] := by rw [hwo]; exact (hX.out.alloc _).alloc _
      have hMo : MapOf wo w1.heap.size (stepK ⟨a, b, c, p, q, r, true⟩ 5) := by rw [hwo]; exact hM.out.same ((Below.heap_alloc _ _ _ (by simp; omega)).trans (Below.heap_alloc _ _ _ hltm))
      have hBo : Below w.heap.size w wo := by rw [hwo]; exact below_alloc (below_alloc hB.out)
      have KO := Lib.hid (And.intro kq (And.intro kx (And.intro hMo hBo)))
      clear kq kx hMo hBo x0 x1 x2 x3 x4 x5 x6
      rw [← hwo]
      clear hwo
      have h8a : w.heap.size < wr.heap.size + 1 := by omega
      have h8b : w1.heap.size < wr.heap.size + 1 := by omega
      have h8c : w.heap.size ≤ w1.heap.size := HB1.out.size
      generalize wr.heap.size + 1 = g8 at *
      go_loopw [28] (fun j wi => ∃ m : Nat, m ≤ 3 ∧ j = .int .i64 m ∧ Hid (Blk wi g8 30 (innerC a b c p q r 5 m)) ∧ Hid (Blk wi w.heap.size 30 #[.int .i64 a, .int .i64 b, .int .i64 c, .bool p, .bool q, .bool r, .bool true]) ∧ Hid (MapOf wi w1.heap.size (stepK ⟨a, b, c, p, q, r, true⟩ 5)) ∧ Hid (Below w.heap.size w wi))
        (fun j _ => 3 - (intOf j).toNat)
      case atStart => exact ⟨0, by omega, rfl, KO.out.1, KO.out.2.1, KO.out.2.2.1, KO.out.2.2.2⟩
      case round =>
        obtain ⟨m, hm, rfl, hQ, hX2, hM2, hB2⟩ := hrel
        have kx := hX2.out
        have hltx2 : w.heap.size < wr.heap.size := kx.lt
        have x0 : wr.cell? ⟨w.heap.size, 0, none⟩ = some (.int .i64 a) := kx.cell 0
        have x1 : wr.cell? ⟨w.heap.size, 1, none⟩ = some (.int .i64 b) := kx.cell 1
        have x2 : wr.cell? ⟨w.heap.size, 2, none⟩ = some (.int .i64 c) := kx.cell 2
        have x3 : wr.cell? ⟨w.heap.size, 3, none⟩ = some (.bool p) := kx.cell 3
        have x4 : wr.cell? ⟨w.heap.size, 4, none⟩ = some (.bool q) := kx.cell 4
        have x5 : wr.cell? ⟨w.heap.size, 5, none⟩ = some (.bool r) := kx.cell 5
        have x6 : wr.cell? ⟨w.heap.size, 6, none⟩ = some (.bool true) := kx.cell 6
        clear kx
        match m, hm, hQ with
        | 0, _, hQ =>
          have kq : Blk wr g8 30 #[.int .i64 a, .int .i64 b, .int .i64 c, .bool p, .bool q, .bool r, .bool true] := hQ.out
          have hltq := kq.lt
          have q0 := kq.cell 0
          have f0 := kq.frozen 0
          simp only [List.getElem?_toArray, List.getElem?_cons_zero, List.getElem?_cons_succ] at q0
          have q3 := kq.cell 3
          have f3 := kq.frozen 3
          simp only [List.getElem?_toArray, List.getElem?_cons_zero, List.getElem?_cons_succ] at q3
          have KQ := Lib.hid kq
          clear kq
          go_wp2_with fail
          go_region
          all_goals
            go_wp2_with fail
            go_roundw
            case rel =>
              refine ⟨1, by omega, rfl, ?_, ?_, ?_, ?_⟩
              · first
                  | exact ((KQ.out.drew.set_ 0 (.int .i64 c)).set_ 3 (.bool r))
                  | exact ((KQ.out.drew.set_ 3 (.bool r)).set_ 0 (.int .i64 c))
              · exact ((hX2.out.drew.far (p := ⟨_, _, none⟩) (by simp; omega) _).far (p := ⟨_, _, none⟩) (by simp; omega) _)
              · exact (hM2.out.same (show wr.drew.heap[w1.heap.size]? = _ from rfl)).same ((Below.heap_setCell _ _ _ _ (by simp; omega)).trans (Below.heap_setCell _ _ _ _ (by simp; omega)))
              · exact ((hB2.out.drew.setCell (p := ⟨_, _, none⟩) (by simp; omega) _).setCell (p := ⟨_, _, none⟩) (by simp; omega) _)
            case measure => simp [intOf]
        | 1, _, hQ =>
          have kq : Blk wr g8 30 #[.int .i64 c, .int .i64 b, .int .i64 c, .bool r, .bool q, .bool r, .bool true] := hQ.out
          have hltq := kq.lt
          have q1 := kq.cell 1
          have f1 := kq.frozen 1
          simp only [List.getElem?_toArray, List.getElem?_cons_zero, List.getElem?_cons_succ] at q1
          have q4 := kq.cell 4
          have f4 := kq.frozen 4
          simp only [List.getElem?_toArray, List.getElem?_cons_zero, List.getElem?_cons_succ] at q4
          have KQ := Lib.hid kq
          clear kq
          go_wp2_with fail
          go_region
          all_goals
            go_wp2_with fail
            go_roundw
            case rel =>
              refine ⟨2, by omega, rfl, ?_, ?_, ?_, ?_⟩
              · first
                  | exact ((KQ.out.drew.set_ 1 (.int .i64 b)).set_ 4 (.bool q))
                  | exact ((KQ.out.drew.set_ 4 (.bool q)).set_ 1 (.int .i64 b))
              · exact ((hX2.out.drew.far (p := ⟨_, _, none⟩) (by simp; omega) _).far (p := ⟨_, _, none⟩) (by simp; omega) _)
              · exact (hM2.out.same (show wr.drew.heap[w1.heap.size]? = _ from rfl)).same ((Below.heap_setCell _ _ _ _ (by simp; omega)).trans (Below.heap_setCell _ _ _ _ (by simp; omega)))
              · exact ((hB2.out.drew.setCell (p := ⟨_, _, none⟩) (by simp; omega) _).setCell (p := ⟨_, _, none⟩) (by simp; omega) _)
            case measure => simp [intOf]
        | 2, _, hQ =>
          have kq : Blk wr g8 30 #[.int .i64 c, .int .i64 b, .int .i64 c, .bool r, .bool q, .bool r, .bool true] := hQ.out
          have hltq := kq.lt
          have q2 := kq.cell 2
          have f2 := kq.frozen 2
          simp only [List.getElem?_toArray, List.getElem?_cons_zero, List.getElem?_cons_succ] at q2
          have q5 := kq.cell 5
          have f5 := kq.frozen 5
          simp only [List.getElem?_toArray, List.getElem?_cons_zero, List.getElem?_cons_succ] at q5
          have KQ := Lib.hid kq
          clear kq
          go_wp2_with fail
          go_region
          all_goals
            go_wp2_with fail
            go_roundw
            case rel =>
              refine ⟨3, by omega, rfl, ?_, ?_, ?_, ?_⟩
              · first
                  | exact ((KQ.out.drew.set_ 2 (.int .i64 a)).set_ 5 (.bool p))
                  | exact ((KQ.out.drew.set_ 5 (.bool p)).set_ 2 (.int .i64 a))
              · exact ((hX2.out.drew.far (p := ⟨_, _, none⟩) (by simp; omega) _).far (p := ⟨_, _, none⟩) (by simp; omega) _)
              · exact (hM2.out.same (show wr.drew.heap[w1.heap.size]? = _ from rfl)).same ((Below.heap_setCell _ _ _ _ (by simp; omega)).trans (Below.heap_setCell _ _ _ _ (by simp; omega)))
              · exact ((hB2.out.drew.setCell (p := ⟨_, _, none⟩) (by simp; omega) _).setCell (p := ⟨_, _, none⟩) (by simp; omega) _)
            case measure => simp [intOf]
        | 3, _, hQ =>
          have kq : Blk wr g8 30 #[.int .i64 c, .int .i64 b, .int .i64 a, .bool r, .bool q, .bool p, .bool true] := hQ.out
          have q0 := kq.cell 0
          simp only [List.getElem?_toArray, List.getElem?_cons_zero, List.getElem?_cons_succ] at q0
          have q1 := kq.cell 1
          simp only [List.getElem?_toArray, List.getElem?_cons_zero, List.getElem?_cons_succ] at q1
          have q2 := kq.cell 2
          simp only [List.getElem?_toArray, List.getElem?_cons_zero, List.getElem?_cons_succ] at q2
          have q3 := kq.cell 3
          simp only [List.getElem?_toArray, List.getElem?_cons_zero, List.getElem?_cons_succ] at q3
          have q4 := kq.cell 4
          simp only [List.getElem?_toArray, List.getElem?_cons_zero, List.getElem?_cons_succ] at q4
          have q5 := kq.cell 5
          simp only [List.getElem?_toArray, List.getElem?_cons_zero, List.getElem?_cons_succ] at q5
          have q6 := kq.cell 6
          simp only [List.getElem?_toArray, List.getElem?_cons_zero, List.getElem?_cons_succ] at q6
          obtain ⟨o, hup, hM3⟩ := upd (t := 102) hM2.out (perm_ok HH.out 5) Try.underlying102
          have hup' : (Instr.mapUpdate 102 (.map (some w1.heap.size)) (.agg #[.int .i64 c, .int .i64 b, .int .i64 a, .bool r, .bool q, .bool p, .bool true]) (.bool true)).run Try.prog wr = .ok () (Go.ChangeMaps.setBlock wr w1.heap.size o) := hup
          have HM3 := Lib.hid hM3
          clear hup hM3 kq x0 x1 x2 x3 x4 x5 x6
          go_wp2_with fail
          go_roundw
          case rel => exact ⟨6, by omega, rfl, HM3.out, (TurnKeys.heap_setBlock_ne (by omega)).trans hX2.out, below_setBlock hB2.out (by omega)⟩
          case measure => simp [intOf]
    | 6, _, hM =>
      clear x0 x1 x2 x3 x4 x5 x6
      go_wp2_with fail
      refine ((callsIn_wide (n := 5)).1 (TurnKeys.keys_in Fence.wide 5 trivial rfl w1.heap.size _)).mono ?_
      rintro e w4 ⟨rfl, rfl⟩
      go_wp2_with fail
      have hMa := (hM.out.same (Below.heap_alloc wr (.cells #[.map (some w1.heap.size)] 102) _ hltm))
      have hS := sortedFunc_any wr.heap.size w1.heap.size (stepK ⟨a, b, c, p, q, r, true⟩ 6) (wr.alloc (.cells #[.map (some w1.heap.size)] 102)) (by simp) (box0 wr _ _ 0) hMa (stepK_len _ _)
        (fun e => by have := (stepK_six ⟨a, b, c, p, q, r, true⟩ ⟨a, b, c, p, q, r, true⟩).2 (mem_rots.2 ⟨0, by omega, rfl⟩); rw [e] at this; cases this)
        (fun x hx y hy => by rw [(rots_ok HH.out ((stepK_six _ _).1 hx)).2, (rots_ok HH.out ((stepK_six _ _).1 hy)).2])
      have HS := Lib.hid hS
      clear hS hMa
      refine HS.out.mono ?_
      rintro e w5 ⟨v, l, rfl, hr, hm, hW, hB5⟩
      have HR := Lib.hid (And.intro hr (And.intro hm (And.intro hW hB5)))
      clear hr hm hW hB5 HS
      go_wp2_with fail
      go_ret2
      have e1 : l = allL ⟨a, b, c, p, q, r, true⟩ := allL_of HH.out rfl HR.out.1 fun x => (HR.out.2.1 x).trans (stepK_six _ _)
      obtain ⟨_, _, ⟨g, cap, hv, hg, h1, h2, h3⟩, hB5⟩ := HR.out
      rw [e1] at hv h1 h3
      refine ⟨_, rfl, ⟨g, cap, hv, ?_, h1, h2, h3⟩, below_up (below_alloc hB.out) hB5⟩
      rw [World.size_alloc] at hg
      have := hB.out.size
      omega
/-- turn.All, for all wants. -/
theorem all_any (x : WV) (w : World) : Calls Try.prog 69 #[.agg x.arr] w fun e w' => ∃ v n, e = .returned (.tuple #[v, .int .i64 n]) ∧ AllRes w w' x v n ∧ Below w.heap.size w w' := by
  obtain ⟨a, b, c, p, q, r, tn⟩ := x
  by_cases h : WOk ⟨a, b, c, p, q, r, tn⟩
  · cases tn
    · refine (all_one a b c p q r h w).mono ?_
      rintro e w' ⟨v, rfl, hW, hB⟩
      exact ⟨v, 0, rfl, .inl ⟨h, rfl, by simpa [allL] using hW⟩, hB⟩
    · refine (all_six a b c p q r h w).mono ?_
      rintro e w' ⟨v, rfl, hW, hB⟩
      exact ⟨v, 0, rfl, .inl ⟨h, rfl, hW⟩, hB⟩
  · refine (all_bad a b c p q r tn h w).mono ?_
    rintro e w' ⟨rfl, hB⟩
    exact ⟨_, 8, rfl, .inr ⟨h, rfl, rfl⟩, hB⟩
end Go.Proofs.Ytaldgmmmcbikgaa.TurnAll
