/- A port that is written through: its row of bytes, and what a step through it leaves as it was. No conditions. -/
import Derived.Laws.BytesString
import Derived.Laws.Cells
import Derived.Lib.BufferRead
import Derived.OneCell
import Derived.Laws.AppendOwn
import Derived.Test.YtfdldbfjeamlcaaRows
import Derived.Test.YtfdldbfjeamlcaaMem
namespace Go.Proofs.Ytfdldbfjeamlcaa.RecMem
open Go.RowKit Mem
set_option linter.unusedVariables false
set_option linter.unusedSimpArgs false

abbrev PT : TypeId := 99
/-- A port (block gp) that writes: its bytes so far, whether something is odd. -/
def PW (w : World) (gp : Nat) (v : Value) (t : List Int) (od : Bool) : Prop :=
  Blk w gp PT #[v, .bool false, .bool od] ∧ w.ownsRow 0 5 1 v t.length (t.map (Value.int .u8)) ∧ v.ownBlock ≠ some gp
/-- Nothing else has turned. -/
structure Fr (gp : Nat) (v : Value) (w : World) (v' : Value) (w' : World) : Prop where
  os : w'.os = w.os
  tape : w'.tape = w.tape
  output : w'.output = w.output
  size : w.heap.size ≤ w'.heap.size
  block : ∀ k, k < w.heap.size → k ≠ gp → v.ownBlock ≠ some k → w'.heap[k]? = w.heap[k]?
  row : v'.ownBlock = v.ownBlock ∨ ∀ b, v'.ownBlock = some b → w.heap.size ≤ b
theorem Fr.refl (gp : Nat) (v : Value) (w : World) : Fr gp v w v w := ⟨rfl, rfl, rfl, Nat.le_refl _, fun _ _ _ _ => rfl, .inl rfl⟩
theorem Fr.trans {gp : Nat} {v v1 v2 : Value} {w w1 w2 : World} (h : Fr gp v w v1 w1) (k : Fr gp v1 w1 v2 w2) : Fr gp v w v2 w2 :=
  ⟨k.os.trans h.os, k.tape.trans h.tape, k.output.trans h.output, Nat.le_trans h.size k.size, fun i hi hg hv => by
    have hv1 : v1.ownBlock ≠ some i := fun e => by
      rcases h.row with h2 | h2
      · exact hv (h2 ▸ e)
      · have := h2 i e; omega
    exact (k.block i (Nat.lt_of_lt_of_le hi h.size) hg hv1).trans (h.block i hi hg hv),
  by
    rcases k.row with h2 | h2
    · rcases h.row with h1 | h1
      · exact .inl (h2.trans h1)
      · exact .inr fun b e => h1 b (h2 ▸ e)
    · exact .inr fun b e => Nat.le_trans h.size (h2 b e)⟩
/-- An address that lies in neither. -/
def Far (gp : Nat) (v : Value) (w : World) (k : Nat) : Prop := k < w.heap.size ∧ k ≠ gp ∧ v.ownBlock ≠ some k
theorem Fr.far {gp k : Nat} {v v' : Value} {w w' : World} (h : Fr gp v w v' w') (hf : Far gp v w k) : Far gp v' w' k :=
  ⟨Nat.lt_of_lt_of_le hf.1 h.size, hf.2.1, fun e => by
    rcases h.row with h2 | h2
    · exact hf.2.2 (h2 ▸ e)
    · have := h2 k e; have := hf.1; omega⟩
theorem Fr.same {gp k : Nat} {v v' : Value} {w w' : World} (h : Fr gp v w v' w') (hf : Far gp v w k) : w'.heap[k]? = w.heap[k]? := h.block k hf.1 hf.2.1 hf.2.2
theorem Fr.cell {gp : Nat} {v v' u : Value} {w w' : World} {a : Addr} (h : Fr gp v w v' w') (hf : Far gp v w a.block) (hc : w.cell? a = some u) : w'.cell? a = some u := by
  rw [World.cell?_of_block (h.same hf)]; exact hc
theorem Fr.frozen {gp : Nat} {v v' : Value} {w w' : World} {a : Addr} (h : Fr gp v w v' w') (hf : Far gp v w a.block) (hc : w.frozen? a = false) : w'.frozen? a = false := by
  unfold World.frozen? at hc ⊢
  rw [h.same hf]; exact hc
theorem Fr.blk {gp g : Nat} {v v' : Value} {w w' : World} {t : TypeId} {cs : Array Value} (h : Fr gp v w v' w') (hf : Far gp v w g) (hc : Blk w g t cs) : Blk w' g t cs := (h.same hf).trans hc
theorem Fr.alloc {gp : Nat} {v v' : Value} {w w' : World} (h : Fr gp v w v' w') (o : Obj) : Fr gp v w v' (w'.alloc o) :=
  ⟨h.os, h.tape, h.output, by have := h.size; simp; omega, fun k hk hg hv => by
    have := h.size
    rw [Below.heap_alloc w' o k (by omega)]
    exact h.block k hk hg hv, h.row⟩
theorem Fr.drew {gp : Nat} {v v' : Value} {w w' : World} (h : Fr gp v w v' w') : Fr gp v w v' w'.drew := ⟨h.os, h.tape, h.output, h.size, h.block, h.row⟩
/-- A store into a block that is new, or the port's. -/
theorem Fr.set_ {gp : Nat} {v v' : Value} {w w' : World} (h : Fr gp v w v' w') {p : Addr} (hp : p.block = gp ∨ w.heap.size ≤ p.block) (u : Value) : Fr gp v w v' (w'.setCell p u) :=
  ⟨h.os, h.tape, h.output, by have := h.size; simpa using this, fun k hk hg hv => by
    rw [Below.heap_setCell w' p u k (by rcases hp with e | e <;> omega)]
    exact h.block k hk hg hv, h.row⟩
theorem Fr.below {gp B : Nat} {v v' : Value} {w w' : World} (h : Fr gp v w v' w') (hg : B ≤ gp) (hv : ∀ b, v.ownBlock = some b → B ≤ b) (hB : B ≤ w.heap.size) : Below B w w' :=
  ⟨h.os, h.tape, h.output, h.size, fun k hk => h.block k (by omega) (by omega) (fun e => by have := hv k e; omega)⟩
theorem Far.alloc {gp k : Nat} {v : Value} {w : World} (h : Far gp v w k) (o : Obj) : Far gp v (w.alloc o) k := ⟨by have := h.1; simp; omega, h.2⟩
theorem PW.lt {w : World} {gp : Nat} {v : Value} {t : List Int} {od : Bool} (h : PW w gp v t od) : gp < w.heap.size := h.1.lt
theorem PW.new {w : World} {gp : Nat} {v : Value} {t : List Int} {od : Bool} (h : PW w gp v t od) (o : Obj) : Far gp v (w.alloc o) w.heap.size :=
  ⟨by simp, by have := h.lt; omega, fun e => by have := (h.2.1.lt _ e).2; omega⟩
theorem PW.alloc {w : World} {gp : Nat} {v : Value} {t : List Int} {od : Bool} (h : PW w gp v t od) (o : Obj) : PW (w.alloc o) gp v t od := ⟨h.1.alloc o, h.2.1.alloc o, h.2.2⟩
theorem PW.far {w : World} {gp : Nat} {v : Value} {t : List Int} {od : Bool} (h : PW w gp v t od) {p : Addr} (hp : Far gp v w p.block) (u : Value) : PW (w.setCell p u) gp v t od :=
  ⟨h.1.far hp.2.1.symm u, Go.ownsRow_setCell_other h.2.1 hp.2.2 u, h.2.2⟩
theorem Fr.grown {gp : Nat} {v v2 : Value} {w w1 w2 : World} (h : Fr gp v w v w1) (hg : w1.grownBy w2 v.ownBlock) (hat : v2.ownBlock = v.ownBlock ∨ v2.ownBlock = some w1.heap.size) : Fr gp v w v2 w2 :=
  ⟨hg.os.trans h.os, hg.tape.trans h.tape, hg.output.trans h.output, Nat.le_trans h.size hg.size, fun k hk hkg hv => (hg.block k (Nat.lt_of_lt_of_le hk h.size) (fun e => hv e.symm)).trans (h.block k hk hkg hv), by
    rcases hat with e | e
    · exact .inl e
    · exact .inr fun b hb => by rw [e] at hb; cases hb; exact h.size⟩
/-- The same value stored anew. -/
theorem setCell_self {w : World} {g i : Nat} {u : Value} (h : w.cell? ⟨g, i, none⟩ = some u) : w.setCell ⟨g, i, none⟩ u = w := by
  have e : (w.setCell ⟨g, i, none⟩ u).heap = w.heap := by
    apply Array.ext_getElem?
    intro k
    unfold World.setCell
    simp only
    rw [Array.getElem?_modify]
    split
    · rename_i hk
      subst hk
      unfold World.cell? at h
      simp only at h
      cases hb : w.heap[g]? with
      | none => rfl
      | some o =>
        rw [hb] at h
        cases o with
        | cells cs t fz =>
          simp only [Option.map_some, Option.isSome_none, Bool.false_eq_true, if_false]
          simp at h
          have e2 : cs.setIfInBounds i u = cs := by
            apply Array.ext_getElem?
            intro j
            rw [Array.getElem?_setIfInBounds]
            split
            · rename_i hj
              subst hj
              split
              · exact h.symm
              · rename_i hn
                rw [Array.getElem?_eq_none (by omega)] at h
                cases h
            · rfl
          rw [e2]
        | _ => rfl
    · rfl
  calc w.setCell ⟨g, i, none⟩ u = { w with heap := (w.setCell ⟨g, i, none⟩ u).heap } := rfl
    _ = w := by rw [e]
end Go.Proofs.Ytfdldbfjeamlcaa.RecMem
