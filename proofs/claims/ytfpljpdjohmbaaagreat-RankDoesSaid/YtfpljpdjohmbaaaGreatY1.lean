/- Several texts joined: Words for memory: a slice that reads as a list, nil let in; a block that is known whole; an append whose source may be nil; frames. (The first three began as lines that the guide gives for copying.) N -/
import Derived.Below
import Derived.Laws.OwnMore
import Derived.Deep.AppendLies
import Derived.Deep.Draws
import Derived.Deep.OwnRows
import Derived.Laws.Rows
import Derived.Laws.AppendOwn
import Derived.Maps.AppendAt
import Derived.RegionTactic
import Derived.OwnWalk
import Derived.Calls
import Derived.Lib.Hide
import Derived.Test.YtfpljpdjohmbaaaGreatRows
import Derived.WalkKit
import Derived.ProofKit
import Derived.OpenShut
import Derived.ChangeOld
import Derived.Carry
import Derived.Lib.SmallJoins
import Derived.RangeFuncNested
import Derived.RangeFuncBound
import Derived.RangeFuncCalls
import Derived.RangeFuncLeaves
import Derived.Shelf.Abstract
import Derived.Shelf.RegionOpen
import Derived.OwnWalkIn
import Derived.TacticsInMore
import Derived.LoopNIn
import Derived.LoopIn
import Derived.DeepKeys
import Derived.Laws.StructEq
import Derived.Tactics
import Derived.DeepKeys4
import Derived.Maps.RangeRun
import Derived.Laws.IdiomRangeMap
/-! Words for memory: a slice that reads as a list, nil let in; a block that is known whole; an append whose source may be nil; frames. (The first three began as lines that the guide gives for copying.) No conditions but those named. -/
namespace Go.Proofs.YtfpljpdjohmbaaaGreat.Mem
open Go.RowKit
set_option linter.unusedVariables false

theorem block_of_add (a : Addr) (n : Nat) : (a.add n).block = a.block := by unfold Addr.add; split <;> rfl
theorem add_of_add (a : Addr) (i j : Nat) : (a.add i).add j = a.add (i + j) := by
  unfold Addr.add
  by_cases hi : i = 0 <;> by_cases hj : j = 0 <;> simp [hi, hj, Nat.add_assoc]

def Reads (w : World) (B size : Nat) (A : Option Addr) (n : Nat) (xs : List Value) : Prop :=
  xs.length = n * size ∧ (0 < n → ∃ ad, A = some ad ∧ ad.block < B ∧ ∀ j u, xs[j]? = some u → w.cell? (ad.add j) = some u)

section
variable {w w' : World} {B B' size n : Nat} {A : Option Addr} {xs : List Value}
theorem Reads.none_ : Reads w B size A 0 [] := ⟨by simp, fun h => absurd h (by omega)⟩
theorem Reads.at_ {k : Nat} (h : Reads w B 1 A n xs) (hk : k < n) : ∃ ad u, A = some ad ∧ ad.block < B ∧ xs[k]? = some u ∧ w.cell? (ad.add k) = some u := by
  obtain ⟨ad, e, hb, hc⟩ := h.2 (by omega)
  have hl : k < xs.length := by have := h.1; omega
  exact ⟨ad, xs[k], e, hb, List.getElem?_eq_getElem hl, hc k _ (List.getElem?_eq_getElem hl)⟩
theorem Reads.keep (h : Reads w B size A n xs) (hk : ∀ p : Addr, p.block < B → w'.cell? p = w.cell? p) : Reads w' B size A n xs :=
  ⟨h.1, fun hn => by
    obtain ⟨ad, e, hb, hc⟩ := h.2 hn
    exact ⟨ad, e, hb, fun j u hu => (hk _ (by rw [block_of_add]; exact hb)).trans (hc j u hu)⟩⟩
theorem Reads.more (h : Reads w B size A n xs) (hB : B ≤ B') : Reads w B' size A n xs :=
  ⟨h.1, fun hn => by
    obtain ⟨ad, e, hb, hc⟩ := h.2 hn
    exact ⟨ad, e, by omega, hc⟩⟩
theorem Reads.below (h : Reads w B size A n xs) (hb : Below B w w') : Reads w' B size A n xs := h.keep fun _ hp => hb.cell hp
theorem Reads.drew (h : Reads w B size A n xs) : Reads w.drew B size A n xs := h
theorem Reads.drewN (h : Reads w B size A n xs) (k : Nat) : Reads (w.drewN k) B size A n xs := h
theorem Reads.alloc (h : Reads w B size A n xs) (hB : B ≤ w.heap.size) (o : Obj) : Reads (w.alloc o) B size A n xs := h.keep fun p hp => World.cell?_alloc_lt w o p (by omega)
theorem Reads.setCell (h : Reads w B size A n xs) {p : Addr} (hB : B ≤ p.block) (u : Value) : Reads (w.setCell p u) B size A n xs :=
  h.keep fun q hq => World.cell?_setCell_other w p q u (fun e => by subst e; omega)
theorem Reads.grown (h : Reads w B size A n xs) {row : Option Nat} (hg : w.grownBy w' row) (hB : B ≤ w.heap.size) (hr : ∀ g, row = some g → B ≤ g) : Reads w' B size A n xs :=
  h.keep fun p hp => World.cell?_of_block (hg.block p.block (by omega) (fun e => by have := hr _ e.symm; omega))
theorem Reads.cut (h : Reads w B size A n xs) {k cap : Nat} (hk : k ≤ n) (hc : n ≤ cap) :
    Reads w B size (if cap = k then A else A.map (·.add (k * size))) (n - k) (xs.drop (k * size)) := by
  refine ⟨by rw [List.length_drop, h.1, Nat.sub_mul], fun hn => ?_⟩
  obtain ⟨ad, rfl, hb, hcell⟩ := h.2 (by omega)
  rw [if_neg (by omega)]
  refine ⟨ad.add (k * size), rfl, by rw [block_of_add]; exact hb, fun j u hu => ?_⟩
  rw [add_of_add]
  exact hcell _ u (by rw [← hu, List.getElem?_drop])
theorem Reads.of_own {base : Nat} {e : TypeId} {c : Nat} (h : w.ownsRow base e size (.slice A n c) n xs) : Reads w w.heap.size size A n xs := by
  refine ⟨h.1, fun hn => ?_⟩
  obtain ⟨g, cap, hv, _, hlt⟩ := h.form hn
  have hA : A = some ⟨g, 0, none⟩ := by injection hv
  subst hA
  exact ⟨_, rfl, hlt, h.cells (g := g) rfl⟩
end

def Blk (w : World) (g : Nat) (t : TypeId) (cs : Array Value) : Prop := w.heap[g]? = some (.cells cs t (0, 0))

section
variable {w w' : World} {g : Nat} {t : TypeId} {cs : Array Value}
theorem Blk.lt (h : Blk w g t cs) : g < w.heap.size := by
  rcases Nat.lt_or_ge g w.heap.size with hlt | hge
  · exact hlt
  · unfold Blk at h; rw [Array.getElem?_eq_none hge] at h; cases h
theorem Blk.cell (h : Blk w g t cs) (i : Nat) : w.cell? ⟨g, i, none⟩ = cs[i]? := cell_of_row w g i cs t (0, 0) h
theorem Blk.frozen (h : Blk w g t cs) (i : Nat) : w.frozen? ⟨g, i, none⟩ = false := by
  unfold Blk at h
  simp [World.frozen?, h]
theorem Blk.new (w : World) (t : TypeId) (cs : Array Value) : Blk (w.alloc (.cells cs t)) w.heap.size t cs := heap_alloc_new w _
theorem Blk.drew (h : Blk w g t cs) : Blk w.drew g t cs := h
theorem Blk.drewN (h : Blk w g t cs) (n : Nat) : Blk (w.drewN n) g t cs := h
theorem Blk.alloc (h : Blk w g t cs) (o : Obj) : Blk (w.alloc o) g t cs := (Below.heap_alloc w o g h.lt).trans h
theorem Blk.set_ (h : Blk w g t cs) (i : Nat) (u : Value) : Blk (w.setCell ⟨g, i, none⟩ u) g t (cs.setIfInBounds i u) := by
  unfold Blk at h ⊢
  simp [World.setCell, Array.getElem?_modify, h]
theorem Blk.far (h : Blk w g t cs) {p : Addr} (hp : g ≠ p.block) (u : Value) : Blk (w.setCell p u) g t cs := (Below.heap_setCell w p u g hp).trans h
theorem Blk.below {B : Nat} (h : Blk w g t cs) (hb : Below B w w') (hg : g < B) : Blk w' g t cs := (hb.block g hg).trans h
theorem Blk.grown {row : Option Nat} (h : Blk w g t cs) (hb : w.grownBy w' row) (hg : some g ≠ row) : Blk w' g t cs := (hb.block g h.lt hg).trans h
theorem Blk.ne_ {g' : Nat} {t' : TypeId} {cs' : Array Value} (h : Blk w g t cs) (h' : Blk w g' t' cs') (hne : t ≠ t') : g ≠ g' := by
  rintro rfl
  unfold Blk at h h'
  rw [h] at h'
  injection h' with h'
  injection h' with _ ht
  exact hne ht
theorem own_blk_ne {base : Nat} {e : TypeId} {size n : Nat} {v : Value} {xs : List Value} (h : w.ownsRow base e size v n xs) (hg : Blk w g t cs) (hne : e ≠ t) : v.ownBlock ≠ some g := by
  rcases h.2 with ⟨rfl, _⟩ | ⟨g', cap, cur, rfl, _, hh, _⟩
  · simp [Value.ownBlock]
  · intro he
    have : g' = g := by simpa [Value.ownBlock] using he
    subst this
    exact Blk.ne_ (t := e) hh hg hne rfl
end

section
variable {P : Program} (w : World)

theorem run_append_of_nil (base : Nat) (t ty e : TypeId) (i : TypeInfo) (size : Nat) (ht : P.underlying t = some (.slice e)) (hi : P.info? e = some i)
    (v : Value) (n : Nat) (xs : List Value) (hown : w.ownsRow base e size v n xs) (c : Nat) : (Builtin.append_ #[t, t] ty #[v, .slice none 0 c]).run P w = .ok v w := by
  rcases hown.2 with ⟨rfl, rfl⟩ | ⟨g, cap, cur, rfl, _, _, hnc, _⟩
  · simp [Builtin.append_, run_underlying ht, sizeOf, typeInfo, hi, Builtin.lenOf, Builtin.firstCells]
  · simp [Builtin.append_, run_underlying ht, sizeOf, typeInfo, hi, Builtin.lenOf, Builtin.firstCells, hnc, storeCells]

theorem run_append_any (base : Nat) (t ty e : TypeId) (i : TypeInfo) (z : Value) (size bytes : Nat) (ht : P.underlying t = some (.slice e)) (hi : P.info? e = some i) (hz : i.zero = some z)
    (hsize : i.size = size) (hby : i.bytes = bytes) (hzs : z.cells.size = size) (hsz : 0 < size)
    (v : Value) (n : Nat) (xs : List Value) (hown : w.ownsRow base e size v n xs)
    (B : Nat) (A : Option Addr) (m c : Nat) (news : List Value) (hr : Reads w B size A m news) (h1 : ∀ u ∈ news, u.oneCell' = true)
    (h63 : n + m ≤ maxLen) (hbytes : (n + m) * bytes ≤ 140737488355328) (hbase : base ≤ w.heap.size) :
    ∃ v' w', (Builtin.append_ #[t, t] ty #[v, .slice A m c]).run P w = .ok v' w' ∧ w'.ownsRow base e size v' (n + m) (xs ++ news) ∧ w.grownBy w' v.ownBlock ∧
      (v'.ownBlock = v.ownBlock ∨ v'.ownBlock = some w.heap.size) := by
  rcases A with _ | ad
  · have hm : m = 0 := by
      rcases Nat.eq_zero_or_pos m with h0 | h0
      · exact h0
      · obtain ⟨ad, h, _⟩ := hr.2 h0
        cases h
    subst hm
    have hn : news = [] := List.eq_nil_of_length_eq_zero (by simpa using hr.1)
    subst hn
    exact ⟨v, w, run_append_of_nil w base t ty e i size ht hi v n xs hown c, by simpa using hown, World.grownBy.refl w _, .inl rfl⟩
  · have hcells : ∀ j u, news[j]? = some u → w.cell? (ad.add j) = some u := by
      intro j u hu
      rcases Nat.eq_zero_or_pos m with h0 | h0
      · subst h0
        have hn : news = [] := List.eq_nil_of_length_eq_zero (by simpa using hr.1)
        subst hn
        simp at hu
      · obtain ⟨ad', h, _, hc⟩ := hr.2 h0
        injection h with h
        subst h
        exact hc j u hu
    obtain ⟨v', w', hrun, h2, h3, _, h5⟩ := run_append_own_at (P := P) w base t ty e i z size bytes ht hi hz hsize hby hzs hsz v n xs hown ad m c news hr.1 hcells h1 h63 hbytes hbase
    exact ⟨v', w', hrun, h2, h3, h5⟩

theorem wp_append_any {o : Oper} {a : Act} {K : Act → World → Prop} {Q : Exit → Act → World → Prop} (s x : Operand) (t : TypeId)
    (ho : o.op = .call { callee := .builtin .append, args := #[s, x], argTypes := #[t, t] })
    (base : Nat) (e : TypeId) (i : TypeInfo) (z : Value) (size bytes : Nat) (ht : P.underlying t = some (.slice e)) (hi : P.info? e = some i) (hz : i.zero = some z)
    (hsize : i.size = size) (hby : i.bytes = bytes) (hzs : z.cells.size = size) (hsz : 0 < size)
    (v : Value) (n : Nat) (xs : List Value) (hs : a.eval s = v) (hown : w.ownsRow base e size v n xs)
    (B : Nat) (A : Option Addr) (m c : Nat) (news : List Value) (hx : a.eval x = .slice A m c) (hr : Reads w B size A m news) (h1 : ∀ u ∈ news, u.oneCell' = true)
    (h63 : n + m ≤ maxLen) (hbytes : (n + m) * bytes ≤ 140737488355328) (hbase : base ≤ w.heap.size)
    (h : ∀ v' w', w'.ownsRow base e size v' (n + m) (xs ++ news) → w.grownBy w' v.ownBlock → (v'.ownBlock = v.ownBlock ∨ v'.ownBlock = some w.heap.size) → K (a.put o.dst v') w') : o.wp P a w K Q := by
  obtain ⟨v', w', hrun, h2, h3, h4⟩ := run_append_any (P := P) w base t o.type e i z size bytes ht hi hz hsize hby hzs hsz v n xs hown B A m c news hr h1 h63 hbytes hbase
  unfold Oper.wp execOp
  simp only [ho, resolve, invoke, builtin, Sem.run_bind, Sem.run_pure, Result.andThen_ok, List.map_toArray, List.map_cons, List.map_nil, hs, hx, hrun]
  exact h v' w' h2 h3 h4

theorem wpList_append_any {ops : Array Oper} {rest : List Oper} {o : Oper} {a : Act} {Q : Exit → Act → World → Prop} (hgd : o.guard = none) (s x : Operand) (t : TypeId)
    (ho : o.op = .call { callee := .builtin .append, args := #[s, x], argTypes := #[t, t] })
    (base : Nat) (e : TypeId) (i : TypeInfo) (z : Value) (size bytes : Nat) (ht : P.underlying t = some (.slice e)) (hi : P.info? e = some i) (hz : i.zero = some z)
    (hsize : i.size = size) (hby : i.bytes = bytes) (hzs : z.cells.size = size) (hsz : 0 < size)
    (v : Value) (n : Nat) (xs : List Value) (hs : a.eval s = v) (hown : w.ownsRow base e size v n xs)
    (B : Nat) (A : Option Addr) (m c : Nat) (news : List Value) (hx : a.eval x = .slice A m c) (hr : Reads w B size A m news) (h1 : ∀ u ∈ news, u.oneCell' = true)
    (h63 : n + m ≤ maxLen) (hbytes : (n + m) * bytes ≤ 140737488355328) (hbase : base ≤ w.heap.size)
    (h : ∀ v' w', w'.ownsRow base e size v' (n + m) (xs ++ news) → w.grownBy w' v.ownBlock → (v'.ownBlock = v.ownBlock ∨ v'.ownBlock = some w.heap.size) → wpList P ops Q rest (a.put o.dst v') w') : wpList P ops Q (o :: rest) a w :=
  wpList_plain hgd fun _ hK => wp_append_any w s x t ho base e i z size bytes ht hi hz hsize hby hzs hsz v n xs hs hown B A m c news hx hr h1 h63 hbytes hbase fun v' w' h2 h3 h4 => hK _ _ (h v' w' h2 h3 h4)

theorem step_append_any {ops : Array Oper} {o : Oper} {a : Act} {K : Act → World → Prop} {Q : Exit → Act → World → Prop} {E : Prop} (hgd : o.guard = none) (s x : Operand) (t : TypeId)
    (ho : o.op = .call { callee := .builtin .append, args := #[s, x], argTypes := #[t, t] })
    (base : Nat) (e : TypeId) (i : TypeInfo) (z : Value) (size bytes : Nat) (ht : P.underlying t = some (.slice e)) (hi : P.info? e = some i) (hz : i.zero = some z)
    (hsize : i.size = size) (hby : i.bytes = bytes) (hzs : z.cells.size = size) (hsz : 0 < size)
    (v : Value) (n : Nat) (xs : List Value) (hs : a.eval s = v) (hown : w.ownsRow base e size v n xs)
    (B : Nat) (A : Option Addr) (m c : Nat) (news : List Value) (hx : a.eval x = .slice A m c) (hr : Reads w B size A m news) (h1 : ∀ u ∈ news, u.oneCell' = true)
    (h63 : n + m ≤ maxLen) (hbytes : (n + m) * bytes ≤ 140737488355328) (hbase : base ≤ w.heap.size)
    (h : ∀ v' w', w'.ownsRow base e size v' (n + m) (xs ++ news) → w.grownBy w' v.ownBlock → (v'.ownBlock = v.ownBlock ∨ v'.ownBlock = some w.heap.size) → K (a.put o.dst v') w') :
    if Region.wanted o (yielded ops a.tmps) = true then Oper.wp P o a w K Q else E := by
  have hw : Region.wanted o (yielded ops a.tmps) = true := by simp [Region.wanted, hgd]
  rw [if_pos hw]
  exact wp_append_any w s x t ho base e i z size bytes ht hi hz hsize hby hzs hsz v n xs hs hown B A m c news hx hr h1 h63 hbytes hbase h
end

/-! Frames. -/
theorem below_drewN {B : Nat} {a w : World} (h : Below B a w) (n : Nat) : Below B a (w.drewN n) := ⟨h.os, h.tape, h.output, h.size, h.block⟩
theorem bcell {W w1 : World} (hb : Below W.heap.size W w1) : (∀ b o, b < W.heap.size → w1.cell? ⟨b, o, none⟩ = W.cell? ⟨b, o, none⟩) ∧ (∀ b o, b < W.heap.size → w1.frozen? ⟨b, o, none⟩ = W.frozen? ⟨b, o, none⟩) :=
  ⟨fun b o h => hb.cell (p := ⟨b, o, none⟩) h, fun b o h => hb.frozen (p := ⟨b, o, none⟩) h⟩

theorem add_flat (b o k : Nat) : (⟨b, o, none⟩ : Addr).add k = ⟨b, o + k, none⟩ := by
  unfold Addr.add
  by_cases hk : k = 0 <;> simp [hk]
/-- A slice that is not empty has an address without a spot. -/
theorem Reads.flat {w : World} {B n : Nat} {A : Option Addr} {xs : List Value} (h : Reads w B 1 A n xs) (hn : 0 < n) : ∃ b o, A = some ⟨b, o, none⟩ ∧ b < B ∧ ∀ j u, xs[j]? = some u → w.cell? ⟨b, o + j, none⟩ = some u := by
  obtain ⟨⟨b, o, s⟩, rfl, hb, hc⟩ := h.2 hn
  have hl : 0 < xs.length := by have := h.1; omega
  have h0 := hc 0 _ (List.getElem?_eq_getElem hl)
  have hs : s = none := by simpa [Addr.add] using World.cell?_spot h0
  subst hs
  exact ⟨b, o, rfl, hb, fun j u hu => by rw [← add_flat]; exact hc j u hu⟩
/-- What a slice of bytes reads as. -/
def u8s (l : List Int) : List Value := l.map (Value.int .u8)
/-- A slice of slices of bytes. -/
def Parts (w : World) (B : Nat) (A : Option Addr) (ps : List (List Int)) : Prop :=
  ∃ vs : List Value, Reads w B 1 A ps.length vs ∧ ∀ (i : Nat) (l : List Int), ps[i]? = some l → ∃ (X : Option Addr) (c : Nat), vs[i]? = some (Value.slice X l.length c) ∧ Reads w B 1 X l.length (u8s l)
theorem Parts.keep {w w' : World} {B : Nat} {A : Option Addr} {ps : List (List Int)} (h : Parts w B A ps) (hk : ∀ p : Addr, p.block < B → w'.cell? p = w.cell? p) : Parts w' B A ps := by
  obtain ⟨vs, hr, hi⟩ := h
  exact ⟨vs, hr.keep hk, fun i l hl => by obtain ⟨X, c, e, hx⟩ := hi i l hl; exact ⟨X, c, e, hx.keep hk⟩⟩
theorem Parts.below {w w' : World} {B : Nat} {A : Option Addr} {ps : List (List Int)} (h : Parts w B A ps) (hb : Below B w w') : Parts w' B A ps := h.keep fun _ hp => hb.cell hp
theorem Parts.more {w : World} {B B' : Nat} {A : Option Addr} {ps : List (List Int)} (h : Parts w B A ps) (hB : B ≤ B') : Parts w B' A ps := by
  obtain ⟨vs, hr, hi⟩ := h
  exact ⟨vs, hr.more hB, fun i l hl => by obtain ⟨X, c, e, hx⟩ := hi i l hl; exact ⟨X, c, e, hx.more hB⟩⟩
theorem Parts.at_ {w : World} {B : Nat} {A : Option Addr} {ps : List (List Int)} (h : Parts w B A ps) {i : Nat} {l : List Int} (hi : ps[i]? = some l) :
    ∃ ad X c, A = some ad ∧ ad.block < B ∧ w.cell? (ad.add i) = some (.slice X l.length c) ∧ Reads w B 1 X l.length (u8s l) := by
  obtain ⟨vs, hr, hv⟩ := h
  obtain ⟨X, c, e, hx⟩ := hv i l hi
  have hlt : i < ps.length := (List.getElem?_eq_some_iff.1 hi).1
  obtain ⟨ad, u, rfl, hb, hu, hc⟩ := hr.at_ hlt
  rw [e] at hu
  cases hu
  exact ⟨ad, X, c, rfl, hb, hc, hx⟩

/-! Boxes over calls. -/
theorem cell_lt {w : World} {a : Addr} {v : Value} (h : w.cell? a = some v) : a.block < w.heap.size := by
  rcases Nat.lt_or_ge a.block w.heap.size with h1 | h1
  · exact h1
  · simp [World.cell?, Array.getElem?_eq_none h1] at h
theorem keep_cell {W W' : World} {a : Addr} {v : Value} (h : W.cell? a = some v) (hB : Below W.heap.size W W') : W'.cell? a = some v := (hB.cell (cell_lt h)).trans h
theorem cell_over {W : World} {a : Addr} {v : Value} (o : Obj) (h : W.cell? a = some v) : (W.alloc o).cell? a = some v := by
  rw [← h]; exact World.cell?_alloc_lt W o a (cell_lt h)
theorem box0 (W : World) (t : TypeId) (cs : Array Value) (j : Nat) : (W.alloc (.cells cs t)).cell? ⟨W.heap.size, j, none⟩ = cs[j]? := (Blk.new W t cs).cell j
theorem box1 (W : World) (t : TypeId) (cs : Array Value) (j : Nat) {o : Obj} : ((W.alloc o).alloc (.cells cs t)).cell? ⟨W.heap.size + 1, j, none⟩ = cs[j]? := by
  have h := (Blk.new (W.alloc o) t cs).cell j
  rwa [World.size_alloc] at h
theorem box2 (W : World) (t : TypeId) (cs : Array Value) (j : Nat) {o o' : Obj} : (((W.alloc o).alloc o').alloc (.cells cs t)).cell? ⟨W.heap.size + 1 + 1, j, none⟩ = cs[j]? := by
  have h := (Blk.new ((W.alloc o).alloc o') t cs).cell j
  rwa [World.size_alloc, World.size_alloc] at h
theorem box3 (W : World) (t : TypeId) (cs : Array Value) (j : Nat) {o o' o'' : Obj} : ((((W.alloc o).alloc o').alloc o'').alloc (.cells cs t)).cell? ⟨W.heap.size + 1 + 1 + 1, j, none⟩ = cs[j]? := by
  have h := (Blk.new (((W.alloc o).alloc o').alloc o'') t cs).cell j
  rwa [World.size_alloc, World.size_alloc, World.size_alloc] at h
theorem blk1 (W : World) (t : TypeId) (cs : Array Value) {o : Obj} : Blk ((W.alloc o).alloc (.cells cs t)) (W.heap.size + 1) t cs := by
  have h := Blk.new (W.alloc o) t cs
  rwa [World.size_alloc] at h
theorem blk2 (W : World) (t : TypeId) (cs : Array Value) {o o' : Obj} : Blk (((W.alloc o).alloc o').alloc (.cells cs t)) (W.heap.size + 1 + 1) t cs := by
  have h := Blk.new ((W.alloc o).alloc o') t cs
  rwa [World.size_alloc, World.size_alloc] at h
theorem blk3 (W : World) (t : TypeId) (cs : Array Value) {o o' o'' : Obj} : Blk ((((W.alloc o).alloc o').alloc o'').alloc (.cells cs t)) (W.heap.size + 1 + 1 + 1) t cs := by
  have h := Blk.new (((W.alloc o).alloc o').alloc o'') t cs
  rwa [World.size_alloc, World.size_alloc, World.size_alloc] at h
theorem below_up {w W W' : World} (h : Below w.heap.size w W) (h2 : Below W.heap.size W W') : Below w.heap.size w W' := h.trans (h2.mono h.size)
theorem below_alloc {w W : World} {o : Obj} (h : Below w.heap.size w W) : Below w.heap.size w (W.alloc o) := h.alloc h.size o

/-! What each world of a region that draws its order keeps: cells, and all that was there. -/
def Cells (W : World) : List (Addr × Value) → Prop
  | [] => True
  | [p] => W.cell? p.1 = some p.2
  | p :: q :: l => W.cell? p.1 = some p.2 ∧ Cells W (q :: l)
theorem Cells.imp {W W' : World} (h : ∀ a v, W.cell? a = some v → W'.cell? a = some v) : ∀ l, Cells W l → Cells W' l
  | [], _ => trivial
  | [p], k => h _ _ k
  | p :: q :: l, k => ⟨h _ _ k.1, Cells.imp h (q :: l) k.2⟩
def KeptL (w : World) (fs : List (Addr × Value)) (W : World) : Prop := Below w.heap.size w W ∧ Cells W fs
theorem KeptL.drew {w W : World} {fs : List (Addr × Value)} (h : KeptL w fs W) : KeptL w fs W.drew := ⟨h.1.drew, Cells.imp (W := W) (W' := W.drew) (fun _ _ k => k) fs h.2⟩
theorem KeptL.alloc {w W : World} {fs : List (Addr × Value)} (h : KeptL w fs W) (o : Obj) : KeptL w fs (W.alloc o) := ⟨below_alloc h.1, Cells.imp (fun _ _ k => cell_over o k) fs h.2⟩
theorem KeptL.up {w W W' : World} {fs : List (Addr × Value)} (h : KeptL w fs W) (hB : Below W.heap.size W W') : KeptL w fs W' := ⟨below_up h.1 hB, Cells.imp (fun _ _ k => keep_cell k hB) fs h.2⟩
end Go.Proofs.YtfpljpdjohmbaaaGreat.Mem
/-! What every law's row wants beside its walk: the arguments read behind the call as they read before, where nothing below the heap's old size has turned; how arguments of the types that occur are opened. No conditions but those named. -/
namespace Go.Proofs.YtfpljpdjohmbaaaGreat.Lay
open Go.ChangeShapes Go.WideShapes Go.ChangeAt Go.RowKit Go.Joins Go.Deep Mem
set_option linter.unusedVariables false

theorem own : ownKnob Tryz.prog.godebug = none := by kernel_rfl
theorem laidOut : laidOutB Tryz.prog = true := by kernel_rfl

/-- All arguments read as they did. -/
theorem trodAll_below {H : Type} {enc : TypeId × Value → H} {P : Program} (hl : laidOutB P = true) {W W' : World} :
    ∀ {ts : List TypeId} {vs : List Value} {ds : List (DataW H)} {ps : List MemPlace}, (∀ t ∈ ts, P.readableRec t = true ∧ t < P.types.size) →
    DataW.TrodAll enc P W 0 (fun _ => true) true ts vs ds ps → Below W.heap.size W W' → (∀ x ∈ ps, x.block < W.heap.size) →
    DataW.TrodAll enc P W' 0 (fun b => decide (b < W.heap.size)) true ts vs ds ps
  | [], vs, ds, ps, _, h, _, _ => by obtain ⟨rfl, rfl, rfl⟩ := trodAll_nil h; exact trodAll_mk0
  | t :: ts, vs, ds, ps, hok, h, hb, hlt => by
    obtain ⟨v, vs', d, ds', p, q, rfl, rfl, rfl, h0, r0⟩ := trodAll_cons h
    have h1 := Below.trod hl (hok t (by simp)).1 (hok t (by simp)).2 h0 hb (fun x hx => hlt x (by simp [hx]))
    exact trodAll_cons_mk h1 (trodAll_below hl (fun u hu => hok u (by simp [hu])) r0 hb (fun x hx => hlt x (by simp [hx])))

theorem block_of_cell {W : World} {a : Addr} {v : Value} (h : W.cell? a = some v) : a.block < W.heap.size := by
  rcases Nat.lt_or_ge a.block W.heap.size with h1 | h1
  · exact h1
  · simp [World.cell?, Array.getElem?_eq_none h1] at h

/-- An argument that is a slice of integers: nil let in. -/
theorem open_row {H : Type} {enc : TypeId × Value → H} {P : Program} {W : World} {r : Reach} {b0 : Nat} {t e : TypeId} {k : IntKind} {v : Value} {d : DataW H} {p : List MemPlace} {sp : Nat → Bool} {held : Bool}
    (ht : P.underlying t = some (.slice e)) (he : P.underlying e = some (.int k)) (hC : P.cellsOf e = 1) (hv : Value.okWide P W r b0 t v) (h : DataW.Trod enc P W 0 sp held t v d p) :
    ∃ (X : Option Addr) (c : Nat) (l : List Int), v = .slice X l.length c ∧ l.length ≤ c ∧ c ≤ maxLen ∧ Reads W W.heap.size 1 X l.length (l.map (Value.int k)) ∧ ∀ n ∈ l, (Lit.int k n).wf = true := by
  obtain ⟨X, len, cap, rfl⟩ := okWide_slice ht hv
  obtain ⟨fuel, hf⟩ := h
  rcases open_ints ht he hC hf with ⟨hcs, _⟩ | ⟨x, l, c, zs, hcs, _, hl, hm, hz, _, hcell, hwz⟩
  · simp [Value.cells] at hcs
    obtain ⟨rfl, rfl, rfl⟩ := hcs
    exact ⟨none, 0, [], rfl, by simp, by simp [maxLen], Reads.none_, by simp⟩
  · simp [Value.cells] at hcs
    obtain ⟨rfl, rfl, rfl⟩ := hcs
    have hlen : (zs.take len).length = len := by
      have : len ≤ zs.length := by
        rw [hz]; split <;> omega
      simp; omega
    refine ⟨some x, cap, zs.take len, by rw [hlen], by omega, hm, ⟨by simp, fun hn => ⟨x, rfl, ?_, ?_⟩⟩, fun n hn => hwz n (List.mem_of_mem_take hn)⟩
    · rw [hlen] at hn
      have h0 := hcell 0 (by rw [hz]; split <;> omega)
      have := block_of_cell h0
      rwa [block_of_add] at this
    · intro j u hu
      rw [List.getElem?_map] at hu
      rcases Nat.lt_or_ge j len with hj | hj
      · have hj2 : j < zs.length := by rw [hz]; split <;> omega
        rw [List.getElem?_take, if_pos hj, List.getElem?_eq_getElem hj2] at hu
        simp at hu
        rw [hcell j hj2, ← hu, List.getD_eq_getElem?_getD, List.getElem?_eq_getElem hj2]
        rfl
      · rw [List.getElem?_take, if_neg (by omega)] at hu
        simp at hu

/-- An argument that is a struct of two integers, by value. -/
theorem open_pair {H : Type} {enc : TypeId × Value → H} {P : Program} {W : World} {r : Reach} {b0 : Nat} {t : TypeId} {f0 f1 : Field} {k : IntKind} {v : Value} {d : DataW H} {p : List MemPlace} {sp : Nat → Bool} {held : Bool}
    (hs : P.underlying t = some (.struct #[f0, f1])) (h0 : P.underlying f0.type = some (.int k)) (h1 : P.underlying f1.type = some (.int k)) (hone : oneCellFields P #[f0, f1] = true) (hC : P.cellsOf t = 2)
    (hv : Value.okWide P W r b0 t v) (h : DataW.Trod enc P W 0 sp held t v d p) :
    ∃ a b : Int, v = .agg #[.int k a, .int k b] ∧ (Lit.int k a).wf = true ∧ (Lit.int k b).wf = true := by
  obtain ⟨c0, c1, y0, y1, m, rfl, rfl, rfl, hy0, hy1⟩ := open_agg2 hs hone hC hv h
  obtain ⟨a, e0, _, wa⟩ := DataW.trod_int h0 hy0
  obtain ⟨b, e1, _, wb⟩ := DataW.trod_int h1 hy1
  simp at e0 e1
  subst e0 e1
  exact ⟨a, b, rfl, wa, wb⟩
end Go.Proofs.YtfpljpdjohmbaaaGreat.Lay
/-! Small words for a caller of an iterator: a new box's cell, kept over new blocks. No conditions but those named. -/
namespace Go.Proofs.YtfpljpdjohmbaaaGreat.SeqKit
open Go.RowKit Go.Shelf Mem
set_option linter.unusedVariables false

theorem box_new (W : World) (v : Value) (t : TypeId) : (W.alloc (.cells #[v] t)).cell? ⟨W.heap.size, 0, none⟩ = some v ∧ (W.alloc (.cells #[v] t)).frozen? ⟨W.heap.size, 0, none⟩ = false :=
  ⟨(Blk.new W t #[v]).cell 0, (Blk.new W t #[v]).frozen 0⟩
theorem frozen_over {W : World} {a : Addr} {v : Value} (o : Obj) (h : W.cell? a = some v) (hf : W.frozen? a = false) : (W.alloc o).frozen? a = false := by
  have hlt : a.block < W.heap.size := by
    rcases Nat.lt_or_ge a.block W.heap.size with h1 | h1
    · exact h1
    · simp [World.cell?, Array.getElem?_eq_none h1] at h
  rw [← hf]; exact ((Below.refl a.block.succ W).alloc (by omega) o).frozen (p := a) (by omega)
end Go.Proofs.YtfpljpdjohmbaaaGreat.SeqKit
/-! Plain words for rotations: wants, their order, the six rotations, the one rising list of them. No program in sight. -/
namespace Go.Proofs.YtfpljpdjohmbaaaGreat.TurnMath
open Go.RowKit Mem
set_option linter.unusedVariables false
set_option linter.unusedSimpArgs false

/-- What is asked for: a shape, along which axes it is a torus, whether it may be turned. -/
structure WV where
  a : Int
  b : Int
  c : Int
  p : Bool
  q : Bool
  r : Bool
  tn : Bool
deriving DecidableEq, Inhabited
def WV.cells (x : WV) : List Value := [.int .i64 x.a, .int .i64 x.b, .int .i64 x.c, .bool x.p, .bool x.q, .bool x.r, .bool x.tn]
def WV.arr (x : WV) : Array Value := #[.int .i64 x.a, .int .i64 x.b, .int .i64 x.c, .bool x.p, .bool x.q, .bool x.r, .bool x.tn]
def inD (n : Int) : Prop := 1 ≤ n ∧ n ≤ 16
instance (n : Int) : Decidable (inD n) := by unfold inD; infer_instance
def WOk (x : WV) : Prop := inD x.a ∧ inD x.b ∧ inD x.c
instance (x : WV) : Decidable (WOk x) := by unfold WOk; infer_instance
def bitI (b : Bool) : Int := if b then 1 else 0
theorem bitI_01 (b : Bool) : bitI b = 0 ∨ bitI b = 1 := by cases b <;> simp [bitI]
theorem bitI_inj {b c : Bool} (h : bitI b = bitI c) : b = c := by cases b <;> cases c <;> simp [bitI] at h ⊢
/-- Its number: greater just if it is behind. -/
def numW (x : WV) : Int := (((((x.a * 17 + x.b) * 17 + x.c) * 2 + bitI x.p) * 2 + bitI x.q) * 2 + bitI x.r)
def cmpI (x y : Int) : Int := if x < y then -1 else if y < x then 1 else 0
def cmpW (x y : WV) : Int :=
  if cmpI x.a y.a ≠ 0 then cmpI x.a y.a else if cmpI x.b y.b ≠ 0 then cmpI x.b y.b else if cmpI x.c y.c ≠ 0 then cmpI x.c y.c else
  if cmpI (bitI x.p) (bitI y.p) ≠ 0 then cmpI (bitI x.p) (bitI y.p) else if cmpI (bitI x.q) (bitI y.q) ≠ 0 then cmpI (bitI x.q) (bitI y.q) else cmpI (bitI x.r) (bitI y.r)
theorem cmpI_eq (x y : Int) : (x < y ∧ cmpI x y = -1) ∨ (x = y ∧ cmpI x y = 0) ∨ (y < x ∧ cmpI x y = 1) := by
  unfold cmpI
  split
  · left; omega
  · split
    · right; right; omega
    · right; left; omega
theorem cmpW_num {x y : WV} (hx : WOk x) (hy : WOk y) : cmpW x y = cmpI (numW x) (numW y) := by
  obtain ⟨⟨a1, a2⟩, ⟨b1, b2⟩, ⟨c1, c2⟩⟩ := hx
  obtain ⟨⟨d1, d2⟩, ⟨e1, e2⟩, ⟨f1, f2⟩⟩ := hy
  have p1 := bitI_01 x.p
  have p2 := bitI_01 x.q
  have p3 := bitI_01 x.r
  have q1 := bitI_01 y.p
  have q2 := bitI_01 y.q
  have q3 := bitI_01 y.r
  unfold cmpW numW
  generalize bitI x.p = xp at *
  generalize bitI x.q = xq at *
  generalize bitI x.r = xr at *
  generalize bitI y.p = yp at *
  generalize bitI y.q = yq at *
  generalize bitI y.r = yr at *
  generalize x.a = xa at *
  generalize x.b = xb at *
  generalize x.c = xc at *
  generalize y.a = ya at *
  generalize y.b = yb at *
  generalize y.c = yc at *
  rcases cmpI_eq xa ya with ⟨h, e⟩ | ⟨h, e⟩ | ⟨h, e⟩ <;> rw [e]
  · rw [if_pos (by decide)]; unfold cmpI; rw [if_pos (by omega)]
  · rw [if_neg (by decide)]
    rcases cmpI_eq xb yb with ⟨h', e⟩ | ⟨h', e⟩ | ⟨h', e⟩ <;> rw [e]
    · rw [if_pos (by decide)]; unfold cmpI; rw [if_pos (by omega)]
    · rw [if_neg (by decide)]
      rcases cmpI_eq xc yc with ⟨h'', e⟩ | ⟨h'', e⟩ | ⟨h'', e⟩ <;> rw [e]
      · rw [if_pos (by decide)]; unfold cmpI; rw [if_pos (by omega)]
      · rw [if_neg (by decide)]
        rcases cmpI_eq xp yp with ⟨g, e⟩ | ⟨g, e⟩ | ⟨g, e⟩ <;> rw [e]
        · rw [if_pos (by decide)]; unfold cmpI; rw [if_pos (by omega)]
        · rw [if_neg (by decide)]
          rcases cmpI_eq xq yq with ⟨g', e⟩ | ⟨g', e⟩ | ⟨g', e⟩ <;> rw [e]
          · rw [if_pos (by decide)]; unfold cmpI; rw [if_pos (by omega)]
          · rw [if_neg (by decide)]
            unfold cmpI
            have : (xr < yr) = ((((((xa * 17 + xb) * 17 + xc) * 2 + xp) * 2 + xq) * 2 + xr) < (((((ya * 17 + yb) * 17 + yc) * 2 + yp) * 2 + yq) * 2 + yr)) := by
              apply propext; constructor <;> intro <;> omega
            have h2 : (yr < xr) = ((((((ya * 17 + yb) * 17 + yc) * 2 + yp) * 2 + yq) * 2 + yr) < (((((xa * 17 + xb) * 17 + xc) * 2 + xp) * 2 + xq) * 2 + xr)) := by
              apply propext; constructor <;> intro <;> omega
            simp only [this, h2]
          · rw [if_pos (by decide)]; unfold cmpI; rw [if_neg (by omega), if_pos (by omega)]
        · rw [if_pos (by decide)]; unfold cmpI; rw [if_neg (by omega), if_pos (by omega)]
      · rw [if_pos (by decide)]; unfold cmpI; rw [if_neg (by omega), if_pos (by omega)]
    · rw [if_pos (by decide)]; unfold cmpI; rw [if_neg (by omega), if_pos (by omega)]
  · rw [if_pos (by decide)]; unfold cmpI; rw [if_neg (by omega), if_pos (by omega)]
theorem num_inj {x y : WV} (hx : WOk x) (hy : WOk y) (ht : x.tn = y.tn) (h : numW x = numW y) : x = y := by
  obtain ⟨⟨a1, a2⟩, ⟨b1, b2⟩, ⟨c1, c2⟩⟩ := hx
  obtain ⟨⟨d1, d2⟩, ⟨e1, e2⟩, ⟨f1, f2⟩⟩ := hy
  have p1 := bitI_01 x.p
  have p2 := bitI_01 x.q
  have p3 := bitI_01 x.r
  have q1 := bitI_01 y.p
  have q2 := bitI_01 y.q
  have q3 := bitI_01 y.r
  unfold numW at h
  obtain ⟨xa, xb, xc, xp, xq, xr, xt⟩ := x
  obtain ⟨ya, yb, yc, yp, yq, yr, yt⟩ := y
  dsimp only at *
  have r1 : xa = ya := by omega
  have r2 : xb = yb := by omega
  have r3 : xc = yc := by omega
  have r4 := bitI_inj (b := xp) (c := yp) (by omega)
  have r5 := bitI_inj (b := xq) (c := yq) (by omega)
  have r6 := bitI_inj (b := xr) (c := yr) (by omega)
  subst r1 r2 r3 r4 r5 r6 ht
  rfl
/-- The six rotations, in the order of the axes' orders. -/
def perm (w : WV) : Nat → WV
  | 0 => w
  | 1 => ⟨w.a, w.c, w.b, w.p, w.r, w.q, w.tn⟩
  | 2 => ⟨w.b, w.a, w.c, w.q, w.p, w.r, w.tn⟩
  | 3 => ⟨w.b, w.c, w.a, w.q, w.r, w.p, w.tn⟩
  | 4 => ⟨w.c, w.a, w.b, w.r, w.p, w.q, w.tn⟩
  | _ => ⟨w.c, w.b, w.a, w.r, w.q, w.p, w.tn⟩
def rots (w : WV) : List WV := [perm w 0, perm w 1, perm w 2, perm w 3, perm w 4, perm w 5]
theorem mem_rots {w x : WV} : x ∈ rots w ↔ ∃ k, k ≤ 5 ∧ x = perm w k := by
  unfold rots
  constructor
  · intro h
    simp only [List.mem_cons, List.not_mem_nil, or_false] at h
    rcases h with h | h | h | h | h | h
    · exact ⟨0, by omega, h⟩
    · exact ⟨1, by omega, h⟩
    · exact ⟨2, by omega, h⟩
    · exact ⟨3, by omega, h⟩
    · exact ⟨4, by omega, h⟩
    · exact ⟨5, by omega, h⟩
  · rintro ⟨k, hk, rfl⟩
    match k, hk with
    | 0, _ => simp
    | 1, _ => simp
    | 2, _ => simp
    | 3, _ => simp
    | 4, _ => simp
    | 5, _ => simp
theorem perm_ok {w : WV} (h : WOk w) (k : Nat) : WOk (perm w k) := by
  obtain ⟨h1, h2, h3⟩ := h
  match k with
  | 0 => exact ⟨h1, h2, h3⟩
  | 1 => exact ⟨h1, h3, h2⟩
  | 2 => exact ⟨h2, h1, h3⟩
  | 3 => exact ⟨h2, h3, h1⟩
  | 4 => exact ⟨h3, h1, h2⟩
  | k + 5 => exact ⟨h3, h2, h1⟩
theorem perm_tn (w : WV) (k : Nat) : (perm w k).tn = w.tn := by
  match k with
  | 0 | 1 | 2 | 3 | 4 | k + 5 => rfl
theorem rots_ok {w x : WV} (h : WOk w) (hx : x ∈ rots w) : WOk x ∧ x.tn = w.tn := by
  obtain ⟨k, _, rfl⟩ := mem_rots.1 hx
  exact ⟨perm_ok h k, perm_tn w k⟩
/-- Rising, each once. -/
def Rising (l : List WV) : Prop := l.Pairwise fun x y => numW x < numW y
/-- The list of a set. -/
def IsAll (w : WV) (l : List WV) : Prop := Rising l ∧ ∀ x, x ∈ l ↔ if w.tn = true then x ∈ rots w else x = w
theorem rising_ext : ∀ {l m : List WV}, Rising l → Rising m → (∀ x, x ∈ l ↔ x ∈ m) → l = m
  | [], [], _, _, _ => rfl
  | [], y :: m, _, _, h => by have := (h y).2 (List.mem_cons_self ..); cases this
  | x :: l, [], _, _, h => by have := (h x).1 (List.mem_cons_self ..); cases this
  | x :: l, y :: m, hl, hm, h => by
    have hl' := List.pairwise_cons.1 hl
    have hm' := List.pairwise_cons.1 hm
    have e : x = y := by
      rcases List.mem_cons.1 ((h x).1 (List.mem_cons_self ..)) with e | e
      · exact e
      · rcases List.mem_cons.1 ((h y).2 (List.mem_cons_self ..)) with e2 | e2
        · exact e2.symm
        · have h1 := hm'.1 x e
          have h2 := hl'.1 y e2
          omega
    subst e
    refine congrArg (x :: ·) (rising_ext hl'.2 hm'.2 fun z => ?_)
    constructor
    · intro hz
      rcases List.mem_cons.1 ((h z).1 (List.mem_cons_of_mem _ hz)) with e | e
      · subst e; have := hl'.1 z hz; omega
      · exact e
    · intro hz
      rcases List.mem_cons.1 ((h z).2 (List.mem_cons_of_mem _ hz)) with e | e
      · subst e; have := hm'.1 z hz; omega
      · exact e
theorem isAll_ext {w : WV} {l m : List WV} (hl : IsAll w l) (hm : IsAll w m) : l = m :=
  rising_ext hl.1 hm.1 fun x => (hl.2 x).trans (hm.2 x).symm
/-- A rising list with one more. -/
def put (x : WV) : List WV → List WV
  | [] => [x]
  | y :: l => if y = x then y :: l else if numW x < numW y then x :: y :: l else y :: put x l
theorem put_mem {x z : WV} : ∀ {l : List WV}, z ∈ put x l ↔ z = x ∨ z ∈ l
  | [] => by simp [put]
  | y :: l => by
    unfold put
    split
    · rename_i e; subst e; simp
    · split
      · simp
      · simp only [List.mem_cons, put_mem (l := l)]
        constructor
        · rintro (h | h | h)
          · exact .inr (.inl h)
          · exact .inl h
          · exact .inr (.inr h)
        · rintro (h | h | h)
          · exact .inr (.inl h)
          · exact .inl h
          · exact .inr (.inr h)
theorem put_rising {x : WV} (hx : WOk x) : ∀ {l : List WV}, Rising l → (∀ z ∈ l, WOk z ∧ z.tn = x.tn) → Rising (put x l)
  | [], _, _ => by simp [put, Rising]
  | y :: l, hl, hok => by
    have hl' := List.pairwise_cons.1 hl
    unfold put
    split
    · exact hl
    · rename_i hne
      split
      · rename_i hlt
        refine List.pairwise_cons.2 ⟨fun z hz => ?_, hl⟩
        rcases List.mem_cons.1 hz with e | e
        · rw [e]; exact hlt
        · have := hl'.1 z e; omega
      · rename_i hge
        have hy := hok y (List.mem_cons_self ..)
        have hne' : numW y ≠ numW x := fun e => hne (num_inj hy.1 hx hy.2 e)
        refine List.pairwise_cons.2 ⟨fun z hz => ?_, put_rising hx hl'.2 fun z hz => hok z (List.mem_cons_of_mem _ hz)⟩
        rcases put_mem.1 hz with e | e
        · rw [e]; omega
        · exact hl'.1 z e
/-- All: the one rising list. -/
def allL (w : WV) : List WV := if w.tn = true then (rots w).foldl (fun l x => put x l) [] else [w]
theorem fold_put {w : WV} (h : WOk w) : ∀ (xs l : List WV), (∀ x ∈ xs, WOk x ∧ x.tn = w.tn) → Rising l → (∀ x ∈ l, WOk x ∧ x.tn = w.tn) →
    Rising (xs.foldl (fun l x => put x l) l) ∧ (∀ z, z ∈ xs.foldl (fun l x => put x l) l ↔ z ∈ xs ∨ z ∈ l)
  | [], l, _, hl, _ => ⟨hl, by simp⟩
  | x :: xs, l, hx, hl, hok => by
    have h0 := hx x (List.mem_cons_self ..)
    have h1 := put_rising h0.1 hl fun z hz => ⟨(hok z hz).1, (hok z hz).2.trans h0.2.symm⟩
    have := fold_put h xs (put x l) (fun z hz => hx z (List.mem_cons_of_mem _ hz)) h1 (fun z hz => by
      rcases put_mem.1 hz with e | e
      · rw [e]; exact h0
      · exact hok z e)
    refine ⟨this.1, fun z => (this.2 z).trans ?_⟩
    simp only [put_mem, List.mem_cons]
    constructor
    · rintro (h | h | h)
      · exact .inl (.inr h)
      · exact .inl (.inl h)
      · exact .inr h
    · rintro ((h | h) | h)
      · exact .inr (.inl h)
      · exact .inl h
      · exact .inr (.inr h)
theorem allL_is {w : WV} (h : WOk w) : IsAll w (allL w) := by
  unfold IsAll allL
  by_cases ht : w.tn = true
  · simp only [ht, if_true]
    have := fold_put h (rots w) [] (fun x hx => rots_ok h hx) List.Pairwise.nil (fun x hx => by cases hx)
    exact ⟨this.1, fun z => by rw [this.2 z]; simp⟩
  · simp only [ht, if_false]
    exact ⟨by simp [Rising], fun x => by simp⟩
theorem allL_ok {w x : WV} (h : WOk w) (hx : x ∈ allL w) : WOk x ∧ x.tn = w.tn := by
  have := ((allL_is h).2 x).1 hx
  split at this
  · exact rots_ok h this
  · subst this; exact ⟨h, rfl⟩
theorem eq_allL {w : WV} (h : WOk w) {l : List WV} (hl : IsAll w l) : l = allL w := isAll_ext hl (allL_is h)
/-- Any list of which the set is known, once it rises. -/
theorem allL_of {w : WV} (h : WOk w) {l : List WV} (ht : w.tn = true) (hr : Rising l) (hm : ∀ x, x ∈ l ↔ x ∈ rots w) : l = allL w :=
  eq_allL h ⟨hr, fun x => by rw [hm x, if_pos ht]⟩
/-- Sorted, each once: rising. -/
theorem rising_of {l : List WV} (hok : ∀ x ∈ l, WOk x) (htn : ∀ x ∈ l, ∀ y ∈ l, x.tn = y.tn) (hn : l.Nodup) (hs : l.Pairwise fun x y => ¬ cmpW y x < 0) : Rising l := by
  induction l with
  | nil => exact List.Pairwise.nil
  | cons x l ih =>
    have hn' := List.nodup_cons.1 hn
    have hs' := List.pairwise_cons.1 hs
    refine List.pairwise_cons.2 ⟨fun y hy => ?_, ih (fun z hz => hok z (List.mem_cons_of_mem _ hz)) (fun z hz u hu => htn z (List.mem_cons_of_mem _ hz) u (List.mem_cons_of_mem _ hu)) hn'.2 hs'.2⟩
    have h1 := hs'.1 y hy
    have ox := hok x (List.mem_cons_self ..)
    have oy := hok y (List.mem_cons_of_mem _ hy)
    rw [cmpW_num oy ox] at h1
    have hne : numW x ≠ numW y := fun e => by
      have := num_inj ox oy (htn x (List.mem_cons_self ..) y (List.mem_cons_of_mem _ hy)) e
      rw [this] at hn'
      exact hn'.1 hy
    rcases cmpI_eq (numW y) (numW x) with ⟨g, e⟩ | ⟨g, e⟩ | ⟨g, e⟩ <;> omega
end Go.Proofs.YtfpljpdjohmbaaaGreat.TurnMath
/-! '==' on structs and arrays of flat words, by the cells: two are equal just if their cells are. No conditions but the types'. -/
namespace Go.Proofs.YtfpljpdjohmbaaaGreat.EqDeep
set_option linter.unusedVariables false

theorem eq_of {P : Program} {t : TypeId} {m D D' : Nat} {xs ys : Array Value} {la lb : List Lit} (hk : P.keyTypeAt m t = true) (hm : m ≤ 10000)
    (hx : (Value.agg xs).formed P t = true) (hy : (Value.agg ys).formed P t = true) (kx : P.keyLits D t xs.toList = some la) (ky : P.keyLits D' t ys.toList = some lb) (b : Bool) (hb : b = true ↔ la = lb) (w : World) :
    (Op.equalIn 10000 t (.agg xs) (.agg ys)).run P w = .ok b w := by
  have h := run_equalIn_deep (10000 - m) m t hk
  rw [show 10000 - m + m = 10000 by omega] at h
  obtain ⟨r, hr, hi⟩ := h w D D' (.agg xs) (.agg ys) la lb hx hy kx ky
  rw [hr]
  have : r = b := by
    cases r <;> cases b
    · rfl
    · exact absurd (hi.2 (hb.1 rfl)) (by simp)
    · exact absurd (hb.2 (hi.1 rfl)) (by simp)
    · rfl
  rw [this]
theorem eq_self {P : Program} {t : TypeId} {m D : Nat} {xs : Array Value} {la : List Lit} (hk : P.keyTypeAt m t = true) (hm : m ≤ 10000)
    (hx : (Value.agg xs).formed P t = true) (kx : P.keyLits D t xs.toList = some la) (w : World) :
    (Op.equalIn 10000 t (.agg xs) (.agg xs)).run P w = .ok true w := eq_of hk hm hx hx kx kx true (by simp) w
end Go.Proofs.YtfpljpdjohmbaaaGreat.EqDeep
/-! A map whose keys are wants: what it holds, how it is written, how it is ranged over. No conditions but those named. -/
namespace Go.Proofs.YtfpljpdjohmbaaaGreat.TurnMap
open Go.RowKit Mem TurnMath Go.WideMaps Go.ChangeMaps
set_option linter.unusedVariables false
set_option linter.unusedSimpArgs false

abbrev WT : TypeId := 30
theorem law : KeyLaw Tryz.prog WT := deep_law_laid Lay.laidOut (m := 5) (by omega) (of_decide_eq_true (by kernel_rfl)) (by kernel_rfl) (by kernel_rfl)
theorem wf_of {n : Int} (h : inD n) : (Lit.int .i64 n).wf = true := by
  have e1 : IntKind.i64.min = -9223372036854775808 := by rfl
  have e2 : IntKind.i64.max = 9223372036854775807 := by rfl
  unfold inD at h; simp [Lit.wf, e1, e2]; omega
def litsOf (x : WV) : List Lit := [.int .i64 x.a, .int .i64 x.b, .int .i64 x.c, .bool x.p, .bool x.q, .bool x.r, .bool x.tn]
theorem k_int {D : Nat} {n : Int} (h : (Lit.int .i64 n).wf = true) : Tryz.prog.keyLits (D + 1) 3 [.int .i64 n] = some [.int .i64 n] := by
  unfold Program.keyLits
  rw [Tryz.underlying3]
  simp [h]
theorem k_bool {D : Nat} {b : Bool} : Tryz.prog.keyLits (D + 1) 4 [.bool b] = some [.bool b] := by
  unfold Program.keyLits
  rw [Tryz.underlying4]
theorem k_ints {D : Nat} {a b c : Int} (ha : (Lit.int .i64 a).wf = true) (hb : (Lit.int .i64 b).wf = true) (hc : (Lit.int .i64 c).wf = true) : Tryz.prog.keyLits (D + 2) 22 [.int .i64 a, .int .i64 b, .int .i64 c] = some [.int .i64 a, .int .i64 b, .int .i64 c] := by
  unfold Program.keyLits
  rw [Tryz.underlying22]
  have e : Tryz.prog.cellsOf 22 = 3 := by kernel_rfl
  have e1 : Tryz.prog.cellsOf 3 = 1 := by kernel_rfl
  simp [e, e1, List.range, List.range.loop, k_int ha, k_int hb, k_int hc]
theorem k_bools {D : Nat} {a b c : Bool} : Tryz.prog.keyLits (D + 2) 28 [.bool a, .bool b, .bool c] = some [.bool a, .bool b, .bool c] := by
  unfold Program.keyLits
  rw [Tryz.underlying28]
  have e : Tryz.prog.cellsOf 28 = 3 := by kernel_rfl
  have e1 : Tryz.prog.cellsOf 4 = 1 := by kernel_rfl
  simp [e, e1, List.range, List.range.loop, k_bool]
/-- Its numbers are machine words. -/
def WWf (x : WV) : Prop := (Lit.int .i64 x.a).wf = true ∧ (Lit.int .i64 x.b).wf = true ∧ (Lit.int .i64 x.c).wf = true
theorem wwf_of {x : WV} (h : WOk x) : WWf x := ⟨wf_of h.1, wf_of h.2.1, wf_of h.2.2⟩
theorem lits' {D : Nat} {x : WV} (h : WWf x) : Tryz.prog.keyLits (D + 3) WT x.arr.toList = some (litsOf x) := by
  unfold Program.keyLits
  rw [Tryz.underlying30]
  have e : Tryz.prog.cellsOf WT = 7 := by kernel_rfl
  have e1 : Tryz.prog.cellsOf 22 = 3 := by kernel_rfl
  have e2 : Tryz.prog.cellsOf 28 = 3 := by kernel_rfl
  have e3 : Tryz.prog.cellsOf 4 = 1 := by kernel_rfl
  simp [e, e1, e2, e3, WV.arr, k_ints h.1 h.2.1 h.2.2, k_bools, k_bool, litsOf]
theorem lits {D : Nat} {x : WV} (h : WOk x) : Tryz.prog.keyLits (D + 3) WT x.arr.toList = some (litsOf x) := lits' (wwf_of h)
theorem key_of {x : WV} (h : WOk x) : ∃ l, keyOf Tryz.prog WT (.agg x.arr) = some l := by
  unfold keyOf
  rw [Tryz.underlying30]
  have e : (Tryz.prog.keyType WT && (Value.agg x.arr).formed Tryz.prog WT) = true := by kernel_rfl
  have e2 : ∃ D, Tryz.prog.types.size + 1 = D + 3 := ⟨Tryz.prog.types.size - 2, by have : 2 ≤ Tryz.prog.types.size := (by decide +kernel); omega⟩
  obtain ⟨D, hD⟩ := e2
  simp only [e, if_true, Value.cells, hD]
  rw [lits h]
  exact ⟨_, rfl⟩
theorem arr_inj {x y : WV} (h : (Value.agg x.arr) = .agg y.arr) : x = y := by
  obtain ⟨_, _, _, _, _, _, _⟩ := x
  obtain ⟨_, _, _, _, _, _, _⟩ := y
  simpa [WV.arr] using h
/-- '==' of wants. -/
theorem eq_wants {x y : WV} (hx : WWf x) (hy : WWf y) (w : World) : (Op.equalIn 10000 WT (.agg x.arr) (.agg y.arr)).run Tryz.prog w = .ok (decide (x = y)) w :=
  EqDeep.eq_of (m := 5) (D := 3) (D' := 3) (la := litsOf x) (lb := litsOf y) (by kernel_rfl) (by omega) (by kernel_rfl) (by kernel_rfl) (lits' hx) (lits' hy) _ (by
    obtain ⟨_, _, _, _, _, _, _⟩ := x
    obtain ⟨_, _, _, _, _, _, _⟩ := y
    simp [litsOf]) w

/-! The map. -/
/-- A map of wants, each true, in the order in which they were laid. -/
def MapOf (w : World) (b : Nat) (ks : List WV) : Prop :=
  ∃ (es : Array MapEntry) (clock : Nat), w.heap[b]? = some (.map es clock) ∧ es.toList.map (·.key) = ks.map (fun x => Value.agg x.arr) ∧ (∀ e ∈ es.toList, e.val = .bool true) ∧ (es.toList.map (·.born)).Nodup ∧ (∀ e ∈ es.toList, e.born < clock) ∧
    ks.Nodup ∧ ∀ x ∈ ks, WOk x
theorem MapOf.new (w : World) : MapOf (w.alloc (.map #[] 0)) w.heap.size [] :=
  ⟨#[], 0, heap_alloc_new w _, rfl, (fun e h => by simp at h), List.nodup_nil, (fun e h => by simp at h), List.nodup_nil, (fun x h => by cases h)⟩
theorem MapOf.lt {w : World} {b : Nat} {ks : List WV} (h : MapOf w b ks) : b < w.heap.size := by
  obtain ⟨es, clock, hb, _⟩ := h
  exact (Array.getElem?_eq_some_iff.1 hb).1
theorem MapOf.same {w w' : World} {b : Nat} {ks : List WV} (h : MapOf w b ks) (e : w'.heap[b]? = w.heap[b]?) : MapOf w' b ks := by
  obtain ⟨es, clock, hb, h2⟩ := h
  exact ⟨es, clock, e.trans hb, h2⟩
theorem below_setBlock {B : Nat} {w W : World} {b : Nat} {o : Obj} (h : Below B w W) (hb : B ≤ b) : Below B w (setBlock W b o) :=
  ⟨h.os, h.tape, h.output, by simpa [setBlock] using h.size, fun k hk => by
    have : b ≠ k := by omega
    rw [← h.block k hk]
    simp [setBlock, Array.getElem?_setIfInBounds, this]⟩
def addK (ks : List WV) (x : WV) : List WV := if x ∈ ks then ks else ks ++ [x]
theorem upd {w : World} {b : Nat} {ks : List WV} {x : WV} {t : TypeId} {E : TypeId} (h : MapOf w b ks) (hx : WOk x) (ht : Tryz.prog.underlying t = some (.map WT E)) :
    ∃ o, (Instr.mapUpdate t (.map (some b)) (.agg x.arr) (.bool true)).run Tryz.prog w = .ok () (setBlock w b o) ∧ MapOf (setBlock w b o) b (addK ks x) := by
  obtain ⟨es, clock, hb, hk, hv, hn, hc, hnd, hok⟩ := h
  have hlt : b < w.heap.size := (Array.getElem?_eq_some_iff.1 hb).1
  obtain ⟨lx, hlx⟩ := key_of hx
  have hkeys : ∀ e ∈ es.toList, ∃ y ∈ ks, e.key = .agg y.arr := fun e he => by
    have : e.key ∈ es.toList.map (·.key) := List.mem_map.2 ⟨e, he, rfl⟩
    rw [hk] at this
    obtain ⟨y, hy, e2⟩ := List.mem_map.1 this
    exact ⟨y, hy, e2.symm⟩
  have hset : ∀ o : Obj, (setObj b o).run Tryz.prog w = .ok () (setBlock w b o) := fun o => by simp [setObj, Sem.run, hb, setBlock]
  have hget : ∀ o : Obj, (setBlock w b o).heap[b]? = some o := fun o => by simp [setBlock, Array.getElem?_setIfInBounds, hlt]
  have hrun : ∀ (r : Option (Nat × Value)), (Instr.findKey WT (.agg x.arr) es.toList).run Tryz.prog w = .ok r w →
      (Instr.mapUpdate t (.map (some b)) (.agg x.arr) (.bool true)).run Tryz.prog w = (match r with
        | some (i, _) => ((Instr.keyThatStays (((es[i]?).map (·.key)).getD (.agg x.arr)) (.agg x.arr)).run Tryz.prog w).andThen fun key w' => (setObj b (.map (es.modify i fun e => { e with key, val := .bool true }) clock)).run Tryz.prog w'
        | none => .ok () (setBlock w b (.map (es.push { key := .agg x.arr, val := .bool true, born := clock }) (clock + 1)))) := fun r hr => by
    simp only [Instr.mapUpdate, Sem.run_bind, run_underlying ht, Result.andThen_ok, getObj, Sem.run, hb]
    simp only [Result.andThen, law.check w false hlx, hr]
    cases r with
    | none => exact hset _
    | some p => obtain ⟨i, v⟩ := p; simp only [Sem.run_bind]; rfl
  rcases law.find w hlx es.toList (fun e he => by obtain ⟨y, hy, e2⟩ := hkeys e he; rw [e2]; exact key_of (hok y hy)) with ⟨hf, hne⟩ | ⟨j, e, hf, hj, he⟩
  · have hx' : x ∉ ks := fun hm => by
      have : Value.agg x.arr ∈ es.toList.map (·.key) := by rw [hk]; exact List.mem_map.2 ⟨x, hm, rfl⟩
      obtain ⟨e, he, e2⟩ := List.mem_map.1 this
      exact hne e he e2
    refine ⟨_, hrun _ hf, ?_⟩
    refine ⟨_, _, hget _, ?_, ?_, ?_, ?_, ?_, ?_⟩
    · simp [addK, hx', hk]
    · intro e he
      simp at he
      rcases he with he | he
      · exact hv e (by simpa using he)
      · rw [he]
    · simp only [Array.toList_push, List.map_append, List.map_cons, List.map_nil]
      rw [List.nodup_append]
      refine ⟨hn, by simp, ?_⟩
      intro a ha c hc2
      simp at hc2
      subst hc2
      obtain ⟨e, he, rfl⟩ := List.mem_map.1 ha
      have := hc e he
      omega
    · intro e he
      simp at he
      rcases he with he | he
      · have := hc e (by simpa using he); omega
      · rw [he]; simp
    · simp only [addK, hx', if_false]
      rw [List.nodup_append]
      refine ⟨hnd, by simp, ?_⟩
      intro a ha c hc2
      simp at hc2
      subst hc2
      intro e
      subst e
      exact hx' ha
    · intro y hy
      simp only [addK, hx', if_false, List.mem_append, List.mem_singleton] at hy
      rcases hy with hy | hy
      · exact hok y hy
      · rw [hy]; exact hx
  · have hx' : x ∈ ks := by
      obtain ⟨y, hy, e2⟩ := hkeys e (List.mem_of_getElem? hj)
      rw [he] at e2
      rw [arr_inj e2]
      exact hy
    have hj' : es[j]? = some e := by rw [← Array.getElem?_toList]; exact hj
    have hmod : es.modify j (fun e => { e with key := .agg x.arr, val := .bool true }) = es := by
      apply Array.ext_getElem?
      intro i
      rw [Array.getElem?_modify]
      split
      · rename_i hij
        subst hij
        rw [hj']
        have hv' := hv e (List.mem_of_getElem? hj)
        obtain ⟨k0, v0, b0⟩ := e
        simp at he hv'
        simp [he, hv']
      · rfl
    refine ⟨.map es clock, ?_, ?_⟩
    · rw [hrun _ hf]
      simp only [hj', Option.map_some, Option.getD_some, he]
      rw [law.stays w hlx]
      simp only [Result.andThen]
      rw [hmod]
      exact hset _
    · simp only [addK, hx', if_true]
      exact ⟨es, clock, hget _, hk, hv, hn, hc, hnd, hok⟩
end Go.Proofs.YtfpljpdjohmbaaaGreat.TurnMap
