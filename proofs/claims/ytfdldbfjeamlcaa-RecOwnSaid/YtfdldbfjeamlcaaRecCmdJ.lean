/- rec.Command of a job. -/
import Derived.BigQuiet
import Derived.Deep.QuietTactic
import Derived.Deep.RegionHeld3
import Derived.Deep.MidRow
import Derived.Lib.QuietBelow
import Derived.Lib.SliceRun
import Derived.Laws.Rows
import Derived.Test.YtfdldbfjeamlcaaRecCommand
namespace Go.Proofs.Ytfdldbfjeamlcaa.RecCmdJ
open Go.RowKit Mem RecMem RecByte RecNum RecEach RecMath RecCommand
open Go.Sort (grow)
set_option linter.unusedVariables false
set_option linter.unusedSimpArgs false

theorem int_info : (Try.prog.info? 3).map (fun i => (i.zero, i.size, i.bytes)) = some (some (.int .i64 0), 1, 8) := by kernel_rfl
theorem IntsAt.reads {w : World} {X : Option Addr} {t : List Int} (h : IntsAt w X t) : Reads w w.heap.size 1 X t.length (t.map (Value.int .i64)) := by
  refine ⟨by simp, fun hn => ?_⟩
  obtain ⟨b, o, e, hb, _⟩ := h 0 t[0] (List.getElem?_eq_getElem hn)
  refine ⟨_, e, hb, fun j u hu => ?_⟩
  rw [List.getElem?_map] at hu
  cases hj : t[j]? with
  | none => rw [hj] at hu; cases hu
  | some v =>
    rw [hj] at hu
    cases hu
    obtain ⟨b', o', e', _, x⟩ := h j v hj
    rw [e] at e'
    cases e'
    rw [add_flat]
    exact x
theorem IntsAt.of_reads {w : World} {B n : Nat} {X : Option Addr} {t : List Int} (hB : B ≤ w.heap.size) (h : Reads w B 1 X n (t.map (Value.int .i64))) : IntsAt w X t := fun i v hi => by
  have hl : i < t.length := (List.getElem?_eq_some_iff.1 hi).1
  have hn : 0 < n := by have := h.1; simp at this; omega
  obtain ⟨b, o, e, hb, hc⟩ := h.flat hn
  exact ⟨b, o, e, by omega, hc i _ (by rw [List.getElem?_map, hi]; rfl)⟩
set_option maxRecDepth 100000 in
set_option maxHeartbeats 4000000 in
/-- slices.Clone of numbers. -/
theorem iclone (X : Option Addr) (cap : Nat) (t : List Int) (hl : t.length ≤ 100000) (w : World) (hX : IntsAt w X t) :
    Calls Try.prog 43 #[.slice X t.length cap] w fun e w' => ∃ X' c', e = .returned (.slice X' t.length c') ∧ t.length ≤ c' ∧ IntsAt w' X' t ∧ Below w.heap.size w w' ∧ ∀ b o, X' = some ⟨b, o, none⟩ → w.heap.size ≤ b := by
  have u : ∀ w, Sem.run Try.prog (underlying 26) w = .ok (TypeDesc.slice 3) w := run_underlying Try.underlying26
  have q : ∀ (w : World) (a : Option Addr) (n c n' c' : Nat), (binOp .eql 26 (.slice a n c) (.slice none n' c')).run Try.prog w = .ok (.bool a.isNone) w := fun w a n c n' c' => Lib.run_eql_slice_nil w _ _ a n c n' c' Try.underlying26
  cases X with
  | none =>
    obtain rfl : t = [] := by
      cases t with
      | nil => rfl
      | cons x t =>
        obtain ⟨_, _, h, _⟩ := hX 0 x rfl
        cases h
    clear hX
    go_enter Try.func43, Try.ntmps43
    go_wp2_with fail
    go_ret
    exact ⟨none, 0, rfl, Nat.le_refl _, IntsAt.nil, Below.refl _ _, (fun b o e => by cases e)⟩
  | some a =>
    have hr := IntsAt.reads hX
    have h1 : ∀ u ∈ t.map (Value.int .i64), u.oneCell' = true := fun u hu => by
      obtain ⟨n, _, rfl⟩ := List.mem_map.1 hu
      rfl
    obtain ⟨i0, hi0, hz0, hz1, hz2⟩ := info_parts int_info
    have HR := Lib.hid (And.intro (hr.alloc (Nat.le_refl _) (.cells #[] 3)) (And.intro h1 (And.intro hi0 (And.intro hz0 (And.intro hz1 hz2)))))
    clear hr hi0 hz0 hz1 hz2 hX h1
    go_enter Try.func43, Try.ntmps43
    go_wp2_with (at_builtin; refine wpList_append_any _ rfl (.tmp 5) (.tmp 6) _ rfl w.heap.size 3 i0 (.int .i64 0) 1 8 Try.underlying26 HR.out.2.2.1 HR.out.2.2.2.1 HR.out.2.2.2.2.1 HR.out.2.2.2.2.2 rfl (by decide) _ _ _ rfl (World.ownsRow_made w #[] 0 (Nat.le_refl _) (Nat.zero_le _) (by simp)) w.heap.size (some a) t.length cap (t.map (Value.int .i64)) rfl HR.out.1 HR.out.2.1 (by simp only [maxLen]; omega) (by omega) (by simp) ?_; intro v1 w1 hown hg hat; have HO := Lib.hid (And.intro hown hg); clear hown hg hat)
    go_ret
    have hB1 : Below w.heap.size w w1 := (below_alloc (Below.refl _ w)).grown HO.out.2 (by simp) (by intro k hk; cases hk; exact Nat.le_refl _)
    have ho : w1.ownsRow w.heap.size 3 1 v1 t.length (t.map (Value.int .i64)) := by have := HO.out.1; simpa using this
    have hx : ∃ Y c, v1 = .slice Y t.length c ∧ t.length ≤ c := by
      rcases ho.2 with ⟨rfl, e0⟩ | ⟨g, cap', cur, rfl, _, _, hc, _⟩
      · exact ⟨none, 0, by rw [e0], by omega⟩
      · exact ⟨_, cap', rfl, hc⟩
    obtain ⟨Y, c, rfl, hc⟩ := hx
    exact ⟨Y, c, rfl, hc, IntsAt.of_reads (Nat.le_refl _) (Reads.of_own ho), hB1, (fun b o e => (ho.lt b (by rw [e]; rfl)).1)⟩
theorem blk_sets_far {g g' : Nat} {t : TypeId} {cs : Array Value} (hg : g' ≠ g) : ∀ {vs : List Value} {W : World} {i : Nat}, Blk W g' t cs → Blk (World.setCells W g i vs) g' t cs
  | [], _, _, h => h
  | v :: _, _, i, h => by rw [World.setCells]; exact blk_sets_far hg (h.far (p := ⟨g, i, none⟩) hg v)
/-- An array with values laid in from i on. -/
def setA (cs : Array Value) (i : Nat) : List Value → Array Value
  | [] => cs
  | v :: vs => setA (cs.setIfInBounds i v) (i + 1) vs
theorem blk_setA {g : Nat} {t : TypeId} : ∀ {vs : List Value} {W : World} {i : Nat} {cs : Array Value}, Blk W g t cs → Blk (World.setCells W g i vs) g t (setA cs i vs)
  | [], _, _, _, h => h
  | v :: _, _, i, _, h => by rw [World.setCells]; exact blk_setA (h.set_ i v)
theorem below_sets {w : World} {B g : Nat} (hg : B ≤ g) : ∀ {vs : List Value} {W : World} {i : Nat}, Below B w W → Below B w (World.setCells W g i vs)
  | [], _, _, h => h
  | v :: _, _, i, h => by rw [World.setCells]; exact below_sets hg (h.setCell (p := ⟨g, i, none⟩) hg v)
theorem cell_sets {g : Nat} : ∀ {vs : List Value} {W : World} {i : Nat} {a : Addr} {u : Value}, a.block ≠ g → W.cell? a = some u → (World.setCells W g i vs).cell? a = some u
  | [], _, _, _, _, _, h => h
  | v :: _, W, i, a, u, hne, h => by
    rw [World.setCells]
    exact cell_sets hne (by rw [World.cell?_setCell_other _ _ _ _ (fun e => hne (by rw [← e]))]; exact h)
theorem size_sets {g : Nat} : ∀ {vs : List Value} {W : World} {i : Nat}, (World.setCells W g i vs).heap.size = W.heap.size
  | [], _, _ => rfl
  | _ :: _, _, _ => by rw [World.setCells]; rw [size_sets, World.size_setCell]
/-- Numbers lie in no block of a command. -/
theorem ints_sets {W : World} {g i : Nat} {vs : List Value} {Y : Option Addr} {l : List Int} {cs : Array Value} (h : IntsAt W Y l) (hK : Blk W g 34 cs) (hY : ∀ b o, Y = some ⟨b, o, none⟩ → b ≠ g) : IntsAt (World.setCells W g i vs) Y l := fun j v hj => by
  obtain ⟨b, o, e, hb, hc⟩ := h j v hj
  exact ⟨b, o, e, by rw [size_sets]; exact hb, cell_sets (hY b o e) hc⟩
theorem there_of {W : World} {g o : Nat} {t : TypeId} {cs : Array Value} {n : Nat} (h : Blk W g t cs) (hn : o + n ≤ cs.size) : W.there g o n := fun j hj => by
  rw [h.cell, h.frozen]
  exact ⟨by rw [Array.getElem?_eq_getElem (by omega)]; rfl, rfl⟩
theorem set_job (us cl a b c : Int) (p q r tn : Bool) (wa pr : Int) (he : Bool) (af : List Int) (X5 : Option Addr) (c5 : Nat) : setA #[.int .u8 1, .int .i64 0, .int .i64 0, .int .i64 0, .int .i64 0, .int .i64 0, .int .i64 0, .bool false, .bool false, .bool false, .bool false, .int .i64 0, .int .i64 0, .bool false, .slice none 0 0, .int .u8 0, .int .i64 0, .int .i64 0, .int .i64 0, .int .i64 0, .int .i64 0, .int .i64 0, .int .i64 0, .int .i64 0, .int .i64 0, .int .i64 0, .int .i64 0, .bool false] 1 [.int .i64 0, .int .i64 us, .int .i64 cl, .int .i64 a, .int .i64 b, .int .i64 c, .bool p, .bool q, .bool r, .bool tn, .int .i64 wa, .int .i64 pr, .bool he, .slice X5 af.length c5, .int .u8 0, .int .i64 0] = #[.int .u8 1, .int .i64 0, .int .i64 us, .int .i64 cl, .int .i64 a, .int .i64 b, .int .i64 c, .bool p, .bool q, .bool r, .bool tn, .int .i64 wa, .int .i64 pr, .bool he, .slice X5 af.length c5, .int .u8 0, .int .i64 0, .int .i64 0, .int .i64 0, .int .i64 0, .int .i64 0, .int .i64 0, .int .i64 0, .int .i64 0, .int .i64 0, .int .i64 0, .int .i64 0, .bool false] := by
  simp only [setA, List.setIfInBounds_toArray, List.set_cons_zero, List.set_cons_succ]
set_option maxRecDepth 100000 in
set_option maxHeartbeats 4000000 in
theorem ccmd1 (id us cl a b c : Int) (p q r tn : Bool) (wa pr : Int) (he : Bool) (af : List Int) (st ca ci b0 b1 b2 b3 b4 b5 fr to n : Int) (we : Bool) (Y : Option Addr) (cy : Nat) (hn : af.length ≤ 1000) (w : World) (hI : IntsAt w Y af) :
    Calls Try.prog 16 #[.agg #[.int .u8 1, .int .i64 id, .int .i64 us, .int .i64 cl, .int .i64 a, .int .i64 b, .int .i64 c, .bool p, .bool q, .bool r, .bool tn, .int .i64 wa, .int .i64 pr, .bool he, .slice Y af.length cy, .int .u8 st, .int .i64 ca, .int .i64 ci, .int .i64 b0, .int .i64 b1, .int .i64 b2, .int .i64 b3, .int .i64 b4, .int .i64 b5, .int .i64 fr, .int .i64 to, .int .i64 n, .bool we]] w fun e w' => RetC w w' ⟨1, id, us, cl, a, b, c, p, q, r, tn, wa, pr, he, af, st, ca, ci, b0, b1, b2, b3, b4, b5, fr, to, n, we⟩ e := by
  have HCI := Lib.hid (fun (W : World) (h : IntsAt W Y af) => iclone Y cy af (by omega) W h)
  have HI0 := Lib.hid hI
  clear hI
  go_enter Try.func16, Try.ntmps16
  go_wp2_with fail
  have K2 := Lib.hid ((blk1 w 34 #[.int .u8 1, .int .i64 0, .int .i64 0, .int .i64 0, .int .i64 0, .int .i64 0, .int .i64 0, .bool false, .bool false, .bool false, .bool false, .int .i64 0, .int .i64 0, .bool false, .slice none 0 0, .int .u8 0, .int .i64 0, .int .i64 0, .int .i64 0, .int .i64 0, .int .i64 0, .int .i64 0, .int .i64 0, .int .i64 0, .int .i64 0, .int .i64 0, .int .i64 0, .bool false] (o := .cells #[.int .u8 1, .int .i64 id, .int .i64 us, .int .i64 cl, .int .i64 a, .int .i64 b, .int .i64 c, .bool p, .bool q, .bool r, .bool tn, .int .i64 wa, .int .i64 pr, .bool he, .slice Y af.length cy, .int .u8 st, .int .i64 ca, .int .i64 ci, .int .i64 b0, .int .i64 b1, .int .i64 b2, .int .i64 b3, .int .i64 b4, .int .i64 b5, .int .i64 fr, .int .i64 to, .int .i64 n, .bool we] 34)).alloc (.cells #[.int .i64 id, .int .i64 us, .int .i64 cl, .int .i64 a, .int .i64 b, .int .i64 c, .bool p, .bool q, .bool r, .bool tn, .int .i64 wa, .int .i64 pr, .bool he, .slice Y af.length cy, .int .u8 st, .int .i64 ca] 28))
  have K3 := Lib.hid (blk2 w 28 #[.int .i64 id, .int .i64 us, .int .i64 cl, .int .i64 a, .int .i64 b, .int .i64 c, .bool p, .bool q, .bool r, .bool tn, .int .i64 wa, .int .i64 pr, .bool he, .slice Y af.length cy, .int .u8 st, .int .i64 ca] (o := .cells #[.int .u8 1, .int .i64 id, .int .i64 us, .int .i64 cl, .int .i64 a, .int .i64 b, .int .i64 c, .bool p, .bool q, .bool r, .bool tn, .int .i64 wa, .int .i64 pr, .bool he, .slice Y af.length cy, .int .u8 st, .int .i64 ca, .int .i64 ci, .int .i64 b0, .int .i64 b1, .int .i64 b2, .int .i64 b3, .int .i64 b4, .int .i64 b5, .int .i64 fr, .int .i64 to, .int .i64 n, .bool we] 34) (o' := .cells #[.int .u8 1, .int .i64 0, .int .i64 0, .int .i64 0, .int .i64 0, .int .i64 0, .int .i64 0, .bool false, .bool false, .bool false, .bool false, .int .i64 0, .int .i64 0, .bool false, .slice none 0 0, .int .u8 0, .int .i64 0, .int .i64 0, .int .i64 0, .int .i64 0, .int .i64 0, .int .i64 0, .int .i64 0, .int .i64 0, .int .i64 0, .int .i64 0, .int .i64 0, .bool false] 34))
  have HB := Lib.hid (below_alloc (o := .cells #[.int .i64 id, .int .i64 us, .int .i64 cl, .int .i64 a, .int .i64 b, .int .i64 c, .bool p, .bool q, .bool r, .bool tn, .int .i64 wa, .int .i64 pr, .bool he, .slice Y af.length cy, .int .u8 st, .int .i64 ca] 28) (below_alloc (o := .cells #[.int .u8 1, .int .i64 0, .int .i64 0, .int .i64 0, .int .i64 0, .int .i64 0, .int .i64 0, .bool false, .bool false, .bool false, .bool false, .int .i64 0, .int .i64 0, .bool false, .slice none 0 0, .int .u8 0, .int .i64 0, .int .i64 0, .int .i64 0, .int .i64 0, .int .i64 0, .int .i64 0, .int .i64 0, .int .i64 0, .int .i64 0, .int .i64 0, .int .i64 0, .bool false] 34) (below_alloc (o := .cells #[.int .u8 1, .int .i64 id, .int .i64 us, .int .i64 cl, .int .i64 a, .int .i64 b, .int .i64 c, .bool p, .bool q, .bool r, .bool tn, .int .i64 wa, .int .i64 pr, .bool he, .slice Y af.length cy, .int .u8 st, .int .i64 ca, .int .i64 ci, .int .i64 b0, .int .i64 b1, .int .i64 b2, .int .i64 b3, .int .i64 b4, .int .i64 b5, .int .i64 fr, .int .i64 to, .int .i64 n, .bool we] 34) (Below.refl w.heap.size w))))
  have HI := Lib.hid (HI0.out.up HB.out)
  generalize ((w.alloc (.cells #[.int .u8 1, .int .i64 id, .int .i64 us, .int .i64 cl, .int .i64 a, .int .i64 b, .int .i64 c, .bool p, .bool q, .bool r, .bool tn, .int .i64 wa, .int .i64 pr, .bool he, .slice Y af.length cy, .int .u8 st, .int .i64 ca, .int .i64 ci, .int .i64 b0, .int .i64 b1, .int .i64 b2, .int .i64 b3, .int .i64 b4, .int .i64 b5, .int .i64 fr, .int .i64 to, .int .i64 n, .bool we] 34)).alloc (.cells #[.int .u8 1, .int .i64 0, .int .i64 0, .int .i64 0, .int .i64 0, .int .i64 0, .int .i64 0, .bool false, .bool false, .bool false, .bool false, .int .i64 0, .int .i64 0, .bool false, .slice none 0 0, .int .u8 0, .int .i64 0, .int .i64 0, .int .i64 0, .int .i64 0, .int .i64 0, .int .i64 0, .int .i64 0, .int .i64 0, .int .i64 0, .int .i64 0, .int .i64 0, .bool false] 34)).alloc (.cells #[.int .i64 id, .int .i64 us, .int .i64 cl, .int .i64 a, .int .i64 b, .int .i64 c, .bool p, .bool q, .bool r, .bool tn, .int .i64 wa, .int .i64 pr, .bool he, .slice Y af.length cy, .int .u8 st, .int .i64 ca] 28) = wb at *
  refine wp_region_held_drew (S := (fun W => Blk W (w.heap.size + 1 + 1) 28 #[.int .i64 id, .int .i64 us, .int .i64 cl, .int .i64 a, .int .i64 b, .int .i64 c, .bool p, .bool q, .bool r, .bool tn, .int .i64 wa, .int .i64 pr, .bool he, .slice Y af.length cy, .int .u8 st, .int .i64 ca])) (by kernel_rfl) ?_ (fun hHeld => ?_)
  · exact K3.out.drew
  refine' wpAnyH_take (i := 0) (v := ?v1) rfl (by kernel_rfl) (by kernel_rfl) (by kernel_rfl) (fun _ _ _ h => h) (Or.inl ⟨by rfl, ?y1⟩) (by assumption) ?r1
  case y1 => (intro W hSw; (try dsimp only at hSw); go_simp; try with_reducible rfl)
  (try simp only [Act.put, List.setIfInBounds_toArray, List.set_cons_zero, List.set_cons_succ])
  refine' wpAnyH_take (i := 1) (v := ?v2) rfl (by kernel_rfl) (by kernel_rfl) (by kernel_rfl) (fun _ _ _ h => h) (Or.inl ⟨by rfl, ?y2⟩) (by assumption) ?r2
  case y2 => (intro W hSw; (try dsimp only at hSw); have q0 := hSw.cell 1; go_simp; try with_reducible rfl)
  (try simp only [Act.put, List.setIfInBounds_toArray, List.set_cons_zero, List.set_cons_succ])
  refine' wpAnyH_take (i := 2) (v := ?v3) rfl (by kernel_rfl) (by kernel_rfl) (by kernel_rfl) (fun _ _ _ h => h) (Or.inl ⟨by rfl, ?y3⟩) (by assumption) ?r3
  case y3 => (intro W hSw; (try dsimp only at hSw); go_simp; try with_reducible rfl)
  (try simp only [Act.put, List.setIfInBounds_toArray, List.set_cons_zero, List.set_cons_succ])
  refine' wpAnyH_take (i := 3) (v := ?v4) rfl (by kernel_rfl) (by kernel_rfl) (by kernel_rfl) (fun _ _ _ h => h) (Or.inl ⟨by rfl, ?y4⟩) (by assumption) ?r4
  case y4 => (intro W hSw; (try dsimp only at hSw); have q0 := hSw.cell 2; go_simp; try with_reducible rfl)
  (try simp only [Act.put, List.setIfInBounds_toArray, List.set_cons_zero, List.set_cons_succ])
  refine' wpAnyH_take (i := 4) (v := ?v5) rfl (by kernel_rfl) (by kernel_rfl) (by kernel_rfl) (fun _ _ _ h => h) (Or.inl ⟨by rfl, ?y5⟩) (by assumption) ?r5
  case y5 => (intro W hSw; (try dsimp only at hSw); go_simp; try with_reducible rfl)
  (try simp only [Act.put, List.setIfInBounds_toArray, List.set_cons_zero, List.set_cons_succ])
  refine' wpAnyH_take (i := 5) (v := ?v6) rfl (by kernel_rfl) (by kernel_rfl) (by kernel_rfl) (fun _ _ _ h => h) (Or.inl ⟨by rfl, ?y6⟩) (by assumption) ?r6
  case y6 => (intro W hSw; (try dsimp only at hSw); have q0 := hSw.cell 3; have q1 := hSw.cell 4; have q2 := hSw.cell 5; have q3 := hSw.cell 6; have q4 := hSw.cell 7; have q5 := hSw.cell 8; have q6 := hSw.cell 9; go_simp; try with_reducible rfl)
  (try simp only [Act.put, List.setIfInBounds_toArray, List.set_cons_zero, List.set_cons_succ])
  refine' wpAnyH_take (i := 6) (v := ?v7) rfl (by kernel_rfl) (by kernel_rfl) (by kernel_rfl) (fun _ _ _ h => h) (Or.inl ⟨by rfl, ?y7⟩) (by assumption) ?r7
  case y7 => (intro W hSw; (try dsimp only at hSw); go_simp; try with_reducible rfl)
  (try simp only [Act.put, List.setIfInBounds_toArray, List.set_cons_zero, List.set_cons_succ])
  refine' wpAnyH_take (i := 7) (v := ?v8) rfl (by kernel_rfl) (by kernel_rfl) (by kernel_rfl) (fun _ _ _ h => h) (Or.inl ⟨by rfl, ?y8⟩) (by assumption) ?r8
  case y8 => (intro W hSw; (try dsimp only at hSw); have q0 := hSw.cell 10; go_simp; try with_reducible rfl)
  (try simp only [Act.put, List.setIfInBounds_toArray, List.set_cons_zero, List.set_cons_succ])
  refine' wpAnyH_take (i := 8) (v := ?v9) rfl (by kernel_rfl) (by kernel_rfl) (by kernel_rfl) (fun _ _ _ h => h) (Or.inl ⟨by rfl, ?y9⟩) (by assumption) ?r9
  case y9 => (intro W hSw; (try dsimp only at hSw); go_simp; try with_reducible rfl)
  (try simp only [Act.put, List.setIfInBounds_toArray, List.set_cons_zero, List.set_cons_succ])
  refine' wpAnyH_take (i := 9) (v := ?v10) rfl (by kernel_rfl) (by kernel_rfl) (by kernel_rfl) (fun _ _ _ h => h) (Or.inl ⟨by rfl, ?y10⟩) (by assumption) ?r10
  case y10 => (intro W hSw; (try dsimp only at hSw); have q0 := hSw.cell 11; go_simp; try with_reducible rfl)
  (try simp only [Act.put, List.setIfInBounds_toArray, List.set_cons_zero, List.set_cons_succ])
  refine' wpAnyH_take (i := 10) (v := ?v11) rfl (by kernel_rfl) (by kernel_rfl) (by kernel_rfl) (fun _ _ _ h => h) (Or.inl ⟨by rfl, ?y11⟩) (by assumption) ?r11
  case y11 => (intro W hSw; (try dsimp only at hSw); go_simp; try with_reducible rfl)
  (try simp only [Act.put, List.setIfInBounds_toArray, List.set_cons_zero, List.set_cons_succ])
  refine' wpAnyH_take (i := 11) (v := ?v12) rfl (by kernel_rfl) (by kernel_rfl) (by kernel_rfl) (fun _ _ _ h => h) (Or.inl ⟨by rfl, ?y12⟩) (by assumption) ?r12
  case y12 => (intro W hSw; (try dsimp only at hSw); have q0 := hSw.cell 12; go_simp; try with_reducible rfl)
  (try simp only [Act.put, List.setIfInBounds_toArray, List.set_cons_zero, List.set_cons_succ])
  refine' wpAnyH_take (i := 12) (v := ?v13) rfl (by kernel_rfl) (by kernel_rfl) (by kernel_rfl) (fun _ _ _ h => h) (Or.inl ⟨by rfl, ?y13⟩) (by assumption) ?r13
  case y13 => (intro W hSw; (try dsimp only at hSw); go_simp; try with_reducible rfl)
  (try simp only [Act.put, List.setIfInBounds_toArray, List.set_cons_zero, List.set_cons_succ])
  refine' wpAnyH_take (i := 13) (v := ?v14) rfl (by kernel_rfl) (by kernel_rfl) (by kernel_rfl) (fun _ _ _ h => h) (Or.inl ⟨by rfl, ?y14⟩) (by assumption) ?r14
  case y14 => (intro W hSw; (try dsimp only at hSw); have q0 := hSw.cell 13; go_simp; try with_reducible rfl)
  (try simp only [Act.put, List.setIfInBounds_toArray, List.set_cons_zero, List.set_cons_succ])
  refine wpAnyH_ready (rs := [14]) (by kernel_rfl) (by simp) ?_
  refine AllReadyH.cons (i := 14) rfl (fun K hK => ?_) ?_
  · go_simp
    refine (HCI.out wb.drew (HI.out)).mono ?_
    rintro e w5 ⟨X5, c5, rfl, hc5, hI5, hB5, hX5⟩
    have K2b : Blk w5 (w.heap.size + 1) 34 #[.int .u8 1, .int .i64 0, .int .i64 0, .int .i64 0, .int .i64 0, .int .i64 0, .int .i64 0, .bool false, .bool false, .bool false, .bool false, .int .i64 0, .int .i64 0, .bool false, .slice none 0 0, .int .u8 0, .int .i64 0, .int .i64 0, .int .i64 0, .int .i64 0, .int .i64 0, .int .i64 0, .int .i64 0, .int .i64 0, .int .i64 0, .int .i64 0, .int .i64 0, .bool false] := Blk.below K2.out.drew hB5 K2.out.lt
    have K3b : Blk w5 (w.heap.size + 1 + 1) 28 #[.int .i64 id, .int .i64 us, .int .i64 cl, .int .i64 a, .int .i64 b, .int .i64 c, .bool p, .bool q, .bool r, .bool tn, .int .i64 wa, .int .i64 pr, .bool he, .slice Y af.length cy, .int .u8 st, .int .i64 ca] := Blk.below K3.out.drew hB5 K3.out.lt
    have H5 := Lib.hid (And.intro K2b (And.intro K3b (And.intro hI5 (And.intro (below_up HB.out.drew hB5) (And.intro (show ∀ b o, X5 = some ⟨b, o, none⟩ → b ≠ w.heap.size + 1 from fun b o e => by have h1 := hX5 b o e; have h2 : w.heap.size + 1 < wb.heap.size := K2.out.lt; have h3 : wb.heap.size ≤ b := h1; omega) (show ∀ b o, X5 = some ⟨b, o, none⟩ → w.heap.size ≤ b from fun b o e => by have h1 := hX5 b o e; have h2 : w.heap.size + 1 < wb.heap.size := K2.out.lt; have h3 : wb.heap.size ≤ b := h1; omega))))))
    clear K2b K3b hI5 hB5 hX5
    (try dsimp only)
    refine hK.out _ _ ?_ (fun hHeld => ?_)
    · exact H5.out.2.1
    clear hK K
    (try simp only [Act.put, List.setIfInBounds_toArray, List.set_cons_zero, List.set_cons_succ])
    refine wpAnyH_ready (rs := [15]) (by kernel_rfl) (by simp) ?_
    refine AllReadyH.cons (i := 15) rfl (fun K hK => ?_) ?_
    · go_simp
      refine hK.out _ _ ?_ (fun hHeld => ?_)
      · exact H5.out.2.1
      clear hK K
      (try simp only [Act.put, List.setIfInBounds_toArray, List.set_cons_zero, List.set_cons_succ])
      refine' wpAnyH_take (i := 16) (v := ?v15) rfl (by kernel_rfl) (by kernel_rfl) (by kernel_rfl) (fun _ _ _ h => h) (Or.inl ⟨by rfl, ?y15⟩) (by assumption) ?r15
      case y15 => (intro W hSw; (try dsimp only at hSw); go_simp; try with_reducible rfl)
      (try simp only [Act.put, List.setIfInBounds_toArray, List.set_cons_zero, List.set_cons_succ])
      refine wpAnyH_ready (rs := [17]) (by kernel_rfl) (by simp) ?_
      refine AllReadyH.cons (i := 17) rfl (fun K hK => ?_) ?_
      · rw [if_pos (by rfl)]
        refine wp_store_mid _ _ _ rfl (w.heap.size + 1) 1 (List.toArray [.int .i64 0, .int .i64 us, .int .i64 cl, .int .i64 a, .int .i64 b, .int .i64 c, .bool p, .bool q, .bool r, .bool tn, .int .i64 wa, .int .i64 pr, .bool he, .slice X5 af.length c5, .int .u8 0, .int .i64 0]) rfl rfl (there_of H5.out.1 (Nat.le_of_ble_eq_true rfl)) (by kernel_rfl) (by kernel_rfl) ?_
        refine hK.out _ _ ?_ (fun hHeld => ?_)
        · exact blk_sets_far (by omega) H5.out.2.1
        clear hK K
        (try simp only [Act.put, List.setIfInBounds_toArray, List.set_cons_zero, List.set_cons_succ])
        refine wpAnyH_done (by kernel_rfl) ?_ _
        have K6 : Blk (World.setCells w5 (w.heap.size + 1) 1 [.int .i64 0, .int .i64 us, .int .i64 cl, .int .i64 a, .int .i64 b, .int .i64 c, .bool p, .bool q, .bool r, .bool tn, .int .i64 wa, .int .i64 pr, .bool he, .slice X5 af.length c5, .int .u8 0, .int .i64 0]) (w.heap.size + 1) 34 #[.int .u8 1, .int .i64 0, .int .i64 us, .int .i64 cl, .int .i64 a, .int .i64 b, .int .i64 c, .bool p, .bool q, .bool r, .bool tn, .int .i64 wa, .int .i64 pr, .bool he, .slice X5 af.length c5, .int .u8 0, .int .i64 0, .int .i64 0, .int .i64 0, .int .i64 0, .int .i64 0, .int .i64 0, .int .i64 0, .int .i64 0, .int .i64 0, .int .i64 0, .int .i64 0, .bool false] := by
          have := blk_setA (i := 1) (vs := [.int .i64 0, .int .i64 us, .int .i64 cl, .int .i64 a, .int .i64 b, .int .i64 c, .bool p, .bool q, .bool r, .bool tn, .int .i64 wa, .int .i64 pr, .bool he, .slice X5 af.length c5, .int .u8 0, .int .i64 0]) H5.out.1
          rw [set_job] at this
          exact this
        have B6 := below_sets (B := w.heap.size) (g := w.heap.size + 1) (by omega) (vs := [.int .i64 0, .int .i64 us, .int .i64 cl, .int .i64 a, .int .i64 b, .int .i64 c, .bool p, .bool q, .bool r, .bool tn, .int .i64 wa, .int .i64 pr, .bool he, .slice X5 af.length c5, .int .u8 0, .int .i64 0]) (i := 1) H5.out.2.2.2.1
        have I6 : IntsAt (World.setCells w5 (w.heap.size + 1) 1 [.int .i64 0, .int .i64 us, .int .i64 cl, .int .i64 a, .int .i64 b, .int .i64 c, .bool p, .bool q, .bool r, .bool tn, .int .i64 wa, .int .i64 pr, .bool he, .slice X5 af.length c5, .int .u8 0, .int .i64 0]) X5 af := ints_sets H5.out.2.2.1 H5.out.1 (fun b o e => H5.out.2.2.2.2.1 b o e)
        have e9 : own ⟨1, id, us, cl, a, b, c, p, q, r, tn, wa, pr, he, af, st, ca, ci, b0, b1, b2, b3, b4, b5, fr, to, n, we⟩ = ⟨1, 0, us, cl, a, b, c, p, q, r, tn, wa, pr, he, af, 0, 0, 0, 0, 0, 0, 0, 0, 0, 0, 0, 0, false⟩ := rfl
        have H6 := Lib.hid (And.intro K6 (And.intro B6 (And.intro I6 H5.out.2.2.2.2.2)))
        clear K6 B6 I6 H5
        go_wp2_with fail
        exact bodyPost_ret (v := .agg #[.int .u8 1, .int .i64 0, .int .i64 us, .int .i64 cl, .int .i64 a, .int .i64 b, .int .i64 c, .bool p, .bool q, .bool r, .bool tn, .int .i64 wa, .int .i64 pr, .bool he, .slice X5 af.length c5, .int .u8 0, .int .i64 0, .int .i64 0, .int .i64 0, .int .i64 0, .int .i64 0, .int .i64 0, .int .i64 0, .int .i64 0, .int .i64 0, .int .i64 0, .int .i64 0, .bool false]) (results_cell_row rfl _ _ (w.heap.size + 1) 34 #[.int .u8 1, .int .i64 0, .int .i64 us, .int .i64 cl, .int .i64 a, .int .i64 b, .int .i64 c, .bool p, .bool q, .bool r, .bool tn, .int .i64 wa, .int .i64 pr, .bool he, .slice X5 af.length c5, .int .u8 0, .int .i64 0, .int .i64 0, .int .i64 0, .int .i64 0, .int .i64 0, .int .i64 0, .int .i64 0, .int .i64 0, .int .i64 0, .int .i64 0, .int .i64 0, .bool false] (0, 0) _ rfl H6.out.1 Try.underlying34 rfl (by kernel_rfl)) rfl ⟨X5, c5, (by rw [e9]), (by rw [e9]; exact hc5), (by rw [e9]; exact H6.out.2.2.1), H6.out.2.1, H6.out.2.2.2⟩
      exact AllReadyH.nil
    exact AllReadyH.nil
  exact AllReadyH.nil
end Go.Proofs.Ytfdldbfjeamlcaa.RecCmdJ
