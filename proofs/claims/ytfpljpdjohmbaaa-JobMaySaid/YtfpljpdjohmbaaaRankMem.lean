/- When a job came, written in a table of one's own; rows gone through, one after another. -/
import Derived.Test.YtfpljpdjohmbaaaDepsWant
import Derived.Test.YtfpljpdjohmbaaaRankMath
namespace Go.Proofs.Ytfpljpdjohmbaaa.RankMem
open Go.RowKit Mem PosMath PartMath TurnMath JobMath JobMem DepsMath RankMath
set_option linter.unusedVariables false
set_option linter.unusedSimpArgs false

def cameAt (v : Int) (x : JV) : JV := { x with ca := v }
theorem job_came {w : World} {b o : Nat} {j : JV} {Y : Option Addr} {c : Nat} (v : Int) (h : JobAt w b o j Y c) : JobAt (w.setCell ⟨b, o + 15, none⟩ (.int .i64 v)) b o (cameAt v j) Y c := by
  obtain ⟨x0, x1, x2, x3, x4, x5, x6, x7, x8, x9, x10, x11, x12, x13, x14, x15⟩ := h
  exact ⟨cell_set_far x0 (by simp), cell_set_far x1 (by simp), cell_set_far x2 (by simp), cell_set_far x3 (by simp), cell_set_far x4 (by simp), cell_set_far x5 (by simp), cell_set_far x6 (by simp), cell_set_far x7 (by simp), cell_set_far x8 (by simp), cell_set_far x9 (by simp), cell_set_far x10 (by simp), cell_set_far x11 (by simp), cell_set_far x12 (by simp), cell_set_far x13 (by simp), cell_set_far x14 (by simp), World.cell?_setCell_same _ _ _ x15⟩
theorem JobsOwn.came {w : World} {B g k : Nat} {l : List JV} {x : JV} (v : Int) (h : JobsOwn w B (some ⟨g, 0, none⟩) l) (hk : l[k]? = some x) :
    JobsOwn (w.setCell ⟨g, k * 16 + 15, none⟩ (.int .i64 v)) B (some ⟨g, 0, none⟩) (l.set k (cameAt v x)) := fun i j hi => by
  have hkl := (List.getElem?_eq_some_iff.1 hk).1
  have hil : i < l.length := by have := (List.getElem?_eq_some_iff.1 hi).1; simpa using this
  have hset : ∀ {q : JV} {Y c}, JobAt w g (i * 16) q Y c → i ≠ k → JobAt (w.setCell ⟨g, k * 16 + 15, none⟩ (.int .i64 v)) g (i * 16) q Y c := fun hq hne =>
    JobAt.far hq _ _ (fun t ht => by simp <;> omega)
  by_cases hik : i = k
  · subst hik
    rw [List.getElem?_set_self hkl] at hi
    cases hi
    obtain ⟨g', Y, c, e, h1, hg, hx, f, a, _⟩ := h i x hk
    have e' : g' = g := by simp at e; exact e.symm
    subst e'
    exact ⟨g', Y, c, rfl, h1, by rw [World.size_setCell]; exact hg, job_came v hx, f.set_ _ _, fun _ => (a hkl).set_ _ _, fun h => by simp at h; omega⟩
  · rw [List.getElem?_set_ne (fun e => hik e.symm)] at hi
    obtain ⟨g', Y, c, e, h1, hg, hx, f, a, _⟩ := h i j hi
    have e' : g' = g := by simp at e; exact e.symm
    subst e'
    exact ⟨g', Y, c, rfl, h1, by rw [World.size_setCell]; exact hg, hset hx hik, f.set_ _ _, fun _ => (a hil).set_ _ _, fun h => by simp at h; omega⟩
/-- The first k rows turned. -/
def rowsM (f : JV → JV) (l : List JV) (k : Nat) : List JV := (l.take k).map f ++ l.drop k
theorem rowsM_zero (f : JV → JV) (l : List JV) : rowsM f l 0 = l := by simp [rowsM]
theorem rowsM_all (f : JV → JV) (l : List JV) : rowsM f l l.length = l.map f := by simp [rowsM]
theorem rowsM_len (f : JV → JV) (l : List JV) (k : Nat) : (rowsM f l k).length = l.length := by
  unfold rowsM
  simp
  omega
theorem rowsM_at {f : JV → JV} {l : List JV} {x : JV} {k : Nat} (h : l[k]? = some x) : (rowsM f l k)[k]? = some x := by
  have hl := (List.getElem?_eq_some_iff.1 h).1
  unfold rowsM
  rw [List.getElem?_append_right (by simp; omega)]
  simp
  rw [show k + (k - min k l.length) = k by omega]
  exact h
theorem rowsM_set {f : JV → JV} {l : List JV} {x : JV} {k : Nat} (h : l[k]? = some x) : (rowsM f l k).set k (f x) = rowsM f l (k + 1) := by
  have hl := (List.getElem?_eq_some_iff.1 h).1
  unfold rowsM
  rw [List.set_append_right _ _ (by simp; omega), List.take_add_one, h]
  have e : k - ((l.take k).map f).length = 0 := by simp; omega
  rw [e]
  have e2 : l.drop k = x :: l.drop (k + 1) := by
    rw [List.drop_eq_getElem_cons hl]
    congr 1
    rw [List.getElem?_eq_getElem hl] at h
    exact Option.some.inj h
  rw [e2]
  simp
def shiftW (n : Int) (j : JV) : JV := cameAt (IntKind.i64.wrap (j.ca + n)) j
theorem shift_same {d0 d1 d2 bo fr tr ag : Int} {ks : List Cls} {l : List JV} {n : Int} (hv : tableV d0 d1 d2 bo fr tr ag ks l = 0) (h0 : 0 ≤ n) (h1 : n ≤ 1099511627776) : orderV ks ag (l.map (shiftW n)) = orderV ks ag l := by
  obtain ⟨hC, hT⟩ := tableV_of hv
  have e : l.map (shiftW n) = l.map (shift n) := by
    refine List.map_congr_left fun j hj => ?_
    have hs := key_small hC (hT.each j hj)
    unfold shiftW cameAt shift
    rw [IntWalk.i64_in _ (by omega)]
  rw [e, order_shift]
/-- The order without one. -/
theorem filter_at {p : Int → Bool} {os : List Int} {i : Nat} {n : Int} (h : os[i]? = some n) (hp : p n = true) : (os.filter p)[((os.take i).filter p).length]? = some n := by
  have e : os = os.take i ++ n :: os.drop (i + 1) := by
    have hl := (List.getElem?_eq_some_iff.1 h).1
    have : os.drop i = n :: os.drop (i + 1) := by
      rw [List.drop_eq_getElem_cons hl]
      congr 1
      rw [List.getElem?_eq_getElem hl] at h
      exact Option.some.inj h
    rw [← this, List.take_append_drop]
  conv => lhs; rw [e]
  rw [List.filter_append, List.filter_cons_of_pos hp]
  have e2 : (os.take i ++ n :: os.drop (i + 1)).take i = os.take i := by rw [← e]
  rw [e2, List.getElem?_append_right (Nat.le_refl _), Nat.sub_self]
  rfl
theorem filter_step {p : Int → Bool} {os : List Int} {i : Nat} {n : Int} (h : os[i]? = some n) : ((os.take (i + 1)).filter p).length = ((os.take i).filter p).length + (if p n = true then 1 else 0) := by
  rw [List.take_add_one, h]
  cases hp : p n <;> simp [hp]
theorem done_in (x : JV) : DepsWant.inState 3 x = done x := rfl
/-- One more of priority; come as much ahead. -/
def higher (x : JV) : JV := { x with pr := x.pr + 1 }
def sooner (ag : Int) (x : JV) : JV := { x with ca := x.ca - ag }
theorem key_higher (ks : List Cls) (ag : Int) (x : JV) : keyV ks ag (higher x) = keyV ks ag x + ag := by
  unfold keyV higher
  simp only
  rw [show (clsOf ks x.cl).1 + (x.pr + 1) = ((clsOf ks x.cl).1 + x.pr) + 1 by omega, Int.add_mul]
  omega
theorem key_sooner (ks : List Cls) (ag : Int) (x : JV) : keyV ks ag (sooner ag x) = keyV ks ag x + ag := by
  unfold keyV sooner
  simp only
  omega
end Go.Proofs.Ytfpljpdjohmbaaa.RankMem
