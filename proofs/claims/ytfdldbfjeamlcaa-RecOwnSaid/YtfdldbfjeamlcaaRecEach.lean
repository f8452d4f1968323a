/- rec.port's truth, and lists of numbers and truths, where it writes. No conditions but those named. -/
import Derived.BigQuiet
import Derived.Deep.QuietTactic
import Derived.Lib.QuietBelow
import Derived.Test.YtfdldbfjeamlcaaRecNum
namespace Go.Proofs.Ytfdldbfjeamlcaa.RecEach
open Go.RowKit Mem RecMem RecByte RecNum
open Go.Sort (grow)
set_option linter.unusedVariables false
set_option linter.unusedSimpArgs false

def tB (p : Bool) : Int := if p then 1 else 0
def nB (n : Int) : List Int := numB (IntKind.u64.wrap n)
def numsB (l : List Int) : List Int := l.flatMap nB
theorem nB_len (n : Int) : (nB n).length = 8 := numB_len _
theorem numsB_len (l : List Int) : (numsB l).length = 8 * l.length := by
  induction l with
  | nil => rfl
  | cons x l ih => simp only [numsB, List.flatMap_cons, List.length_append, nB_len, List.length_cons] at ih ⊢; omega
theorem numsB_snoc (l : List Int) (n : Int) : numsB (l ++ [n]) = numsB l ++ nB n := by simp [numsB]
theorem take_snoc {α : Type} {l : List α} {k : Nat} {x : α} (h : l[k]? = some x) : l.take (k + 1) = l.take k ++ [x] := by rw [List.take_add_one, h]; rfl
set_option maxRecDepth 100000 in
set_option maxHeartbeats 4000000 in
theorem wtruth (gp : Nat) (v : Value) (t : List Int) (od : Bool) (b o : Nat) (p : Bool) (hl : t.length ≤ 900000) (w : World) (hP : PW w gp v t od) (ha : w.cell? ⟨b, o, none⟩ = some (.bool p)) (hfz : w.frozen? ⟨b, o, none⟩ = false) (hF : Far gp v w b) :
    Calls Try.prog 106 #[.pointer (some ⟨gp, 0, none⟩), .pointer (some ⟨b, o, none⟩)] w fun e w' => (∃ r, e = .returned r) ∧ ∃ v', PW w' gp v' (t ++ [tB p]) od ∧ Fr gp v w v' w' := by
  have hbs : b < w.heap.size := cell_lt ha
  cases p
  · have HC := Lib.hid (wbyte gp v t od w.heap.size 0 0 (by omega) (w.alloc (.cells #[.int .u8 0] 5)) (hP.alloc _) (box0 _ _ _ 0))
    have HP := Lib.hid (And.intro (hP.new (.cells #[.int .u8 0] 5)) (And.intro (hF.alloc (.cells #[.int .u8 0] 5)) (And.intro (cell_over (.cells #[.int .u8 0] 5) ha) (show (w.alloc (.cells #[.int .u8 0] 5)).frozen? ⟨b, o, none⟩ = false from by
      unfold World.frozen? at hfz ⊢
      rw [Below.heap_alloc w _ b hbs]; exact hfz))))
    clear hP hfz hF
    go_enter Try.func106, Try.ntmps106
    go_wp2_with fail
    refine HC.out.mono ?_
    rintro e w2 ⟨⟨r, rfl⟩, v2, hP2, hF2⟩
    have cc : w2.cell? ⟨w.heap.size, 0, none⟩ = some (.int .u8 0) := hF2.cell HP.out.1 (box0 _ _ _ 0)
    have ca := hF2.cell HP.out.2.1 HP.out.2.2.1
    have cf := hF2.frozen HP.out.2.1 HP.out.2.2.2
    have H2 := Lib.hid (And.intro hP2 (((Fr.refl gp v w).alloc (.cells #[.int .u8 0] 5)).trans hF2))
    clear hP2 hF2 HC ha
    go_wp2_with fail
    go_end0
    rw [setCell_self ca]
    exact ⟨⟨_, rfl⟩, v2, H2.out.1, H2.out.2⟩
  · have HC := Lib.hid (wbyte gp v t od w.heap.size 0 1 (by omega) (w.alloc (.cells #[.int .u8 1] 5)) (hP.alloc _) (box0 _ _ _ 0))
    have HP := Lib.hid (And.intro (hP.new (.cells #[.int .u8 1] 5)) (And.intro (hF.alloc (.cells #[.int .u8 1] 5)) (And.intro (cell_over (.cells #[.int .u8 1] 5) ha) (show (w.alloc (.cells #[.int .u8 1] 5)).frozen? ⟨b, o, none⟩ = false from by
      unfold World.frozen? at hfz ⊢
      rw [Below.heap_alloc w _ b hbs]; exact hfz))))
    clear hP hfz hF
    go_enter Try.func106, Try.ntmps106
    go_wp2_with fail
    refine HC.out.mono ?_
    rintro e w2 ⟨⟨r, rfl⟩, v2, hP2, hF2⟩
    have cc : w2.cell? ⟨w.heap.size, 0, none⟩ = some (.int .u8 1) := hF2.cell HP.out.1 (box0 _ _ _ 0)
    have ca := hF2.cell HP.out.2.1 HP.out.2.2.1
    have cf := hF2.frozen HP.out.2.1 HP.out.2.2.2
    have H2 := Lib.hid (And.intro hP2 (((Fr.refl gp v w).alloc (.cells #[.int .u8 1] 5)).trans hF2))
    clear hP2 hF2 HC ha
    go_wp2_with fail
    go_end0
    rw [setCell_self ca]
    exact ⟨⟨_, rfl⟩, v2, H2.out.1, H2.out.2⟩
/-- Numbers in a block, that may be written. -/
def NumsAt (w : World) (b o : Nat) (l : List Int) : Prop := ∀ i n, l[i]? = some n → w.cell? ⟨b, o + i, none⟩ = some (.int .i64 n) ∧ w.frozen? ⟨b, o + i, none⟩ = false ∧ (Lit.int .i64 n).wf = true
def TruthsAt (w : World) (b o : Nat) (l : List Bool) : Prop := ∀ i n, l[i]? = some n → w.cell? ⟨b, o + i, none⟩ = some (.bool n) ∧ w.frozen? ⟨b, o + i, none⟩ = false
set_option maxRecDepth 100000 in
set_option maxHeartbeats 4000000 in
theorem weach (gp : Nat) (v : Value) (t : List Int) (od : Bool) (b o c : Nat) (l : List Int) (hl : t.length + 8 * l.length ≤ 900000) (w : World) (hP : PW w gp v t od) (hN : NumsAt w b o l) (hF : Far gp v w b) :
    Calls Try.prog 107 #[.slice (some ⟨b, o, none⟩) l.length c, .func (.func 74) #[.pointer (some ⟨gp, 0, none⟩)] #[]] w fun e w' => (∃ r, e = .returned r) ∧ ∃ v', PW w' gp v' (t ++ numsB l) od ∧ Fr gp v w v' w' := by
  have HP := Lib.hid (And.intro hP (And.intro hN hF))
  clear hP hN hF
  go_enter Try.func107, Try.ntmps107
  go_wp2_with fail
  go_loopw [4, 7] (fun _ i wr => ∃ (k : Nat) (v' : Value), k ≤ l.length ∧ i = .int .i64 k ∧ Hid (PW wr gp v' (t ++ numsB (l.take k)) od) ∧ Hid (Fr gp v w v' wr))
    (fun _ i _ => l.length - (intOf i).toNat)
  case atStart => exact ⟨0, v, Nat.zero_le _, rfl, by show PW w gp v (t ++ []) od; rw [List.append_nil]; exact HP.out.1, Fr.refl _ _ _⟩
  case round =>
    obtain ⟨k, v', hk, rfl, hP', hFr⟩ := hrel
    by_cases hlt : k < l.length
    · have hg : l[k]? = some l[k] := List.getElem?_eq_getElem hlt
      generalize l[k] = x at hg
      have hki : (k : Int) < (l.length : Int) := by omega
      have hki0 : (0 : Int) ≤ (k : Int) := by omega
      obtain ⟨n1, n2, n3⟩ := HP.out.2.1 k x hg
      have hlen : (t ++ numsB (l.take k)).length ≤ 900000 := by rw [List.length_append, numsB_len, List.length_take]; omega
      have HC := Lib.hid (wnum gp v' (t ++ numsB (l.take k)) od b (o + k) x n3 hlen wr hP'.out (hFr.out.cell HP.out.2.2 n1) (hFr.out.frozen HP.out.2.2 n2) (hFr.out.far HP.out.2.2))
      have HG := Lib.hid hg
      clear hg n1 n2 n3 hlen
      go_wp2_with fail
      refine HC.out.mono ?_
      rintro e w2 ⟨⟨r, rfl⟩, v2, hP2, hF2⟩
      have H2 := Lib.hid (And.intro hP2 (hFr.out.trans hF2))
      clear hP2 hF2 HC
      go_wp2_with fail
      go_roundw
      case measure => simp [intOf]; omega
      refine ⟨k + 1, v2, by omega, by go_num, ?_, H2.out.2⟩
      rw [take_snoc HG.out, numsB_snoc, ← List.append_assoc]
      exact H2.out.1
    · obtain rfl : k = l.length := by omega
      go_wp2_with fail
      go_end0
      refine ⟨⟨_, rfl⟩, v', ?_, hFr.out⟩
      have := hP'.out
      rwa [List.take_length] at this
set_option maxRecDepth 100000 in
set_option maxHeartbeats 4000000 in
theorem weachB (gp : Nat) (v : Value) (t : List Int) (od : Bool) (b o c : Nat) (l : List Bool) (hl : t.length + l.length ≤ 900000) (w : World) (hP : PW w gp v t od) (hN : TruthsAt w b o l) (hF : Far gp v w b) :
    Calls Try.prog 128 #[.slice (some ⟨b, o, none⟩) l.length c, .func (.func 106) #[.pointer (some ⟨gp, 0, none⟩)] #[]] w fun e w' => (∃ r, e = .returned r) ∧ ∃ v', PW w' gp v' (t ++ l.map tB) od ∧ Fr gp v w v' w' := by
  have HP := Lib.hid (And.intro hP (And.intro hN hF))
  clear hP hN hF
  go_enter Try.func128, Try.ntmps128
  go_wp2_with fail
  go_loopw [4, 7] (fun _ i wr => ∃ (k : Nat) (v' : Value), k ≤ l.length ∧ i = .int .i64 k ∧ Hid (PW wr gp v' (t ++ (l.take k).map tB) od) ∧ Hid (Fr gp v w v' wr))
    (fun _ i _ => l.length - (intOf i).toNat)
  case atStart => exact ⟨0, v, Nat.zero_le _, rfl, by show PW w gp v (t ++ []) od; rw [List.append_nil]; exact HP.out.1, Fr.refl _ _ _⟩
  case round =>
    obtain ⟨k, v', hk, rfl, hP', hFr⟩ := hrel
    by_cases hlt : k < l.length
    · have hg : l[k]? = some l[k] := List.getElem?_eq_getElem hlt
      generalize l[k] = x at hg
      have hki : (k : Int) < (l.length : Int) := by omega
      have hki0 : (0 : Int) ≤ (k : Int) := by omega
      obtain ⟨n1, n2⟩ := HP.out.2.1 k x hg
      have hlen : (t ++ (l.take k).map tB).length ≤ 900000 := by simp; omega
      have HC := Lib.hid (wtruth gp v' (t ++ (l.take k).map tB) od b (o + k) x hlen wr hP'.out (hFr.out.cell HP.out.2.2 n1) (hFr.out.frozen HP.out.2.2 n2) (hFr.out.far HP.out.2.2))
      have HG := Lib.hid hg
      clear hg n1 n2 hlen
      go_wp2_with fail
      refine HC.out.mono ?_
      rintro e w2 ⟨⟨r, rfl⟩, v2, hP2, hF2⟩
      have H2 := Lib.hid (And.intro hP2 (hFr.out.trans hF2))
      clear hP2 hF2 HC
      go_wp2_with fail
      go_roundw
      case measure => simp [intOf]; omega
      refine ⟨k + 1, v2, by omega, by go_num, ?_, H2.out.2⟩
      rw [take_snoc HG.out, List.map_append, ← List.append_assoc]
      exact H2.out.1
    · obtain rfl : k = l.length := by omega
      go_wp2_with fail
      go_end0
      refine ⟨⟨_, rfl⟩, v', ?_, hFr.out⟩
      have := hP'.out
      rwa [List.take_length] at this
end Go.Proofs.Ytfdldbfjeamlcaa.RecEach
