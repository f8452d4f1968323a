/- log.Do, log.Crash and the reference's, whole: the same words for both; rows that may be written, whatever they hold. No conditions but those named. -/
import Derived.Test.YtfdldbfjeamlcaaLogDoA
import Derived.Test.YtfdldbfjeamlcaaLogDoB
import Derived.Test.YtfdldbfjeamlcaaLogCrash
namespace Go.Proofs.Ytfdldbfjeamlcaa.LogAll
open Go.RowKit Mem LogMath LogProg LogRef1 LogRef2 LogDone LogDoneA LogDoneB LogRDo LogDeeds LogDo LogDoA LogDoB LogLeft LogCrash
set_option linter.unusedVariables false

theorem ar_cases {kd ar : Int} {tx : List Int} (h2 : mayAct kd ar tx = true) : (ar = 0 ∨ ar = 1) ∧ (kd = 2 ∨ (kd = 1 ∧ tx = []) ∨ (kd = 3 ∧ tx = [])) := by
  obtain ⟨h1, h | ⟨h, h3⟩ | ⟨h, h3⟩⟩ := mayAct_cases h2
  · exact ⟨h1, .inl h⟩
  · exact ⟨h1, .inr (.inl ⟨h, List.eq_nil_of_length_eq_zero h3⟩)⟩
  · exact ⟨h1, .inr (.inr ⟨h, List.eq_nil_of_length_eq_zero h3⟩)⟩
/-- The reference's Do. -/
theorem rDo (x y : AV) (X : Option Addr) (ca : Nat) (Y : Option Addr) (cb : Nat) (kd ar : Int) (T : Option Addr) (ct : Nat) (tx : List Int) (hx : x.t.length ≤ 300000) (hy : y.t.length ≤ 300000) (htx : tx.length ≤ 300000) (w : World) (hX : TAt w X x.t) (hY : TAt w Y y.t) (hT : TAt w T tx) :
    Calls Try.prog 29 #[.agg #[.slice X x.t.length ca, .int .i64 x.k, .slice Y y.t.length cb, .int .i64 y.k], .agg #[.int .u8 kd, .int .i64 ar, .slice T tx.length ct]] w fun e w' => ∃ v, e = .returned (.tuple #[v, .int .i64 (doE ⟨x, y⟩ kd ar tx)]) ∧ RetL w' w.heap.size (doL ⟨x, y⟩ kd ar tx) v ∧ Below w.heap.size w w' := by
  cases h : mayL ⟨x, y⟩
  · exact rDoBad x y X ca Y cb kd ar T ct tx h w
  · cases h2 : mayAct kd ar tx
    · exact rDoArg x y X ca Y cb kd ar T ct tx h h2 w
    · obtain ⟨ha, hk⟩ := ar_cases h2
      rcases ha with rfl | rfl
      · by_cases h3 : (262144 : Int) < (x.t.length : Int) + (tx.length : Int)
        · exact rDoFull0 x y X ca Y cb kd T ct tx h h2 h3 hx htx w
        · rcases hk with rfl | ⟨rfl, rfl⟩ | ⟨rfl, rfl⟩
          · exact rDoOk20 x y X ca Y cb T ct tx h h2 (by omega) w hX hY hT
          · exact rDoOk10 x y X ca Y cb T ct [] h h2 (by omega) w hX hY
          · exact rDoOk30 x y X ca Y cb T ct [] h h2 (by omega) w hX hY
      · by_cases h3 : (262144 : Int) < (y.t.length : Int) + (tx.length : Int)
        · exact rDoFull1 x y X ca Y cb kd T ct tx h h2 h3 hy htx w
        · rcases hk with rfl | ⟨rfl, rfl⟩ | ⟨rfl, rfl⟩
          · exact rDoOk21 x y X ca Y cb T ct tx h h2 (by omega) w hX hY hT
          · exact rDoOk11 x y X ca Y cb T ct [] h h2 (by omega) w hX hY
          · exact rDoOk31 x y X ca Y cb T ct [] h h2 (by omega) w hX hY
/-- log.Do. -/
theorem lDo (x y : AV) (X : Option Addr) (ca : Nat) (Y : Option Addr) (cb : Nat) (kd ar : Int) (T : Option Addr) (ct : Nat) (tx : List Int) (hx : x.t.length ≤ 300000) (hy : y.t.length ≤ 300000) (htx : tx.length ≤ 300000) (w : World) (hX : TAt w X x.t) (hY : TAt w Y y.t) (hT : TAt w T tx) :
    Calls Try.prog 28 #[.agg #[.slice X x.t.length ca, .int .i64 x.k, .slice Y y.t.length cb, .int .i64 y.k], .agg #[.int .u8 kd, .int .i64 ar, .slice T tx.length ct]] w fun e w' => ∃ v, e = .returned (.tuple #[v, .int .i64 (doE ⟨x, y⟩ kd ar tx)]) ∧ RetL w' w.heap.size (doL ⟨x, y⟩ kd ar tx) v ∧ Below w.heap.size w w' := by
  cases h : mayL ⟨x, y⟩
  · exact lDoBad x y X ca Y cb kd ar T ct tx h w
  · cases h2 : mayAct kd ar tx
    · exact lDoArg x y X ca Y cb kd ar T ct tx h h2 w
    · obtain ⟨ha, hk⟩ := ar_cases h2
      obtain ⟨l1, l2, _, _, _, _⟩ := mayL_len h
      have hb : deedB kd = true := deedB_iff.2 (by rcases hk with h | ⟨h, _⟩ | ⟨h, _⟩ <;> omega)
      have hpos : ∀ n : Nat, n ≤ 262144 → (262144 : Int) < (n : Int) + (tx.length : Int) → (0 : Int) < tx.length := fun n h1 h2 => by omega
      have hk2 : (0 : Int) < tx.length → (kd != 2) = false := fun h0 => by
        rcases hk with rfl | ⟨_, rfl⟩ | ⟨_, rfl⟩
        · rfl
        · simp at h0
        · simp at h0
      rcases ha with rfl | rfl
      · by_cases h3 : (262144 : Int) < (x.t.length : Int) + (tx.length : Int)
        · obtain ⟨E1, E2⟩ := doE_full h h2 (by simpa [LV.of] using h3)
          rw [E1, E2]
          exact lDoFullK0 x y X ca Y cb kd T ct tx h hb (hpos _ l1 h3) (hk2 (hpos _ l1 h3)) h3 l1 htx w
        · obtain ⟨E1, E2⟩ := doE_ok h h2 (by simpa [LV.of] using h3)
          rw [E1, E2]
          rcases hk with rfl | ⟨rfl, rfl⟩ | ⟨rfl, rfl⟩
          · by_cases h0 : (0 : Int) < tx.length
            · exact lDoOkP20 x y X ca Y cb T ct tx h h0 (by omega) w hX hY hT
            · exact lDoOkZ20 x y X ca Y cb T ct tx h (List.eq_nil_of_length_eq_zero (by omega)) (by omega) w hX hY hT
          · exact lDoOk10 x y X ca Y cb T ct [] h rfl (by omega) w hX hY
          · exact lDoOk30 x y X ca Y cb T ct [] h rfl (by omega) w hX hY
      · by_cases h3 : (262144 : Int) < (y.t.length : Int) + (tx.length : Int)
        · obtain ⟨E1, E2⟩ := doE_full h h2 (by simpa [LV.of] using h3)
          rw [E1, E2]
          exact lDoFullK1 x y X ca Y cb kd T ct tx h hb (hpos _ l2 h3) (hk2 (hpos _ l2 h3)) h3 l2 htx w
        · obtain ⟨E1, E2⟩ := doE_ok h h2 (by simpa [LV.of] using h3)
          rw [E1, E2]
          rcases hk with rfl | ⟨rfl, rfl⟩ | ⟨rfl, rfl⟩
          · by_cases h0 : (0 : Int) < tx.length
            · exact lDoOkP21 x y X ca Y cb T ct tx h h0 (by omega) w hX hY hT
            · exact lDoOkZ21 x y X ca Y cb T ct tx h (List.eq_nil_of_length_eq_zero (by omega)) (by omega) w hX hY hT
          · exact lDoOk11 x y X ca Y cb T ct [] h rfl (by omega) w hX hY
          · exact lDoOk31 x y X ca Y cb T ct [] h rfl (by omega) w hX hY
/-- The reference's Crash. -/
theorem rCrash (x y : AV) (X : Option Addr) (ca : Nat) (Y : Option Addr) (cb : Nat) (m n : Int) (hca : x.t.length ≤ ca) (hcb : y.t.length ≤ cb) (w : World) (hX : TAt w X x.t) (hY : TAt w Y y.t) :
    Calls Try.prog 31 #[.agg #[.slice X x.t.length ca, .int .i64 x.k, .slice Y y.t.length cb, .int .i64 y.k], .agg #[.int .i64 m, .int .i64 n]] w fun e w' => ∃ v, e = .returned (.tuple #[v, .int .i64 (checkL ⟨x, y⟩)]) ∧ RetL w' w.heap.size (crashL ⟨x, y⟩ m n) v ∧ Below w.heap.size w w' := by
  cases h : mayL ⟨x, y⟩
  · exact rCrashBad x y X ca Y cb m n h w
  · obtain ⟨l1, l2, l3, l4, l5, l6⟩ := mayL_len h
    obtain ⟨t, k⟩ := x
    obtain ⟨u, q⟩ := y
    obtain ⟨p, rfl⟩ := Int.eq_ofNat_of_zero_le l3
    obtain ⟨q, rfl⟩ := Int.eq_ofNat_of_zero_le l5
    exact rCrashOk t u p q X ca Y cb m n l1 l2 (by simpa using l4) (by simpa using l6) hca hcb h w hX hY
/-- log.Crash. -/
theorem lCrash (x y : AV) (X : Option Addr) (ca : Nat) (Y : Option Addr) (cb : Nat) (m n : Int) (hca : x.t.length ≤ ca) (hcb : y.t.length ≤ cb) (w : World) (hX : TAt w X x.t) (hY : TAt w Y y.t) :
    Calls Try.prog 30 #[.agg #[.slice X x.t.length ca, .int .i64 x.k, .slice Y y.t.length cb, .int .i64 y.k], .agg #[.int .i64 m, .int .i64 n]] w fun e w' => ∃ v, e = .returned (.tuple #[v, .int .i64 (checkL ⟨x, y⟩)]) ∧ RetL w' w.heap.size (crashL ⟨x, y⟩ m n) v ∧ Below w.heap.size w w' := by
  cases h : mayL ⟨x, y⟩
  · exact lCrashBad x y X ca Y cb m n h w
  · obtain ⟨l1, l2, l3, l4, l5, l6⟩ := mayL_len h
    obtain ⟨t, k⟩ := x
    obtain ⟨u, q⟩ := y
    obtain ⟨p, rfl⟩ := Int.eq_ofNat_of_zero_le l3
    obtain ⟨q, rfl⟩ := Int.eq_ofNat_of_zero_le l5
    exact lCrashOk t u p q X ca Y cb m n l1 l2 (by simpa using l4) (by simpa using l6) hca hcb h w hX hY
/-! Boxes whose two rows are written through. -/
def MBox (w : World) (B g : Nat) : Prop := ∀ i, i < 2 → ∃ X n c, w.cell? ⟨g, i * 2, none⟩ = some (.slice X n c) ∧ n ≤ 4611686018427387904 ∧ TFree w B X n
theorem MBox.set_ {w : World} {B g : Nat} (h : MBox w B g) {p : Addr} {i u : Int} (hp : w.cell? p = some (.int .u8 i)) : MBox (w.setCell p (.int .u8 u)) B g := fun k hk => by
  obtain ⟨X, n, c, h1, h2, h3⟩ := h k hk
  exact ⟨X, n, c, cell_not_byte (v := 0) h1 hp (fun j e => by cases e), h2, h3.set_ p u⟩
theorem MBox.of {w : World} {B g : Nat} {t : TypeId} {X Y : Option Addr} {n m c c' : Nat} {k k' : Value} (h : Blk w g t #[.slice X n c, k, .slice Y m c', k']) (hn : n ≤ 4611686018427387904) (hm : m ≤ 4611686018427387904) (h1 : TFree w B X n) (h2 : TFree w B Y m) : MBox w B g := fun i hi => by
  match i, hi with
  | 0, _ => exact ⟨X, n, c, h.cell 0, hn, h1⟩
  | 1, _ => exact ⟨Y, m, c', h.cell 2, hm, h2⟩
end Go.Proofs.Ytfdldbfjeamlcaa.LogAll
