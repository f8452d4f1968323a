/- The program's Ends, Turns and Next, each by one contract for all partitions. -/
import Derived.Test.YtfndopemfhmhgaaPartEnds2
import Derived.Test.YtfndopemfhmhgaaPartNextA
import Derived.Test.YtfndopemfhmhgaaPartNextB
import Derived.Test.YtfndopemfhmhgaaPartNextC
import Derived.Test.YtfndopemfhmhgaaPartNextD
import Derived.Test.YtfndopemfhmhgaaPartNextE
import Derived.Test.YtfndopemfhmhgaaPartNextF
import Derived.Test.YtfndopemfhmhgaaPartTurn
namespace Go.Proofs.Ytfndopemfhmhgaa.PartAll
open Go.RowKit Mem PosMath PosCheck PartMath PartClass PartCheck PartEnds PartEnds2 PartTable PartNext PartNextA PartNextB PartNextC PartNextD PartNextE PartNextF PartTurn
set_option linter.unusedVariables false

theorem ends_any (a b c bo fr tr ag : Int) (X : Option Addr) (cp : Nat) (ks : List Cls) (hl : ks.length ≤ 9223372036854775807) (p : PV) (wall : Int) (w : World) (hk : ClsAt w w.heap.size X ks) :
    Calls Try.prog 14 #[.agg #[.int .i64 a, .int .i64 b, .int .i64 c, .int .i64 bo, .int .i64 fr, .int .i64 tr, .int .i64 ag, .slice X ks.length cp], .agg p.arr, .int .i64 wall] w (fun e w' => e = .returned (.tuple #[.int .i64 (endsV a b c bo fr tr ag ks p wall).1, .int .i64 (endsV a b c bo fr tr ag ks p wall).2]) ∧ Below w.heap.size w w') := by
  by_cases h : CfgOk a b c bo fr tr ag ks ∧ PartOk p.job p.ph p.tt p.si tr
  · by_cases hW : inB wall 1 1048576 = true
    · have ev : endsV a b c bo fr tr ag ks p wall = (capM (p.si + leftR p.ph bo wall fr), 0) := by
        unfold endsV; rw [if_pos h, if_pos hW]
      rw [ev]
      obtain ⟨h0, hp⟩ := h
      obtain ⟨job, x1, x2, x3, x4, x5, x6, t1, t2, t3, ph, tt, si⟩ := p
      have hph : ph = 1 ∨ ph = 2 ∨ ph = 3 := by
        have := hp.2.1; dsimp only at this; omega
      rcases hph with rfl | rfl | rfl
      · exact ends1 a b c bo fr tr ag X cp ks hl job x1 x2 x3 x4 x5 x6 t1 t2 t3 tt si wall h0 hp hW w hk
      · exact ends2 a b c bo fr tr ag X cp ks hl job x1 x2 x3 x4 x5 x6 t1 t2 t3 tt si wall h0 hp hW w hk
      · exact ends3 a b c bo fr tr ag X cp ks hl job x1 x2 x3 x4 x5 x6 t1 t2 t3 tt si wall h0 hp hW w hk
    · have ev : endsV a b c bo fr tr ag ks p wall = (0, 2) := by
        unfold endsV; rw [if_pos h, if_neg hW]
      rw [ev]
      exact ends_wall a b c bo fr tr ag X cp ks hl p.job p.x1 p.x2 p.x3 p.x4 p.x5 p.x6 p.t1 p.t2 p.t3 p.ph p.tt p.si wall h.1 h.2 (by simpa using hW) w hk
  · have ev : endsV a b c bo fr tr ag ks p wall = (0, 8) := by
      unfold endsV; rw [if_neg h]
    rw [ev]
    exact ends_bad a b c bo fr tr ag X cp ks hl p.job p.x1 p.x2 p.x3 p.x4 p.x5 p.x6 p.t1 p.t2 p.t3 p.ph p.tt p.si wall h w hk

theorem turns_any (a b c bo fr tr ag : Int) (X : Option Addr) (cp : Nat) (ks : List Cls) (hl : ks.length ≤ 9223372036854775807) (p : PV) (wall : Int) (w : World) (hk : ClsAt w w.heap.size X ks) :
    Calls Try.prog 16 #[.agg #[.int .i64 a, .int .i64 b, .int .i64 c, .int .i64 bo, .int .i64 fr, .int .i64 tr, .int .i64 ag, .slice X ks.length cp], .agg p.arr, .int .i64 wall] w (fun e w' => e = .returned (.tuple #[.int .i64 (turnsV a b c bo fr tr ag ks p wall).1, .int .i64 (turnsV a b c bo fr tr ag ks p wall).2]) ∧ Below w.heap.size w w') := by
  by_cases h : CfgOk a b c bo fr tr ag ks ∧ PartOk p.job p.ph p.tt p.si tr
  · by_cases hW : inB wall 1 1048576 = true
    · have ev : turnsV a b c bo fr tr ag ks p wall = (capM (p.si + clockR p.ph bo wall fr), 0) := by
        unfold turnsV; rw [if_pos h, if_pos hW]
      rw [ev]
      obtain ⟨h0, hp⟩ := h
      obtain ⟨job, x1, x2, x3, x4, x5, x6, t1, t2, t3, ph, tt, si⟩ := p
      have hph : ph = 1 ∨ ph = 2 ∨ ph = 3 := by
        have := hp.2.1; dsimp only at this; omega
      rcases hph with rfl | rfl | rfl
      · exact turns1 a b c bo fr tr ag X cp ks hl job x1 x2 x3 x4 x5 x6 t1 t2 t3 tt si wall h0 hp hW w hk
      · exact turns2 a b c bo fr tr ag X cp ks hl job x1 x2 x3 x4 x5 x6 t1 t2 t3 tt si wall h0 hp hW w hk
      · exact turns3 a b c bo fr tr ag X cp ks hl job x1 x2 x3 x4 x5 x6 t1 t2 t3 tt si wall h0 hp hW w hk
    · have ev : turnsV a b c bo fr tr ag ks p wall = (0, 2) := by
        unfold turnsV; rw [if_pos h, if_neg hW]
      rw [ev]
      exact turns_wall a b c bo fr tr ag X cp ks hl p.job p.x1 p.x2 p.x3 p.x4 p.x5 p.x6 p.t1 p.t2 p.t3 p.ph p.tt p.si wall h.1 h.2 (by simpa using hW) w hk
  · have ev : turnsV a b c bo fr tr ag ks p wall = (0, 8) := by
      unfold turnsV; rw [if_neg h]
    rw [ev]
    exact turns_bad a b c bo fr tr ag X cp ks hl p.job p.x1 p.x2 p.x3 p.x4 p.x5 p.x6 p.t1 p.t2 p.t3 p.ph p.tt p.si wall h w hk

theorem nxt1 (a b c bo fr tr ag : Int) (X : Option Addr) (cp : Nat) (ks : List Cls) (hl : ks.length ≤ 9223372036854775807) (job x1 x2 x3 x4 x5 x6 : Int) (t1 t2 t3 : Bool) (tt si : Int) (turn now : Int) (h0 : CfgOk a b c bo fr tr ag ks) (hp : PartOk job 1 tt si tr) (h1 : 1 ≤ turn) (h8 : turn ≤ 8) (hN : inB now si 1099511627776 = true) (w : World) (hk : ClsAt w w.heap.size X ks) :
    Calls Try.prog 11 #[.agg #[.int .i64 a, .int .i64 b, .int .i64 c, .int .i64 bo, .int .i64 fr, .int .i64 tr, .int .i64 ag, .slice X ks.length cp], .agg (PV.mk job x1 x2 x3 x4 x5 x6 t1 t2 t3 1 tt si).arr, .int .u8 turn, .int .i64 now] w (fun e w' => e = .returned (.tuple #[.agg (nextV tr ⟨job, x1, x2, x3, x4, x5, x6, t1, t2, t3, 1, tt, si⟩ turn now).1.arr, .int .u8 (nextV tr ⟨job, x1, x2, x3, x4, x5, x6, t1, t2, t3, 1, tt, si⟩ turn now).2.1, .bool (nextV tr ⟨job, x1, x2, x3, x4, x5, x6, t1, t2, t3, 1, tt, si⟩ turn now).2.2.1, .int .i64 (nextV tr ⟨job, x1, x2, x3, x4, x5, x6, t1, t2, t3, 1, tt, si⟩ turn now).2.2.2]) ∧ Below w.heap.size w w') := by
  have ht8 : turn = 1 ∨ turn = 2 ∨ turn = 3 ∨ turn = 4 ∨ turn = 5 ∨ turn = 6 ∨ turn = 7 ∨ turn = 8 := by omega
  rcases ht8 with rfl | rfl | rfl | rfl | rfl | rfl | rfl | rfl
  · have ev : nextV tr ⟨job, x1, x2, x3, x4, x5, x6, t1, t2, t3, 1, tt, si⟩ 1 now = (⟨job, x1, x2, x3, x4, x5, x6, t1, t2, t3, 2, tt, now⟩, 0, false, 0) := by
      simp [nextV, hN]
    rw [ev]
    exact nx_turn a b c bo fr tr ag X cp ks hl job x1 x2 x3 x4 x5 x6 t1 t2 t3 1 tt si 1 now h0 hp (by decide) (by decide) hN 2 0 row1A (fun w => by kernel_rfl) (fun w => by kernel_rfl) (by decide) (by decide) w hk
  · by_cases ht : tt < tr
    · have ev : nextV tr ⟨job, x1, x2, x3, x4, x5, x6, t1, t2, t3, 1, tt, si⟩ 2 now = (⟨job, x1, x2, x3, x4, x5, x6, t1, t2, t3, 1, tt + 1, now⟩, 0, false, 0) := by
          simp [nextV, hN, ht]
      rw [ev]
      exact nx_again a b c bo fr tr ag X cp ks hl job x1 x2 x3 x4 x5 x6 t1 t2 t3 1 tt si 2 now h0 hp (by decide) (by decide) hN row2A (fun w => by kernel_rfl) (fun w => by kernel_rfl) rfl ht w hk
    · have ev : nextV tr ⟨job, x1, x2, x3, x4, x5, x6, t1, t2, t3, 1, tt, si⟩ 2 now = (⟨job, x1, x2, x3, x4, x5, x6, t1, t2, t3, 3, tr, now⟩, 6, false, 0) := by
          simp [nextV, hN, ht]
      rw [ev]
      exact nx_fails a b c bo fr tr ag X cp ks hl job x1 x2 x3 x4 x5 x6 t1 t2 t3 1 tt si 2 now h0 hp (by decide) (by decide) hN row2A (fun w => by kernel_rfl) (fun w => by kernel_rfl) rfl (by have := inB_true hp.2.2.1; omega) w hk
  · have ev : nextV tr ⟨job, x1, x2, x3, x4, x5, x6, t1, t2, t3, 1, tt, si⟩ 3 now = (PV.zero, 0, false, 250) := by
      simp [nextV, hN]
    rw [ev]
    exact nx_state a b c bo fr tr ag X cp ks hl job x1 x2 x3 x4 x5 x6 t1 t2 t3 1 tt si 3 now h0 hp (by decide) (by decide) hN 0 false false row3A (fun w => by kernel_rfl) (fun w => by kernel_rfl) w hk
  · have ev : nextV tr ⟨job, x1, x2, x3, x4, x5, x6, t1, t2, t3, 1, tt, si⟩ 4 now = (PV.zero, 0, false, 250) := by
      simp [nextV, hN]
    rw [ev]
    exact nx_state a b c bo fr tr ag X cp ks hl job x1 x2 x3 x4 x5 x6 t1 t2 t3 1 tt si 4 now h0 hp (by decide) (by decide) hN 0 false false row4A (fun w => by kernel_rfl) (fun w => by kernel_rfl) w hk
  · have ev : nextV tr ⟨job, x1, x2, x3, x4, x5, x6, t1, t2, t3, 1, tt, si⟩ 5 now = (PV.zero, 0, false, 250) := by
      simp [nextV, hN]
    rw [ev]
    exact nx_state a b c bo fr tr ag X cp ks hl job x1 x2 x3 x4 x5 x6 t1 t2 t3 1 tt si 5 now h0 hp (by decide) (by decide) hN 0 false false row5A (fun w => by kernel_rfl) (fun w => by kernel_rfl) w hk
  · have ev : nextV tr ⟨job, x1, x2, x3, x4, x5, x6, t1, t2, t3, 1, tt, si⟩ 6 now = (⟨job, x1, x2, x3, x4, x5, x6, t1, t2, t3, 3, tt, now⟩, 5, false, 0) := by
      simp [nextV, hN]
    rw [ev]
    exact nx_turn a b c bo fr tr ag X cp ks hl job x1 x2 x3 x4 x5 x6 t1 t2 t3 1 tt si 6 now h0 hp (by decide) (by decide) hN 3 5 row6A (fun w => by kernel_rfl) (fun w => by kernel_rfl) (by decide) (by decide) w hk
  · have ev : nextV tr ⟨job, x1, x2, x3, x4, x5, x6, t1, t2, t3, 1, tt, si⟩ 7 now = (⟨job, x1, x2, x3, x4, x5, x6, t1, t2, t3, 3, tt, now⟩, 6, false, 0) := by
      simp [nextV, hN]
    rw [ev]
    exact nx_turn a b c bo fr tr ag X cp ks hl job x1 x2 x3 x4 x5 x6 t1 t2 t3 1 tt si 7 now h0 hp (by decide) (by decide) hN 3 6 row7A (fun w => by kernel_rfl) (fun w => by kernel_rfl) (by decide) (by decide) w hk
  · have ev : nextV tr ⟨job, x1, x2, x3, x4, x5, x6, t1, t2, t3, 1, tt, si⟩ 8 now = (PV.zero, 0, false, 250) := by
      simp [nextV, hN]
    rw [ev]
    exact nx_state a b c bo fr tr ag X cp ks hl job x1 x2 x3 x4 x5 x6 t1 t2 t3 1 tt si 8 now h0 hp (by decide) (by decide) hN 0 false false row8A (fun w => by kernel_rfl) (fun w => by kernel_rfl) w hk
theorem nxt2 (a b c bo fr tr ag : Int) (X : Option Addr) (cp : Nat) (ks : List Cls) (hl : ks.length ≤ 9223372036854775807) (job x1 x2 x3 x4 x5 x6 : Int) (t1 t2 t3 : Bool) (tt si : Int) (turn now : Int) (h0 : CfgOk a b c bo fr tr ag ks) (hp : PartOk job 2 tt si tr) (h1 : 1 ≤ turn) (h8 : turn ≤ 8) (hN : inB now si 1099511627776 = true) (w : World) (hk : ClsAt w w.heap.size X ks) :
    Calls Try.prog 11 #[.agg #[.int .i64 a, .int .i64 b, .int .i64 c, .int .i64 bo, .int .i64 fr, .int .i64 tr, .int .i64 ag, .slice X ks.length cp], .agg (PV.mk job x1 x2 x3 x4 x5 x6 t1 t2 t3 2 tt si).arr, .int .u8 turn, .int .i64 now] w (fun e w' => e = .returned (.tuple #[.agg (nextV tr ⟨job, x1, x2, x3, x4, x5, x6, t1, t2, t3, 2, tt, si⟩ turn now).1.arr, .int .u8 (nextV tr ⟨job, x1, x2, x3, x4, x5, x6, t1, t2, t3, 2, tt, si⟩ turn now).2.1, .bool (nextV tr ⟨job, x1, x2, x3, x4, x5, x6, t1, t2, t3, 2, tt, si⟩ turn now).2.2.1, .int .i64 (nextV tr ⟨job, x1, x2, x3, x4, x5, x6, t1, t2, t3, 2, tt, si⟩ turn now).2.2.2]) ∧ Below w.heap.size w w') := by
  have ht8 : turn = 1 ∨ turn = 2 ∨ turn = 3 ∨ turn = 4 ∨ turn = 5 ∨ turn = 6 ∨ turn = 7 ∨ turn = 8 := by omega
  rcases ht8 with rfl | rfl | rfl | rfl | rfl | rfl | rfl | rfl
  · have ev : nextV tr ⟨job, x1, x2, x3, x4, x5, x6, t1, t2, t3, 2, tt, si⟩ 1 now = (PV.zero, 0, false, 250) := by
      simp [nextV, hN]
    rw [ev]
    exact nx_state a b c bo fr tr ag X cp ks hl job x1 x2 x3 x4 x5 x6 t1 t2 t3 2 tt si 1 now h0 hp (by decide) (by decide) hN 0 false false row1A (fun w => by kernel_rfl) (fun w => by kernel_rfl) w hk
  · have ev : nextV tr ⟨job, x1, x2, x3, x4, x5, x6, t1, t2, t3, 2, tt, si⟩ 2 now = (PV.zero, 0, false, 250) := by
      simp [nextV, hN]
    rw [ev]
    exact nx_state a b c bo fr tr ag X cp ks hl job x1 x2 x3 x4 x5 x6 t1 t2 t3 2 tt si 2 now h0 hp (by decide) (by decide) hN 0 false false row2A (fun w => by kernel_rfl) (fun w => by kernel_rfl) w hk
  · have ev : nextV tr ⟨job, x1, x2, x3, x4, x5, x6, t1, t2, t3, 2, tt, si⟩ 3 now = (⟨job, x1, x2, x3, x4, x5, x6, t1, t2, t3, 3, tt, now⟩, 3, false, 0) := by
      simp [nextV, hN]
    rw [ev]
    exact nx_turn a b c bo fr tr ag X cp ks hl job x1 x2 x3 x4 x5 x6 t1 t2 t3 2 tt si 3 now h0 hp (by decide) (by decide) hN 3 3 row3A (fun w => by kernel_rfl) (fun w => by kernel_rfl) (by decide) (by decide) w hk
  · have ev : nextV tr ⟨job, x1, x2, x3, x4, x5, x6, t1, t2, t3, 2, tt, si⟩ 4 now = (⟨job, x1, x2, x3, x4, x5, x6, t1, t2, t3, 3, tt, now⟩, 6, false, 0) := by
      simp [nextV, hN]
    rw [ev]
    exact nx_turn a b c bo fr tr ag X cp ks hl job x1 x2 x3 x4 x5 x6 t1 t2 t3 2 tt si 4 now h0 hp (by decide) (by decide) hN 3 6 row4A (fun w => by kernel_rfl) (fun w => by kernel_rfl) (by decide) (by decide) w hk
  · have ev : nextV tr ⟨job, x1, x2, x3, x4, x5, x6, t1, t2, t3, 2, tt, si⟩ 5 now = (⟨job, x1, x2, x3, x4, x5, x6, t1, t2, t3, 3, tt, now⟩, 4, false, 0) := by
      simp [nextV, hN]
    rw [ev]
    exact nx_turn a b c bo fr tr ag X cp ks hl job x1 x2 x3 x4 x5 x6 t1 t2 t3 2 tt si 5 now h0 hp (by decide) (by decide) hN 3 4 row5A (fun w => by kernel_rfl) (fun w => by kernel_rfl) (by decide) (by decide) w hk
  · have ev : nextV tr ⟨job, x1, x2, x3, x4, x5, x6, t1, t2, t3, 2, tt, si⟩ 6 now = (⟨job, x1, x2, x3, x4, x5, x6, t1, t2, t3, 3, tt, now⟩, 5, false, 0) := by
      simp [nextV, hN]
    rw [ev]
    exact nx_turn a b c bo fr tr ag X cp ks hl job x1 x2 x3 x4 x5 x6 t1 t2 t3 2 tt si 6 now h0 hp (by decide) (by decide) hN 3 5 row6A (fun w => by kernel_rfl) (fun w => by kernel_rfl) (by decide) (by decide) w hk
  · have ev : nextV tr ⟨job, x1, x2, x3, x4, x5, x6, t1, t2, t3, 2, tt, si⟩ 7 now = (⟨job, x1, x2, x3, x4, x5, x6, t1, t2, t3, 3, tt, now⟩, 6, false, 0) := by
      simp [nextV, hN]
    rw [ev]
    exact nx_turn a b c bo fr tr ag X cp ks hl job x1 x2 x3 x4 x5 x6 t1 t2 t3 2 tt si 7 now h0 hp (by decide) (by decide) hN 3 6 row7A (fun w => by kernel_rfl) (fun w => by kernel_rfl) (by decide) (by decide) w hk
  · have ev : nextV tr ⟨job, x1, x2, x3, x4, x5, x6, t1, t2, t3, 2, tt, si⟩ 8 now = (PV.zero, 0, false, 250) := by
      simp [nextV, hN]
    rw [ev]
    exact nx_state a b c bo fr tr ag X cp ks hl job x1 x2 x3 x4 x5 x6 t1 t2 t3 2 tt si 8 now h0 hp (by decide) (by decide) hN 0 false false row8A (fun w => by kernel_rfl) (fun w => by kernel_rfl) w hk
theorem nxt3 (a b c bo fr tr ag : Int) (X : Option Addr) (cp : Nat) (ks : List Cls) (hl : ks.length ≤ 9223372036854775807) (job x1 x2 x3 x4 x5 x6 : Int) (t1 t2 t3 : Bool) (tt si : Int) (turn now : Int) (h0 : CfgOk a b c bo fr tr ag ks) (hp : PartOk job 3 tt si tr) (h1 : 1 ≤ turn) (h8 : turn ≤ 8) (hN : inB now si 1099511627776 = true) (w : World) (hk : ClsAt w w.heap.size X ks) :
    Calls Try.prog 11 #[.agg #[.int .i64 a, .int .i64 b, .int .i64 c, .int .i64 bo, .int .i64 fr, .int .i64 tr, .int .i64 ag, .slice X ks.length cp], .agg (PV.mk job x1 x2 x3 x4 x5 x6 t1 t2 t3 3 tt si).arr, .int .u8 turn, .int .i64 now] w (fun e w' => e = .returned (.tuple #[.agg (nextV tr ⟨job, x1, x2, x3, x4, x5, x6, t1, t2, t3, 3, tt, si⟩ turn now).1.arr, .int .u8 (nextV tr ⟨job, x1, x2, x3, x4, x5, x6, t1, t2, t3, 3, tt, si⟩ turn now).2.1, .bool (nextV tr ⟨job, x1, x2, x3, x4, x5, x6, t1, t2, t3, 3, tt, si⟩ turn now).2.2.1, .int .i64 (nextV tr ⟨job, x1, x2, x3, x4, x5, x6, t1, t2, t3, 3, tt, si⟩ turn now).2.2.2]) ∧ Below w.heap.size w w') := by
  have ht8 : turn = 1 ∨ turn = 2 ∨ turn = 3 ∨ turn = 4 ∨ turn = 5 ∨ turn = 6 ∨ turn = 7 ∨ turn = 8 := by omega
  rcases ht8 with rfl | rfl | rfl | rfl | rfl | rfl | rfl | rfl
  · have ev : nextV tr ⟨job, x1, x2, x3, x4, x5, x6, t1, t2, t3, 3, tt, si⟩ 1 now = (PV.zero, 0, false, 250) := by
      simp [nextV, hN]
    rw [ev]
    exact nx_state a b c bo fr tr ag X cp ks hl job x1 x2 x3 x4 x5 x6 t1 t2 t3 3 tt si 1 now h0 hp (by decide) (by decide) hN 0 false false row1A (fun w => by kernel_rfl) (fun w => by kernel_rfl) w hk
  · have ev : nextV tr ⟨job, x1, x2, x3, x4, x5, x6, t1, t2, t3, 3, tt, si⟩ 2 now = (PV.zero, 0, false, 250) := by
      simp [nextV, hN]
    rw [ev]
    exact nx_state a b c bo fr tr ag X cp ks hl job x1 x2 x3 x4 x5 x6 t1 t2 t3 3 tt si 2 now h0 hp (by decide) (by decide) hN 0 false false row2A (fun w => by kernel_rfl) (fun w => by kernel_rfl) w hk
  · have ev : nextV tr ⟨job, x1, x2, x3, x4, x5, x6, t1, t2, t3, 3, tt, si⟩ 3 now = (PV.zero, 0, false, 250) := by
      simp [nextV, hN]
    rw [ev]
    exact nx_state a b c bo fr tr ag X cp ks hl job x1 x2 x3 x4 x5 x6 t1 t2 t3 3 tt si 3 now h0 hp (by decide) (by decide) hN 0 false false row3A (fun w => by kernel_rfl) (fun w => by kernel_rfl) w hk
  · have ev : nextV tr ⟨job, x1, x2, x3, x4, x5, x6, t1, t2, t3, 3, tt, si⟩ 4 now = (PV.zero, 0, false, 250) := by
      simp [nextV, hN]
    rw [ev]
    exact nx_state a b c bo fr tr ag X cp ks hl job x1 x2 x3 x4 x5 x6 t1 t2 t3 3 tt si 4 now h0 hp (by decide) (by decide) hN 0 false false row4A (fun w => by kernel_rfl) (fun w => by kernel_rfl) w hk
  · have ev : nextV tr ⟨job, x1, x2, x3, x4, x5, x6, t1, t2, t3, 3, tt, si⟩ 5 now = (PV.zero, 0, false, 250) := by
      simp [nextV, hN]
    rw [ev]
    exact nx_state a b c bo fr tr ag X cp ks hl job x1 x2 x3 x4 x5 x6 t1 t2 t3 3 tt si 5 now h0 hp (by decide) (by decide) hN 0 false false row5A (fun w => by kernel_rfl) (fun w => by kernel_rfl) w hk
  · have ev : nextV tr ⟨job, x1, x2, x3, x4, x5, x6, t1, t2, t3, 3, tt, si⟩ 6 now = (PV.zero, 0, false, 250) := by
      simp [nextV, hN]
    rw [ev]
    exact nx_state a b c bo fr tr ag X cp ks hl job x1 x2 x3 x4 x5 x6 t1 t2 t3 3 tt si 6 now h0 hp (by decide) (by decide) hN 0 false false row6A (fun w => by kernel_rfl) (fun w => by kernel_rfl) w hk
  · have ev : nextV tr ⟨job, x1, x2, x3, x4, x5, x6, t1, t2, t3, 3, tt, si⟩ 7 now = (⟨job, x1, x2, x3, x4, x5, x6, t1, t2, t3, 3, tt, si⟩, 0, false, 0) := by
      simp [nextV, hN]
    rw [ev]
    exact nx_stay a b c bo fr tr ag X cp ks hl job x1 x2 x3 x4 x5 x6 t1 t2 t3 3 tt si 7 now h0 hp (by decide) (by decide) hN 0 row7A (fun w => by kernel_rfl) (fun w => by kernel_rfl) w hk
  · have ev : nextV tr ⟨job, x1, x2, x3, x4, x5, x6, t1, t2, t3, 3, tt, si⟩ 8 now = (PV.zero, 0, true, 0) := by
      simp [nextV, hN]
    rw [ev]
    exact nx_gone a b c bo fr tr ag X cp ks hl job x1 x2 x3 x4 x5 x6 t1 t2 t3 3 tt si 8 now h0 hp (by decide) (by decide) hN 0 false row8A (fun w => by kernel_rfl) (fun w => by kernel_rfl) w hk
theorem next_any (a b c bo fr tr ag : Int) (X : Option Addr) (cp : Nat) (ks : List Cls) (hl : ks.length ≤ 9223372036854775807) (p : PV) (turn now : Int) (w : World) (hk : ClsAt w w.heap.size X ks) :
    Calls Try.prog 11 #[.agg #[.int .i64 a, .int .i64 b, .int .i64 c, .int .i64 bo, .int .i64 fr, .int .i64 tr, .int .i64 ag, .slice X ks.length cp], .agg p.arr, .int .u8 turn, .int .i64 now] w (fun e w' => e = .returned (.tuple #[.agg (nextA a b c bo fr tr ag ks p turn now).1.arr, .int .u8 (nextA a b c bo fr tr ag ks p turn now).2.1, .bool (nextA a b c bo fr tr ag ks p turn now).2.2.1, .int .i64 (nextA a b c bo fr tr ag ks p turn now).2.2.2]) ∧ Below w.heap.size w w') := by
  by_cases h : CfgOk a b c bo fr tr ag ks ∧ PartOk p.job p.ph p.tt p.si tr
  · have ev : nextA a b c bo fr tr ag ks p turn now = nextV tr p turn now := by unfold nextA; rw [if_pos h]
    rw [ev]
    by_cases h1 : turn < 1
    · rw [show nextV tr p turn now = (PV.zero, 0, false, 2) by unfold nextV; rw [if_pos (Or.inl h1)]]
      exact next_lo a b c bo fr tr ag X cp ks hl p.job p.x1 p.x2 p.x3 p.x4 p.x5 p.x6 p.t1 p.t2 p.t3 p.ph p.tt p.si turn now h.1 h.2 h1 w hk
    · by_cases h8 : 8 < turn
      · rw [show nextV tr p turn now = (PV.zero, 0, false, 2) by unfold nextV; rw [if_pos (Or.inr (Or.inl h8))]]
        exact next_hi a b c bo fr tr ag X cp ks hl p.job p.x1 p.x2 p.x3 p.x4 p.x5 p.x6 p.t1 p.t2 p.t3 p.ph p.tt p.si turn now h.1 h.2 (by omega) h8 w hk
      · by_cases hN : inB now p.si 1099511627776 = true
        · obtain ⟨h0, hp⟩ := h
          obtain ⟨job, x1, x2, x3, x4, x5, x6, t1, t2, t3, ph, tt, si⟩ := p
          have hph : ph = 1 ∨ ph = 2 ∨ ph = 3 := by
            have := hp.2.1; dsimp only at this; omega
          rcases hph with rfl | rfl | rfl
          · exact nxt1 a b c bo fr tr ag X cp ks hl job x1 x2 x3 x4 x5 x6 t1 t2 t3 tt si turn now h0 hp (by omega) (by omega) hN w hk
          · exact nxt2 a b c bo fr tr ag X cp ks hl job x1 x2 x3 x4 x5 x6 t1 t2 t3 tt si turn now h0 hp (by omega) (by omega) hN w hk
          · exact nxt3 a b c bo fr tr ag X cp ks hl job x1 x2 x3 x4 x5 x6 t1 t2 t3 tt si turn now h0 hp (by omega) (by omega) hN w hk
        · rw [show nextV tr p turn now = (PV.zero, 0, false, 2) by unfold nextV; rw [if_pos (Or.inr (Or.inr (by simpa using hN)))]]
          exact next_now a b c bo fr tr ag X cp ks hl p.job p.x1 p.x2 p.x3 p.x4 p.x5 p.x6 p.t1 p.t2 p.t3 p.ph p.tt p.si turn now h.1 h.2 (by omega) (by omega) (by simpa using hN) w hk
  · have ev : nextA a b c bo fr tr ag ks p turn now = (PV.zero, 0, false, 8) := by unfold nextA; rw [if_neg h]
    rw [ev]
    exact next_bad a b c bo fr tr ag X cp ks hl p.job p.x1 p.x2 p.x3 p.x4 p.x5 p.x6 p.t1 p.t2 p.t3 p.ph p.tt p.si turn now h w hk
end Go.Proofs.Ytfndopemfhmhgaa.PartAll
