/- rec.port's num, where it writes. No conditions but those named. -/
import Derived.Laws.BitsAllLaws
import Derived.Test.YtfdldbfjeamlcaaRecByte
namespace Go.Proofs.Ytfdldbfjeamlcaa.RecNum
open Go.RowKit Mem RecMem RecByte
set_option linter.unusedVariables false
set_option linter.unusedSimpArgs false

/-- A number's bytes. -/
def byteAt (R : Int) (k : Nat) : Int := R / 256 ^ k % 256
def numB (R : Int) : List Int := (List.range 8).map (byteAt R)
theorem i64_in {x : Int} (h : (Lit.int .i64 x).wf = true) : -9223372036854775808 ≤ x ∧ x ≤ 9223372036854775807 := by simpa [Lit.wf, IntKind.min, IntKind.max, IntKind.signed, IntKind.bits] using h
theorem numB_len (R : Int) : (numB R).length = 8 := by simp [numB]
set_option maxRecDepth 100000 in
set_option maxHeartbeats 4000000 in
theorem wnum (gp : Nat) (v : Value) (t : List Int) (od : Bool) (b o : Nat) (n : Int) (hn : (Lit.int .i64 n).wf = true) (hl : t.length ≤ 900000) (w : World) (hP : PW w gp v t od) (ha : w.cell? ⟨b, o, none⟩ = some (.int .i64 n)) (hfz : w.frozen? ⟨b, o, none⟩ = false) (hF : Far gp v w b) :
    Calls Try.prog 74 #[.pointer (some ⟨gp, 0, none⟩), .pointer (some ⟨b, o, none⟩)] w fun e w' => (∃ r, e = .returned r) ∧ ∃ v', PW w' gp v' (t ++ numB (IntKind.u64.wrap n)) od ∧ Fr gp v w v' w' := by
  have HP := Lib.hid (And.intro hP (And.intro ha (And.intro hfz hF)))
  have hbs : b < w.heap.size := cell_lt ha
  clear hP hfz hF
  have hi := i64_in hn
  have hR0 : 0 ≤ IntKind.u64.wrap n := by rw [IntKind.wrap_u64]; omega
  have hR1 : IntKind.u64.wrap n < 18446744073709551616 := by rw [IntKind.wrap_u64]; omega
  have hR2 : wrap64 (IntKind.u64.wrap n % 18446744073709551616) = n := by
    rw [IntKind.wrap_u64]
    unfold wrap64
    omega
  have HR2 := Lib.hid hR2
  clear hR2
  generalize hR : IntKind.u64.wrap n = R at *
  go_enter Try.func74, Try.ntmps74
  go_wp2_with fail
  go_loopw [5, 6, 7, 12] (fun out _ _ i wr => ∃ (k : Nat) (v' : Value), k ≤ 8 ∧ i = .int .i64 k ∧ out = .int .u64 (R % 256 ^ k) ∧ Hid (PW wr gp v' (t ++ (numB R).take k) od) ∧ Hid (Fr gp v w v' wr))
    (fun _ _ _ i _ => 8 - (intOf i).toNat)
  case atStart => exact ⟨0, v, by omega, rfl, by simp, by show PW w gp v (t ++ []) od; rw [List.append_nil]; exact HP.out.1, Fr.refl _ _ _⟩
  case round =>
    obtain ⟨k, v', hk, rfl, rfl, hP', hFr⟩ := hrel
    match k, hk with
    | 0, _ =>
      have HC := Lib.hid (wbyte gp v' (t ++ (numB R).take 0) od wr.heap.size 0 (R % 256) (by simp [numB]; omega) (wr.alloc (.cells #[.int .u8 (R % 256)] 5)) (hP'.out.alloc _) (box0 _ _ _ 0))
      have hnew := hP'.out.new (.cells #[.int .u8 (R % 256)] 5)
      go_wp2_with fail
      refine HC.out.mono ?_
      rintro e w2 ⟨⟨r, rfl⟩, v2, hP2, hF2⟩
      have cc : w2.cell? ⟨wr.heap.size, 0, none⟩ = some (.int .u8 (R % 256)) := hF2.cell hnew (box0 _ _ _ 0)
      have H2 := Lib.hid (And.intro hP2 ((hFr.out.alloc (.cells #[.int .u8 (R % 256)] 5)).trans hF2))
      clear hP2 hF2 HC hnew
      go_wp2_with fail
      go_roundw
      case measure => simp [intOf]
      refine ⟨1, v2, by omega, rfl, ?_, ?_, H2.out.2⟩
      · rw [show (256 : Int) ^ 1 = 256 from by decide]
        congr 1
        rw [Go.u64_or 0 (R % 256) (by omega) (by omega) (by omega) (by omega)]
        simp
        omega
      · have := H2.out.1
        rwa [List.append_assoc, show (numB R).take 0 ++ [R % 256] = (numB R).take 1 from by simp [numB, byteAt, List.range, List.range.loop]] at this
    | 1, _ =>
      have HC := Lib.hid (wbyte gp v' (t ++ (numB R).take 1) od wr.heap.size 0 (R / 256 % 256) (by simp [numB]; omega) (wr.alloc (.cells #[.int .u8 (R / 256 % 256)] 5)) (hP'.out.alloc _) (box0 _ _ _ 0))
      have hnew := hP'.out.new (.cells #[.int .u8 (R / 256 % 256)] 5)
      go_wp2_with fail
      refine HC.out.mono ?_
      rintro e w2 ⟨⟨r, rfl⟩, v2, hP2, hF2⟩
      have cc : w2.cell? ⟨wr.heap.size, 0, none⟩ = some (.int .u8 (R / 256 % 256)) := hF2.cell hnew (box0 _ _ _ 0)
      have H2 := Lib.hid (And.intro hP2 ((hFr.out.alloc (.cells #[.int .u8 (R / 256 % 256)] 5)).trans hF2))
      clear hP2 hF2 HC hnew
      go_wp2_with fail
      go_roundw
      case measure => simp [intOf]
      refine ⟨2, v2, by omega, rfl, ?_, ?_, H2.out.2⟩
      · rw [show (256 : Int) ^ 2 = 65536 from by decide]
        congr 1
        rw [Go.u64_or (R % 256) (R / 256 % 256 * 256) (by omega) (by omega) (by omega) (by omega)]
        have e1 := Nat.two_pow_add_eq_or_of_lt (i := 8) (b := (R % 256).toNat) (by omega) (R / 256 % 256).toNat
        have e2 : (R / 256 % 256 * 256).toNat = 2 ^ 8 * (R / 256 % 256).toNat := by omega
        rw [e2, Nat.or_comm, ← e1]
        omega
      · have := H2.out.1
        rwa [List.append_assoc, show (numB R).take 1 ++ [R / 256 % 256] = (numB R).take 2 from by simp [numB, byteAt, List.range, List.range.loop]] at this
    | 2, _ =>
      have HC := Lib.hid (wbyte gp v' (t ++ (numB R).take 2) od wr.heap.size 0 (R / 65536 % 256) (by simp [numB]; omega) (wr.alloc (.cells #[.int .u8 (R / 65536 % 256)] 5)) (hP'.out.alloc _) (box0 _ _ _ 0))
      have hnew := hP'.out.new (.cells #[.int .u8 (R / 65536 % 256)] 5)
      go_wp2_with fail
      refine HC.out.mono ?_
      rintro e w2 ⟨⟨r, rfl⟩, v2, hP2, hF2⟩
      have cc : w2.cell? ⟨wr.heap.size, 0, none⟩ = some (.int .u8 (R / 65536 % 256)) := hF2.cell hnew (box0 _ _ _ 0)
      have H2 := Lib.hid (And.intro hP2 ((hFr.out.alloc (.cells #[.int .u8 (R / 65536 % 256)] 5)).trans hF2))
      clear hP2 hF2 HC hnew
      go_wp2_with fail
      go_roundw
      case measure => simp [intOf]
      refine ⟨3, v2, by omega, rfl, ?_, ?_, H2.out.2⟩
      · rw [show (256 : Int) ^ 3 = 16777216 from by decide]
        congr 1
        rw [Go.u64_or (R % 65536) (R / 65536 % 256 * 65536) (by omega) (by omega) (by omega) (by omega)]
        have e1 := Nat.two_pow_add_eq_or_of_lt (i := 16) (b := (R % 65536).toNat) (by omega) (R / 65536 % 256).toNat
        have e2 : (R / 65536 % 256 * 65536).toNat = 2 ^ 16 * (R / 65536 % 256).toNat := by omega
        rw [e2, Nat.or_comm, ← e1]
        omega
      · have := H2.out.1
        rwa [List.append_assoc, show (numB R).take 2 ++ [R / 65536 % 256] = (numB R).take 3 from by simp [numB, byteAt, List.range, List.range.loop]] at this
    | 3, _ =>
      have HC := Lib.hid (wbyte gp v' (t ++ (numB R).take 3) od wr.heap.size 0 (R / 16777216 % 256) (by simp [numB]; omega) (wr.alloc (.cells #[.int .u8 (R / 16777216 % 256)] 5)) (hP'.out.alloc _) (box0 _ _ _ 0))
      have hnew := hP'.out.new (.cells #[.int .u8 (R / 16777216 % 256)] 5)
      go_wp2_with fail
      refine HC.out.mono ?_
      rintro e w2 ⟨⟨r, rfl⟩, v2, hP2, hF2⟩
      have cc : w2.cell? ⟨wr.heap.size, 0, none⟩ = some (.int .u8 (R / 16777216 % 256)) := hF2.cell hnew (box0 _ _ _ 0)
      have H2 := Lib.hid (And.intro hP2 ((hFr.out.alloc (.cells #[.int .u8 (R / 16777216 % 256)] 5)).trans hF2))
      clear hP2 hF2 HC hnew
      go_wp2_with fail
      go_roundw
      case measure => simp [intOf]
      refine ⟨4, v2, by omega, rfl, ?_, ?_, H2.out.2⟩
      · rw [show (256 : Int) ^ 4 = 4294967296 from by decide]
        congr 1
        rw [Go.u64_or (R % 16777216) (R / 16777216 % 256 * 16777216) (by omega) (by omega) (by omega) (by omega)]
        have e1 := Nat.two_pow_add_eq_or_of_lt (i := 24) (b := (R % 16777216).toNat) (by omega) (R / 16777216 % 256).toNat
        have e2 : (R / 16777216 % 256 * 16777216).toNat = 2 ^ 24 * (R / 16777216 % 256).toNat := by omega
        rw [e2, Nat.or_comm, ← e1]
        omega
      · have := H2.out.1
        rwa [List.append_assoc, show (numB R).take 3 ++ [R / 16777216 % 256] = (numB R).take 4 from by simp [numB, byteAt, List.range, List.range.loop]] at this
    | 4, _ =>
      have HC := Lib.hid (wbyte gp v' (t ++ (numB R).take 4) od wr.heap.size 0 (R / 4294967296 % 256) (by simp [numB]; omega) (wr.alloc (.cells #[.int .u8 (R / 4294967296 % 256)] 5)) (hP'.out.alloc _) (box0 _ _ _ 0))
      have hnew := hP'.out.new (.cells #[.int .u8 (R / 4294967296 % 256)] 5)
      go_wp2_with fail
      refine HC.out.mono ?_
      rintro e w2 ⟨⟨r, rfl⟩, v2, hP2, hF2⟩
      have cc : w2.cell? ⟨wr.heap.size, 0, none⟩ = some (.int .u8 (R / 4294967296 % 256)) := hF2.cell hnew (box0 _ _ _ 0)
      have H2 := Lib.hid (And.intro hP2 ((hFr.out.alloc (.cells #[.int .u8 (R / 4294967296 % 256)] 5)).trans hF2))
      clear hP2 hF2 HC hnew
      go_wp2_with fail
      go_roundw
      case measure => simp [intOf]
      refine ⟨5, v2, by omega, rfl, ?_, ?_, H2.out.2⟩
      · rw [show (256 : Int) ^ 5 = 1099511627776 from by decide]
        congr 1
        rw [Go.u64_or (R % 4294967296) (R / 4294967296 % 256 * 4294967296) (by omega) (by omega) (by omega) (by omega)]
        have e1 := Nat.two_pow_add_eq_or_of_lt (i := 32) (b := (R % 4294967296).toNat) (by omega) (R / 4294967296 % 256).toNat
        have e2 : (R / 4294967296 % 256 * 4294967296).toNat = 2 ^ 32 * (R / 4294967296 % 256).toNat := by omega
        rw [e2, Nat.or_comm, ← e1]
        omega
      · have := H2.out.1
        rwa [List.append_assoc, show (numB R).take 4 ++ [R / 4294967296 % 256] = (numB R).take 5 from by simp [numB, byteAt, List.range, List.range.loop]] at this
    | 5, _ =>
      have HC := Lib.hid (wbyte gp v' (t ++ (numB R).take 5) od wr.heap.size 0 (R / 1099511627776 % 256) (by simp [numB]; omega) (wr.alloc (.cells #[.int .u8 (R / 1099511627776 % 256)] 5)) (hP'.out.alloc _) (box0 _ _ _ 0))
      have hnew := hP'.out.new (.cells #[.int .u8 (R / 1099511627776 % 256)] 5)
      go_wp2_with fail
      refine HC.out.mono ?_
      rintro e w2 ⟨⟨r, rfl⟩, v2, hP2, hF2⟩
      have cc : w2.cell? ⟨wr.heap.size, 0, none⟩ = some (.int .u8 (R / 1099511627776 % 256)) := hF2.cell hnew (box0 _ _ _ 0)
      have H2 := Lib.hid (And.intro hP2 ((hFr.out.alloc (.cells #[.int .u8 (R / 1099511627776 % 256)] 5)).trans hF2))
      clear hP2 hF2 HC hnew
      go_wp2_with fail
      go_roundw
      case measure => simp [intOf]
      refine ⟨6, v2, by omega, rfl, ?_, ?_, H2.out.2⟩
      · rw [show (256 : Int) ^ 6 = 281474976710656 from by decide]
        congr 1
        rw [Go.u64_or (R % 1099511627776) (R / 1099511627776 % 256 * 1099511627776) (by omega) (by omega) (by omega) (by omega)]
        have e1 := Nat.two_pow_add_eq_or_of_lt (i := 40) (b := (R % 1099511627776).toNat) (by omega) (R / 1099511627776 % 256).toNat
        have e2 : (R / 1099511627776 % 256 * 1099511627776).toNat = 2 ^ 40 * (R / 1099511627776 % 256).toNat := by omega
        rw [e2, Nat.or_comm, ← e1]
        omega
      · have := H2.out.1
        rwa [List.append_assoc, show (numB R).take 5 ++ [R / 1099511627776 % 256] = (numB R).take 6 from by simp [numB, byteAt, List.range, List.range.loop]] at this
    | 6, _ =>
      have HC := Lib.hid (wbyte gp v' (t ++ (numB R).take 6) od wr.heap.size 0 (R / 281474976710656 % 256) (by simp [numB]; omega) (wr.alloc (.cells #[.int .u8 (R / 281474976710656 % 256)] 5)) (hP'.out.alloc _) (box0 _ _ _ 0))
      have hnew := hP'.out.new (.cells #[.int .u8 (R / 281474976710656 % 256)] 5)
      go_wp2_with fail
      refine HC.out.mono ?_
      rintro e w2 ⟨⟨r, rfl⟩, v2, hP2, hF2⟩
      have cc : w2.cell? ⟨wr.heap.size, 0, none⟩ = some (.int .u8 (R / 281474976710656 % 256)) := hF2.cell hnew (box0 _ _ _ 0)
      have H2 := Lib.hid (And.intro hP2 ((hFr.out.alloc (.cells #[.int .u8 (R / 281474976710656 % 256)] 5)).trans hF2))
      clear hP2 hF2 HC hnew
      go_wp2_with fail
      go_roundw
      case measure => simp [intOf]
      refine ⟨7, v2, by omega, rfl, ?_, ?_, H2.out.2⟩
      · rw [show (256 : Int) ^ 7 = 72057594037927936 from by decide]
        congr 1
        rw [Go.u64_or (R % 281474976710656) (R / 281474976710656 % 256 * 281474976710656) (by omega) (by omega) (by omega) (by omega)]
        have e1 := Nat.two_pow_add_eq_or_of_lt (i := 48) (b := (R % 281474976710656).toNat) (by omega) (R / 281474976710656 % 256).toNat
        have e2 : (R / 281474976710656 % 256 * 281474976710656).toNat = 2 ^ 48 * (R / 281474976710656 % 256).toNat := by omega
        rw [e2, Nat.or_comm, ← e1]
        omega
      · have := H2.out.1
        rwa [List.append_assoc, show (numB R).take 6 ++ [R / 281474976710656 % 256] = (numB R).take 7 from by simp [numB, byteAt, List.range, List.range.loop]] at this
    | 7, _ =>
      have HC := Lib.hid (wbyte gp v' (t ++ (numB R).take 7) od wr.heap.size 0 (R / 72057594037927936) (by simp [numB]; omega) (wr.alloc (.cells #[.int .u8 (R / 72057594037927936)] 5)) (hP'.out.alloc _) (box0 _ _ _ 0))
      have hnew := hP'.out.new (.cells #[.int .u8 (R / 72057594037927936)] 5)
      go_wp2_with fail
      refine HC.out.mono ?_
      rintro e w2 ⟨⟨r, rfl⟩, v2, hP2, hF2⟩
      have cc : w2.cell? ⟨wr.heap.size, 0, none⟩ = some (.int .u8 (R / 72057594037927936)) := hF2.cell hnew (box0 _ _ _ 0)
      have H2 := Lib.hid (And.intro hP2 ((hFr.out.alloc (.cells #[.int .u8 (R / 72057594037927936)] 5)).trans hF2))
      clear hP2 hF2 HC hnew
      go_wp2_with fail
      go_roundw
      case measure => simp [intOf]
      refine ⟨8, v2, by omega, rfl, ?_, ?_, H2.out.2⟩
      · rw [show (256 : Int) ^ 8 = 18446744073709551616 from by decide]
        congr 1
        rw [Go.u64_or (R % 72057594037927936) (R / 72057594037927936 * 72057594037927936) (by omega) (by omega) (by omega) (by omega)]
        have e1 := Nat.two_pow_add_eq_or_of_lt (i := 56) (b := (R % 72057594037927936).toNat) (by omega) (R / 72057594037927936).toNat
        have e2 : (R / 72057594037927936 * 72057594037927936).toNat = 2 ^ 56 * (R / 72057594037927936).toNat := by omega
        rw [e2, Nat.or_comm, ← e1]
        omega
      · have := H2.out.1
        rwa [List.append_assoc, show (numB R).take 7 ++ [R / 72057594037927936] = (numB R).take 8 from by simp [numB, byteAt, List.range, List.range.loop]; omega] at this
    | 8, _ =>
      have ca := hFr.out.cell HP.out.2.2.2 HP.out.2.1
      have cf := hFr.out.frozen HP.out.2.2.2 HP.out.2.2.1
      have f8 := HR2.out
      go_wp2_with fail
      go_end0
      rw [setCell_self ca]
      refine ⟨⟨_, rfl⟩, v', ?_, hFr.out⟩
      have := hP'.out
      rwa [show (numB R).take 8 = numB R from List.take_of_length_le (by rw [numB_len]; omega)] at this
end Go.Proofs.Ytfdldbfjeamlcaa.RecNum
