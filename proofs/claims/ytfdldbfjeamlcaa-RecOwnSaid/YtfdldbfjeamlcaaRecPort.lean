/- rec.port: boxes, spans, wants, lists of numbers, where it writes. -/
import Derived.BigQuiet
import Derived.Deep.QuietTactic
import Derived.Lib.QuietBelow
import Derived.Lib.SliceRun
import Derived.Test.YtfdldbfjeamlcaaRecMath
namespace Go.Proofs.Ytfdldbfjeamlcaa.RecPort
open Go.RowKit Mem RecMem RecByte RecNum RecEach RecMath
open Go.Sort (grow)
set_option linter.unusedVariables false
set_option linter.unusedSimpArgs false

theorem ownsRow_up {w w' : World} {B n size : Nat} {e : TypeId} {v : Value} {xs : List Value} (h : w.ownsRow B e size v n xs) (hb : Below w.heap.size w w') : w'.ownsRow B e size v n xs := by
  refine ⟨h.1, ?_⟩
  rcases h.2 with h2 | ⟨g, cap, cur, e1, e2, e3, e4⟩
  · exact .inl h2
  · exact .inr ⟨g, cap, cur, e1, e2, (hb.block g (Array.getElem?_eq_some_iff.1 e3).1).trans e3, e4⟩
theorem PW.up {w w' : World} {gp : Nat} {v : Value} {t : List Int} {od : Bool} (h : PW w gp v t od) (hB : Below w.heap.size w w') : PW w' gp v t od := ⟨h.1.below hB h.1.lt, ownsRow_up h.2.1 hB, h.2.2⟩
theorem Fr.up {gp : Nat} {v v' : Value} {w w1 w2 : World} (h : Fr gp v w v' w1) (hB : Below w1.heap.size w1 w2) : Fr gp v w v' w2 :=
  h.trans ⟨hB.os, hB.tape, hB.output, hB.size, fun k hk _ _ => hB.block k hk, .inl rfl⟩
theorem NumsAt.fr {gp b o : Nat} {v v' : Value} {w w' : World} {l : List Int} (h : NumsAt w b o l) (hf : Fr gp v w v' w') (hF : Far gp v w b) : NumsAt w' b o l := fun i n hi => by
  obtain ⟨h1, h2, h3⟩ := h i n hi
  exact ⟨hf.cell hF h1, hf.frozen hF h2, h3⟩
theorem NumsAt.blk {g o : Nat} {w : World} {t : TypeId} {cs : Array Value} {l : List Int} (h : Blk w g t cs) (hl : ∀ i n, l[i]? = some n → cs[o + i]? = some (.int .i64 n)) (hw : ∀ n ∈ l, (Lit.int .i64 n).wf = true) : NumsAt w g o l := fun i n hi =>
  ⟨(h.cell _).trans (hl i n hi), h.frozen _, hw n (List.mem_of_getElem? hi)⟩
theorem TruthsAt.blk {g o : Nat} {w : World} {t : TypeId} {cs : Array Value} {l : List Bool} (h : Blk w g t cs) (hl : ∀ i n, l[i]? = some n → cs[o + i]? = some (.bool n)) : TruthsAt w g o l := fun i n hi => ⟨(h.cell _).trans (hl i n hi), h.frozen _⟩
theorem NumsAt.two {w : World} {b o : Nat} {x y : Int} (h : NumsAt w b o [x, y]) : (w.cell? ⟨b, o, none⟩ = some (.int .i64 x) ∧ w.frozen? ⟨b, o, none⟩ = false ∧ (Lit.int .i64 x).wf = true) ∧ (w.cell? ⟨b, o + 1, none⟩ = some (.int .i64 y) ∧ w.frozen? ⟨b, o + 1, none⟩ = false ∧ (Lit.int .i64 y).wf = true) := ⟨h 0 x rfl, h 1 y rfl⟩
theorem NumsAt.front {w : World} {b o : Nat} {l m : List Int} (h : NumsAt w b o (l ++ m)) : NumsAt w b o l := fun i n hi => h i n (by rw [List.getElem?_append_left (List.getElem?_eq_some_iff.1 hi).1]; exact hi)
theorem NumsAt.back {w : World} {b o : Nat} {l m : List Int} (h : NumsAt w b o (l ++ m)) : NumsAt w b (o + l.length) m := fun i n hi => by
  rw [Nat.add_assoc]
  exact h (l.length + i) n (by rw [List.getElem?_append_right (by omega), show l.length + i - l.length = i by omega]; exact hi)
set_option maxRecDepth 100000 in
set_option maxHeartbeats 4000000 in
theorem wbox (gp : Nat) (v : Value) (t : List Int) (od : Bool) (b o : Nat) (x0 x1 x2 y0 y1 y2 : Int) (hl : t.length ≤ 800000) (w : World) (hP : PW w gp v t od) (hN : NumsAt w b o [x0, x1, x2, y0, y1, y2]) (hF : Far gp v w b) :
    Calls Try.prog 104 #[.pointer (some ⟨gp, 0, none⟩), .pointer (some ⟨b, o, none⟩)] w fun e w' => (∃ r, e = .returned r) ∧ ∃ v', PW w' gp v' (t ++ numsB [x0, x1, x2, y0, y1, y2]) od ∧ Fr gp v w v' w' := by
  have h1 : NumsAt w b o [x0, x1, x2] := NumsAt.front (m := [y0, y1, y2]) hN
  have h2 : NumsAt w b (o + 3) [y0, y1, y2] := NumsAt.back (l := [x0, x1, x2]) hN
  have HC := Lib.hid (weach gp v t od b o 3 [x0, x1, x2] (by simp; omega) w hP h1 hF)
  have H0 := Lib.hid (And.intro h2 hF)
  clear hP hN h1 h2 hF
  go_enter Try.func104, Try.ntmps104
  go_wp2_with fail
  refine HC.out.mono ?_
  rintro e w1 ⟨⟨r, rfl⟩, v1, hP1, hF1⟩
  have HC2 := Lib.hid (weach gp v1 (t ++ numsB [x0, x1, x2]) od b (o + 3) 3 [y0, y1, y2] (by rw [List.length_append, numsB_len]; simp; omega) w1 hP1 (NumsAt.fr H0.out.1 hF1 H0.out.2) (hF1.far H0.out.2))
  have H1 := Lib.hid hF1
  clear hP1 hF1 HC
  go_wp2_with fail
  refine HC2.out.mono ?_
  rintro e w2 ⟨⟨r, rfl⟩, v2, hP2, hF2⟩
  have H2 := Lib.hid (And.intro hP2 (H1.out.trans hF2))
  clear hP2 hF2 HC2
  go_wp2_with fail
  go_end0
  refine ⟨⟨_, rfl⟩, v2, ?_, H2.out.2⟩
  have := H2.out.1
  rwa [List.append_assoc, show numsB [x0, x1, x2] ++ numsB [y0, y1, y2] = numsB [x0, x1, x2, y0, y1, y2] from by simp [numsB]] at this
set_option maxRecDepth 100000 in
set_option maxHeartbeats 4000000 in
theorem wspan (gp : Nat) (v : Value) (t : List Int) (od : Bool) (b o : Nat) (x y : Int) (hl : t.length ≤ 800000) (w : World) (hP : PW w gp v t od) (hN : NumsAt w b o [x, y]) (hF : Far gp v w b) :
    Calls Try.prog 105 #[.pointer (some ⟨gp, 0, none⟩), .pointer (some ⟨b, o, none⟩)] w fun e w' => (∃ r, e = .returned r) ∧ ∃ v', PW w' gp v' (t ++ (nB x ++ nB y)) od ∧ Fr gp v w v' w' := by
  obtain ⟨⟨a1, a2, a3⟩, ⟨b1, b2, b3⟩⟩ := NumsAt.two hN
  have HC := Lib.hid (wnum gp v t od b o x a3 (by omega) w hP a1 a2 hF)
  have H0 := Lib.hid (And.intro (And.intro b1 (And.intro b2 b3)) hF)
  clear hP hN a1 a2 a3 b1 b2 b3 hF
  go_enter Try.func105, Try.ntmps105
  go_wp2_with fail
  refine HC.out.mono ?_
  rintro e w1 ⟨⟨r, rfl⟩, v1, hP1, hF1⟩
  have HC2 := Lib.hid (wnum gp v1 (t ++ nB x) od b (o + 1) y H0.out.1.2.2 (by rw [List.length_append, nB_len]; omega) w1 hP1 (hF1.cell H0.out.2 H0.out.1.1) (hF1.frozen H0.out.2 H0.out.1.2.1) (hF1.far H0.out.2))
  have H1 := Lib.hid hF1
  clear hP1 hF1 HC
  go_wp2_with fail
  refine HC2.out.mono ?_
  rintro e w2 ⟨⟨r, rfl⟩, v2, hP2, hF2⟩
  have H2 := Lib.hid (And.intro hP2 (H1.out.trans hF2))
  clear hP2 hF2 HC2
  go_wp2_with fail
  go_end0
  refine ⟨⟨_, rfl⟩, v2, ?_, H2.out.2⟩
  have := H2.out.1
  rwa [List.append_assoc] at this
set_option maxRecDepth 100000 in
set_option maxHeartbeats 4000000 in
theorem wwants (gp : Nat) (v : Value) (t : List Int) (od : Bool) (b o : Nat) (x y z : Int) (p q r tn : Bool) (hl : t.length ≤ 800000) (w : World) (hP : PW w gp v t od) (hN : NumsAt w b o [x, y, z]) (hT : TruthsAt w b (o + 3) [p, q, r]) (hL : TruthsAt w b (o + 6) [tn]) (hF : Far gp v w b) :
    Calls Try.prog 124 #[.pointer (some ⟨gp, 0, none⟩), .pointer (some ⟨b, o, none⟩)] w fun e w' => (∃ r, e = .returned r) ∧ ∃ v', PW w' gp v' (t ++ (numsB [x, y, z] ++ ([tB p, tB q, tB r] ++ [tB tn]))) od ∧ Fr gp v w v' w' := by
  have HC := Lib.hid (weach gp v t od b o 3 [x, y, z] (by simp; omega) w hP hN hF)
  have H0 := Lib.hid (And.intro (And.intro hT (hL 0 tn rfl)) hF)
  clear hP hN hT hL hF
  go_enter Try.func124, Try.ntmps124
  go_wp2_with fail
  refine HC.out.mono ?_
  rintro e w1 ⟨⟨r1, rfl⟩, v1, hP1, hF1⟩
  have HC2 := Lib.hid (weachB gp v1 (t ++ numsB [x, y, z]) od b (o + 3) 3 [p, q, r] (by rw [List.length_append, numsB_len]; simp; omega) w1 hP1 (fun i n hi => ⟨hF1.cell H0.out.2 (H0.out.1.1 i n hi).1, hF1.frozen H0.out.2 (H0.out.1.1 i n hi).2⟩) (hF1.far H0.out.2))
  have H1 := Lib.hid hF1
  clear hP1 hF1 HC
  go_wp2_with fail
  refine HC2.out.mono ?_
  rintro e w2 ⟨⟨r2, rfl⟩, v2, hP2, hF2⟩
  have hF12 := H1.out.trans hF2
  have HC3 := Lib.hid (wtruth gp v2 (t ++ numsB [x, y, z] ++ [p, q, r].map tB) od b (o + 6) tn (by simp only [List.length_append, numsB_len, List.length_map, List.length_cons, List.length_nil]; omega) w2 hP2 (hF12.cell H0.out.2 H0.out.1.2.1) (hF12.frozen H0.out.2 H0.out.1.2.2) (hF12.far H0.out.2))
  have H2 := Lib.hid hF12
  clear hP2 hF2 HC2 hF12
  go_wp2_with fail
  refine HC3.out.mono ?_
  rintro e w3 ⟨⟨r3, rfl⟩, v3, hP3, hF3⟩
  have H3 := Lib.hid (And.intro hP3 (H2.out.trans hF3))
  clear hP3 hF3 HC3
  go_wp2_with fail
  go_end0
  refine ⟨⟨_, rfl⟩, v3, ?_, H3.out.2⟩
  have := H3.out.1
  rwa [List.append_assoc, List.append_assoc] at this
/-- Numbers that are read only. -/
def IntsFar (gp : Nat) (v : Value) (w : World) (Y : Option Addr) (l : List Int) : Prop := ∀ i n, l[i]? = some n → ∃ b o, Y = some ⟨b, o, none⟩ ∧ Far gp v w b ∧ w.cell? ⟨b, o + i, none⟩ = some (.int .i64 n)
theorem IntsFar.fr {gp : Nat} {v v' : Value} {w w' : World} {Y : Option Addr} {l : List Int} (h : IntsFar gp v w Y l) (hf : Fr gp v w v' w') : IntsFar gp v' w' Y l := fun i n hi => by
  obtain ⟨b, o, e, h1, h2⟩ := h i n hi
  exact ⟨b, o, e, hf.far h1, hf.cell h1 h2⟩
theorem fr_over {gp : Nat} {v : Value} (w : World) (o : Obj) : Fr gp v w v (w.alloc o) := (Fr.refl gp v w).alloc o
set_option maxRecDepth 100000 in
set_option maxHeartbeats 4000000 in
theorem wlist (gp : Nat) (v : Value) (t : List Int) (od : Bool) (b o : Nat) (Y : Option Addr) (cy : Nat) (l : List Int) (hc : l.length ≤ cy) (hn : l.length ≤ 1000) (hl : t.length ≤ 800000) (w : World) (hP : PW w gp v t od) (ha : w.cell? ⟨b, o, none⟩ = some (.slice Y l.length cy)) (hF : Far gp v w b) (hY : IntsFar gp v w Y l) (hw : ∀ n ∈ l, (Lit.int .i64 n).wf = true) :
    Calls Try.prog 116 #[.pointer (some ⟨gp, 0, none⟩), .pointer (some ⟨b, o, none⟩), .func (.func 74) #[.pointer (some ⟨gp, 0, none⟩)] #[]] w fun e w' => (∃ r, e = .returned r) ∧ ∃ v', PW w' gp v' (t ++ (nB (l.length : Int) ++ numsB l)) od ∧ Fr gp v w v' w' := by
  have hlw : (Lit.int .i64 (l.length : Int)).wf = true := by simp [Lit.wf, IntKind.min, IntKind.max, IntKind.signed, IntKind.bits]; omega
  have HC := Lib.hid (wnum gp v t od w.heap.size 0 (l.length : Int) hlw (by omega) (w.alloc (.cells #[.int .i64 (l.length : Int)] 3)) (hP.alloc _) (box0 _ _ _ 0) ((Blk.new _ _ _).frozen 0) (hP.new _))
  have H0 := Lib.hid (And.intro (hP.new (.cells #[.int .i64 (l.length : Int)] 3)) (And.intro (hF.alloc (.cells #[.int .i64 (l.length : Int)] 3)) (And.intro (cell_over (.cells #[.int .i64 (l.length : Int)] 3) ha) (hY.fr (fr_over w (.cells #[.int .i64 (l.length : Int)] 3))))))
  have HW := Lib.hid hw
  clear hP hF hY hw hlw
  go_enter Try.func116, Try.ntmps116
  go_wp2_with fail
  refine HC.out.mono ?_
  rintro e w1 ⟨⟨r, rfl⟩, v1, hP1, hF1⟩
  have cn : w1.cell? ⟨w.heap.size, 0, none⟩ = some (.int .i64 (l.length : Int)) := hF1.cell H0.out.1 (box0 _ _ _ 0)
  have cl : w1.cell? ⟨b, o, none⟩ = some (.slice Y l.length cy) := hF1.cell H0.out.2.1 H0.out.2.2.1
  have p1 : w1.cell? ⟨gp, 1, none⟩ = some (.bool false) := hP1.1.cell 1
  have hY1 := H0.out.2.2.2.fr hF1
  have H1 := Lib.hid (And.intro hP1 (And.intro ((fr_over w (.cells #[.int .i64 (l.length : Int)] 3)).trans hF1) hY1))
  clear hP1 hF1 HC H0 ha hY1
  go_wp2_with fail
  have kq0 := cell_regrown cn
  have kq1 := cell_regrown cl
  refine wp_region_quiet_below (by kernel_rfl) (by kernel_rfl) ?_
  repeat (go_big_quiet_step (first | fail))
  refine wpQuiet_nil ?_
  intro _ hw'
  obtain ⟨⟨dq, osq⟩, hw''⟩ := hw'
  subst hw''
  have hBq := below_regrown w1 dq osq
  clear kq0 kq1 cn cl p1
  have hP2 := PW.up H1.out.1 hBq
  have hF2 := Fr.up H1.out.2.1 hBq
  have hY2 := H1.out.2.2.fr (Fr.up (Fr.refl gp v1 w1) hBq)
  generalize grow (redrawn w1 dq) osq = w2 at *
  have H2 := Lib.hid (And.intro hP2 (And.intro hF2 hY2))
  clear hP2 hF2 hY2 hBq H1
  go_wp2_with fail
  go_loopw [9, 51] (fun _ i wr => ∃ (k : Nat) (v' : Value), k ≤ l.length ∧ i = .int .i64 k ∧ Hid (PW wr gp v' (t ++ nB (l.length : Int) ++ numsB (l.take k)) od) ∧ Hid (Fr gp v w v' wr) ∧ Hid (IntsFar gp v' wr Y l))
    (fun _ i _ => l.length - (intOf i).toNat)
  case atStart => exact ⟨0, v1, Nat.zero_le _, rfl, by show PW w2 gp v1 (t ++ nB (l.length : Int) ++ []) od; rw [List.append_nil]; exact H2.out.1, H2.out.2.1, H2.out.2.2⟩
  case round =>
    obtain ⟨k, v', hk, rfl, hP', hFr, hY'⟩ := hrel
    clear H2
    by_cases hlt : k < l.length
    · have hg : l[k]? = some l[k] := List.getElem?_eq_getElem hlt
      generalize l[k] = x at hg
      have hki : (k : Int) < (l.length : Int) := by omega
      have hki0 : (0 : Int) ≤ (k : Int) := by omega
      obtain ⟨yb, yo, rfl, hyF, hyc⟩ := hY'.out k x hg
      have hlen : (t ++ nB (l.length : Int) ++ numsB (l.take k)).length ≤ 900000 := by simp only [List.length_append, numsB_len, nB_len, List.length_take]; omega
      have HC := Lib.hid (wnum gp v' (t ++ nB (l.length : Int) ++ numsB (l.take k)) od wr.heap.size 0 x (HW.out x (List.mem_of_getElem? hg)) hlen (wr.alloc (.cells #[.int .i64 x] 3)) (hP'.out.alloc _) (box0 _ _ _ 0) ((Blk.new _ _ _).frozen 0) (hP'.out.new _))
      have HG := Lib.hid hg
      clear hg hyF hlen
      go_wp2_with fail
      refine HC.out.mono ?_
      rintro e w3 ⟨⟨r, rfl⟩, v3, hP3, hF3⟩
      have hF4 := (fr_over wr (.cells #[.int .i64 x] 3)).trans hF3
      have H3 := Lib.hid (And.intro hP3 (And.intro (hFr.out.trans hF4) (hY'.out.fr hF4)))
      clear hP3 hF3 hF4 HC hyc
      go_wp2_with fail
      go_roundw
      case measure => simp [intOf]; omega
      refine ⟨k + 1, v3, by omega, by go_num, ?_, H3.out.2.1, H3.out.2.2⟩
      rw [take_snoc HG.out, numsB_snoc, ← List.append_assoc]
      exact H3.out.1
    · obtain rfl : k = l.length := by omega
      go_wp2_with fail
      go_end0
      refine ⟨⟨_, rfl⟩, v', ?_, hFr.out⟩
      have := hP'.out
      rwa [List.take_length, List.append_assoc] at this
end Go.Proofs.Ytfdldbfjeamlcaa.RecPort
