/- Several texts joined: job.Add, of any table and job. No conditions but those named. -/
import Derived.Test.YtaldgmmmcbikgaaB4
import Derived.Test.YtaldgmmmcbikgaaB5
import Derived.BigQuiet
import Derived.Lib.QuietBelow
import Derived.Deep.QuietTactic
import Derived.Deep.DeepCutAuto
import Derived.Deep.MidRow
import Derived.IntWalk
import Derived.Test.YtaldgmmmcbikgaaOpenInts
import Derived.Test.YtaldgmmmcbikgaaJobGreat
import Derived.Test.YtaldgmmmcbikgaaJobShape
import Derived.Test.YtaldgmmmcbikgaaB6
/-! job.Add, of any table and job. No conditions but those named. -/
namespace Go.Proofs.Ytaldgmmmcbikgaa.AddAny
open Go.RowKit Mem PosMath PartMath PartClass PartCheck TurnMath TurnFitsV JobMath JobCheck JobMem JobAdd LooseI Loose AddErr AddFull AddMath

set_option linter.unusedVariables false
set_option linter.unusedSimpArgs false

set_option maxRecDepth 100000 in
set_option maxHeartbeats 16000000 in
theorem add_any (d0 d1 d2 bo fr tr ag : Int) (K : Option Addr) (kc : Nat) (ks : List Cls) (hlk : ks.length ≤ 4611686018427387904) (X : Option Addr) (cap : Nat) (l : List JV) (hl : l.length ≤ 1000) (hla : ∀ j ∈ l, j.af.length ≤ 1000) (U : Option Addr) (cu : Nat) (us : List Int) (j : JV) (Y : Option Addr) (cj : Nat) (hja : j.af.length ≤ 1000) (hlu : us.length ≤ 1000) (w : World) (hk : ClsAt w w.heap.size K ks) (hX : JobsAt w X l) (hU : IntsAt w U us) (hY : IntsAt w Y j.af) :
    Calls Try.prog 19 #[.agg #[.int .i64 d0, .int .i64 d1, .int .i64 d2, .int .i64 bo, .int .i64 fr, .int .i64 tr, .int .i64 ag, .slice K ks.length kc], .slice X l.length cap, .slice U us.length cu, .agg #[.int .i64 j.id, .int .i64 j.us, .int .i64 j.cl, .int .i64 j.x.a, .int .i64 j.x.b, .int .i64 j.x.c, .bool j.x.p, .bool j.x.q, .bool j.x.r, .bool j.x.tn, .int .i64 j.wa, .int .i64 j.pr, .bool j.he, .slice Y j.af.length cj, .int .u8 j.st, .int .i64 j.ca]] w fun e w' => ∃ X' c', e = .returned (.tuple #[.slice X' (addV d0 d1 d2 bo fr tr ag ks l us j).1.length c', .int .i64 (addV d0 d1 d2 bo fr tr ag ks l us j).2]) ∧ JobsOwn w' w.heap.size X' (addV d0 d1 d2 bo fr tr ag ks l us j).1 ∧ Below w.heap.size w w' := by
  by_cases h1 : tableV d0 d1 d2 bo fr tr ag ks l ≠ 0
  · have e : addV d0 d1 d2 bo fr tr ag ks l us j = ([], tableV d0 d1 d2 bo fr tr ag ks l) := by unfold addV; rw [if_pos h1]
    rw [e]
    refine (add_table d0 d1 d2 bo fr tr ag K kc ks hlk X cap l hl hla U cu us j Y cj hja h1 w hk hX hU hY).mono ?_
    rintro e w' ⟨rfl, hB⟩
    exact ⟨none, 0, rfl, JobsOwn.nil, hB⟩
  by_cases h2 : checkV d0 d1 d2 ks (asked j) ≠ 0
  · have e : addV d0 d1 d2 bo fr tr ag ks l us j = ([], checkV d0 d1 d2 ks (asked j)) := by unfold addV; rw [if_neg h1, if_pos h2]
    rw [e]
    refine (add_check d0 d1 d2 bo fr tr ag K kc ks hlk X cap l hl hla U cu us j Y cj hja (Decidable.not_not.1 h1) h2 w hk hX hU hY).mono ?_
    rintro e w' ⟨rfl, hB⟩
    exact ⟨none, 0, rfl, JobsOwn.nil, hB⟩
  have h1' := Decidable.not_not.1 h1
  have h2' := Decidable.not_not.1 h2
  by_cases h3 : lastB l j = true
  · have e : addV d0 d1 d2 bo fr tr ag ks l us j = ([], 8) := by unfold addV; rw [if_neg h1, if_neg h2, if_pos h3]
    rw [e]
    refine (add_bad d0 d1 d2 bo fr tr ag K kc ks hlk X cap l hl hla U cu us j Y cj hja h1' h2' (last_yes h3).1 (last_yes h3).2 w hk hX hU hY).mono ?_
    rintro e w' ⟨rfl, hB⟩
    exact ⟨none, 0, rfl, JobsOwn.nil, hB⟩
  have h3' : lastB l j = false := by simpa using h3
  by_cases h4 : thereB l j = false
  · have e : addV d0 d1 d2 bo fr tr ag ks l us j = ([], 182) := by unfold addV; rw [if_neg h1, if_neg h2, if_neg h3, if_pos h4]
    rw [e]
    refine (add_after d0 d1 d2 bo fr tr ag K kc ks hlk X cap l hl hla U cu us j Y cj hja h1' h2' (last_no h3') h4 w hk hX hU hY).mono ?_
    rintro e w' ⟨rfl, hB⟩
    exact ⟨none, 0, rfl, JobsOwn.nil, hB⟩
  have h4' : thereB l j = true := by simpa using h4
  by_cases h5 : l.length < 24
  · have e : addV d0 d1 d2 bo fr tr ag ks l us j = (l ++ [asked j], 0) := by unfold addV; rw [if_neg h1, if_neg h2, if_neg h3, if_neg h4, if_pos h5]
    rw [e]
    refine (add_room d0 d1 d2 bo fr tr ag K kc ks hlk X cap l hl hla U cu us j Y cj hja h1' h2' (last_no h3') h4' h5 w hk hX hU hY).mono ?_
    rintro e w' ⟨X', c', rfl, hO, hB⟩
    exact ⟨X', c', by simp, hO, hB⟩
  have h6 : l.length = 24 := by have := (tableV_of h1').2.len; omega
  refine (add_full d0 d1 d2 bo fr tr ag K kc ks hlk X cap l hl hla U cu us j Y cj hja h1' h2' (last_no h3') h4' h6 hlu w hk hX hU hY).mono ?_
  rintro e w' ⟨⟨i, X', c', hh, rfl, hO⟩ | ⟨hh, rfl⟩, hB⟩
  · have e : addV d0 d1 d2 bo fr tr ag ks l us j = ((l ++ [asked j]).eraseIdx i, 0) := by unfold addV; rw [if_neg h1, if_neg h2, if_neg h3, if_neg h4, if_neg h5, hh]
    have hil := (loose_mem (List.mem_of_mem_head? hh)).1
    rw [e]
    exact ⟨X', c', by simp only; rw [List.length_eraseIdx_of_lt (by simp; omega)]; simp, hO, hB⟩
  · have e : addV d0 d1 d2 bo fr tr ag ks l us j = ([], 9) := by unfold addV; rw [if_neg h1, if_neg h2, if_neg h3, if_neg h4, if_neg h5, hh]; rfl
    rw [e]
    exact ⟨none, 0, rfl, JobsOwn.nil, hB⟩

end Go.Proofs.Ytaldgmmmcbikgaa.AddAny
/-! JobAdds: the walk. No conditions but those named. -/
namespace Go.Proofs.Ytaldgmmmcbikgaa.JobAddsW
open Go.RowKit Mem PosMath PartMath TurnMath TurnMap TurnFitsV JobMath JobCheck JobMem JobShape JobRTwin JobRSame JobGreat JobAdd AddMath AddAny RfAdd Lay
set_option linter.unusedVariables false
set_option linter.unusedSimpArgs false

theorem addV_mem2 {d0 d1 d2 bo fr tr ag : Int} {ks : List Cls} {l : List JV} {us : List Int} {j x : JV} (hx : x ∈ (addV d0 d1 d2 bo fr tr ag ks l us j).1) : x ∈ l ∨ x = asked j := by
  by_cases h : (addV d0 d1 d2 bo fr tr ag ks l us j).2 = 0
  · obtain ⟨_, e, k⟩ := addV_ok h
    rw [k.eq] at hx
    have := (List.eraseIdx_sublist (l ++ [asked j]) e).subset hx
    simpa using this
  · rw [addV_bad h] at hx
    cases hx
theorem addV_len {d0 d1 d2 bo fr tr ag : Int} {ks : List Cls} {l : List JV} {us : List Int} {j : JV} : (addV d0 d1 d2 bo fr tr ag ks l us j).1.length ≤ l.length + 1 := by
  by_cases h : (addV d0 d1 d2 bo fr tr ag ks l us j).2 = 0
  · obtain ⟨_, e, k⟩ := addV_ok h
    have := k.len
    split at this <;> omega
  · rw [addV_bad h]
    simp
set_option maxRecDepth 100000 in
set_option maxHeartbeats 16000000 in
theorem ja_cls (d0 d1 d2 bo fr tr ag : Int) (K : Option Addr) (kc : Nat) (ks : List Cls) (hlk : ks.length ≤ maxLen) (X : Option Addr) (cX : Nat) (l : List JV) (hlc : l.length ≤ cX) (hl : l.length ≤ maxLen) (hla : ∀ j ∈ l, JWf j ∧ j.af.length ≤ maxLen) (U : Option Addr) (cu : Nat) (us : List Int) (hlu : us.length ≤ maxLen) (j : JV) (Y : Option Addr) (cj : Nat) (hjl : j.af.length ≤ maxLen) (hjw : JWf j) (h0 : (100 : Int) < (ks.length : Int)) (w : World) (hk : ClsAt w w.heap.size K ks) (hX : JobsAt w X l) (hU : IntsAt w U us) (hY : IntsAt w Y j.af) :
    Calls Try.prog 4 #[.agg #[.int .i64 d0, .int .i64 d1, .int .i64 d2, .int .i64 bo, .int .i64 fr, .int .i64 tr, .int .i64 ag, .slice K ks.length kc], .slice X l.length cX, .slice U us.length cu, .agg #[.int .i64 j.id, .int .i64 j.us, .int .i64 j.cl, .int .i64 j.x.a, .int .i64 j.x.b, .int .i64 j.x.c, .bool j.x.p, .bool j.x.q, .bool j.x.r, .bool j.x.tn, .int .i64 j.wa, .int .i64 j.pr, .bool j.he, .slice Y j.af.length cj, .int .u8 j.st, .int .i64 j.ca]] w fun e w' => e = .returned (.bool true) ∧ Below w.heap.size w w' := by
  unfold maxLen at hlk hl hlu hjl
  clear hk hX hU hY
  go_enter Try.func4, Try.ntmps4
  go_upto_region 1 with fail
  have kc0 : Blk ((w.alloc (.cells #[.int .i64 d0, .int .i64 d1, .int .i64 d2, .int .i64 bo, .int .i64 fr, .int .i64 tr, .int .i64 ag, .slice K ks.length kc] 26)).alloc (.cells #[.int .i64 j.id, .int .i64 j.us, .int .i64 j.cl, .int .i64 j.x.a, .int .i64 j.x.b, .int .i64 j.x.c, .bool j.x.p, .bool j.x.q, .bool j.x.r, .bool j.x.tn, .int .i64 j.wa, .int .i64 j.pr, .bool j.he, .slice Y j.af.length cj, .int .u8 j.st, .int .i64 j.ca] 33)) w.heap.size 26 #[.int .i64 d0, .int .i64 d1, .int .i64 d2, .int .i64 bo, .int .i64 fr, .int .i64 tr, .int .i64 ag, .slice K ks.length kc] := (Blk.new w _ _).alloc _
  have kj0 : Blk ((w.alloc (.cells #[.int .i64 d0, .int .i64 d1, .int .i64 d2, .int .i64 bo, .int .i64 fr, .int .i64 tr, .int .i64 ag, .slice K ks.length kc] 26)).alloc (.cells #[.int .i64 j.id, .int .i64 j.us, .int .i64 j.cl, .int .i64 j.x.a, .int .i64 j.x.b, .int .i64 j.x.c, .bool j.x.p, .bool j.x.q, .bool j.x.r, .bool j.x.tn, .int .i64 j.wa, .int .i64 j.pr, .bool j.he, .slice Y j.af.length cj, .int .u8 j.st, .int .i64 j.ca] 33)) (w.heap.size + 1) 33 #[.int .i64 j.id, .int .i64 j.us, .int .i64 j.cl, .int .i64 j.x.a, .int .i64 j.x.b, .int .i64 j.x.c, .bool j.x.p, .bool j.x.q, .bool j.x.r, .bool j.x.tn, .int .i64 j.wa, .int .i64 j.pr, .bool j.he, .slice Y j.af.length cj, .int .u8 j.st, .int .i64 j.ca] := blk1 w _ _
  have hb0 : Below w.heap.size w ((w.alloc (.cells #[.int .i64 d0, .int .i64 d1, .int .i64 d2, .int .i64 bo, .int .i64 fr, .int .i64 tr, .int .i64 ag, .slice K ks.length kc] 26)).alloc (.cells #[.int .i64 j.id, .int .i64 j.us, .int .i64 j.cl, .int .i64 j.x.a, .int .i64 j.x.b, .int .i64 j.x.c, .bool j.x.p, .bool j.x.q, .bool j.x.r, .bool j.x.tn, .int .i64 j.wa, .int .i64 j.pr, .bool j.he, .slice Y j.af.length cj, .int .u8 j.st, .int .i64 j.ca] 33)) := below_alloc (below_alloc (Below.refl _ _))
  generalize ((w.alloc (.cells #[.int .i64 d0, .int .i64 d1, .int .i64 d2, .int .i64 bo, .int .i64 fr, .int .i64 tr, .int .i64 ag, .slice K ks.length kc] 26)).alloc (.cells #[.int .i64 j.id, .int .i64 j.us, .int .i64 j.cl, .int .i64 j.x.a, .int .i64 j.x.b, .int .i64 j.x.c, .bool j.x.p, .bool j.x.q, .bool j.x.r, .bool j.x.tn, .int .i64 j.wa, .int .i64 j.pr, .bool j.he, .slice Y j.af.length cj, .int .u8 j.st, .int .i64 j.ca] 33)) = w0 at *
  have HB0 := Lib.hid hb0
  have KC0 := Lib.hid kc0
  have KJ0 := Lib.hid kj0
  clear hb0 kc0 kj0
  have xk : w0.cell? ⟨w.heap.size, 7, none⟩ = some (.slice K ks.length kc) := KC0.out.cell 7
  go_wp2_with fail
  go_ret
  exact ⟨rfl, HB0.out⟩
set_option maxRecDepth 100000 in
set_option maxHeartbeats 16000000 in
theorem ja_great (d0 d1 d2 bo fr tr ag : Int) (K : Option Addr) (kc : Nat) (ks : List Cls) (hlk : ks.length ≤ maxLen) (X : Option Addr) (cX : Nat) (l : List JV) (hlc : l.length ≤ cX) (hl : l.length ≤ maxLen) (hla : ∀ j ∈ l, JWf j ∧ j.af.length ≤ maxLen) (U : Option Addr) (cu : Nat) (us : List Int) (hlu : us.length ≤ maxLen) (j : JV) (Y : Option Addr) (cj : Nat) (hjl : j.af.length ≤ maxLen) (hjw : JWf j) (h0 : ¬ (100 : Int) < (ks.length : Int)) (h1 : greatB l = true) (w : World) (hk : ClsAt w w.heap.size K ks) (hX : JobsAt w X l) (hU : IntsAt w U us) (hY : IntsAt w Y j.af) :
    Calls Try.prog 4 #[.agg #[.int .i64 d0, .int .i64 d1, .int .i64 d2, .int .i64 bo, .int .i64 fr, .int .i64 tr, .int .i64 ag, .slice K ks.length kc], .slice X l.length cX, .slice U us.length cu, .agg #[.int .i64 j.id, .int .i64 j.us, .int .i64 j.cl, .int .i64 j.x.a, .int .i64 j.x.b, .int .i64 j.x.c, .bool j.x.p, .bool j.x.q, .bool j.x.r, .bool j.x.tn, .int .i64 j.wa, .int .i64 j.pr, .bool j.he, .slice Y j.af.length cj, .int .u8 j.st, .int .i64 j.ca]] w fun e w' => e = .returned (.bool true) ∧ Below w.heap.size w w' := by
  unfold maxLen at hlk hl hlu hjl
  have HG1 := Lib.hid (fun w h => great_big X cX l (by omega) (fun j hj => by have := (hla j hj).2; unfold maxLen at this; omega) w h)
  rw [h1] at HG1
  have HX := Lib.hid hX
  clear hk hX hU hY h1
  go_enter Try.func4, Try.ntmps4
  go_upto_region 1 with fail
  have kc0 : Blk ((w.alloc (.cells #[.int .i64 d0, .int .i64 d1, .int .i64 d2, .int .i64 bo, .int .i64 fr, .int .i64 tr, .int .i64 ag, .slice K ks.length kc] 26)).alloc (.cells #[.int .i64 j.id, .int .i64 j.us, .int .i64 j.cl, .int .i64 j.x.a, .int .i64 j.x.b, .int .i64 j.x.c, .bool j.x.p, .bool j.x.q, .bool j.x.r, .bool j.x.tn, .int .i64 j.wa, .int .i64 j.pr, .bool j.he, .slice Y j.af.length cj, .int .u8 j.st, .int .i64 j.ca] 33)) w.heap.size 26 #[.int .i64 d0, .int .i64 d1, .int .i64 d2, .int .i64 bo, .int .i64 fr, .int .i64 tr, .int .i64 ag, .slice K ks.length kc] := (Blk.new w _ _).alloc _
  have kj0 : Blk ((w.alloc (.cells #[.int .i64 d0, .int .i64 d1, .int .i64 d2, .int .i64 bo, .int .i64 fr, .int .i64 tr, .int .i64 ag, .slice K ks.length kc] 26)).alloc (.cells #[.int .i64 j.id, .int .i64 j.us, .int .i64 j.cl, .int .i64 j.x.a, .int .i64 j.x.b, .int .i64 j.x.c, .bool j.x.p, .bool j.x.q, .bool j.x.r, .bool j.x.tn, .int .i64 j.wa, .int .i64 j.pr, .bool j.he, .slice Y j.af.length cj, .int .u8 j.st, .int .i64 j.ca] 33)) (w.heap.size + 1) 33 #[.int .i64 j.id, .int .i64 j.us, .int .i64 j.cl, .int .i64 j.x.a, .int .i64 j.x.b, .int .i64 j.x.c, .bool j.x.p, .bool j.x.q, .bool j.x.r, .bool j.x.tn, .int .i64 j.wa, .int .i64 j.pr, .bool j.he, .slice Y j.af.length cj, .int .u8 j.st, .int .i64 j.ca] := blk1 w _ _
  have hb0 : Below w.heap.size w ((w.alloc (.cells #[.int .i64 d0, .int .i64 d1, .int .i64 d2, .int .i64 bo, .int .i64 fr, .int .i64 tr, .int .i64 ag, .slice K ks.length kc] 26)).alloc (.cells #[.int .i64 j.id, .int .i64 j.us, .int .i64 j.cl, .int .i64 j.x.a, .int .i64 j.x.b, .int .i64 j.x.c, .bool j.x.p, .bool j.x.q, .bool j.x.r, .bool j.x.tn, .int .i64 j.wa, .int .i64 j.pr, .bool j.he, .slice Y j.af.length cj, .int .u8 j.st, .int .i64 j.ca] 33)) := below_alloc (below_alloc (Below.refl _ _))
  generalize ((w.alloc (.cells #[.int .i64 d0, .int .i64 d1, .int .i64 d2, .int .i64 bo, .int .i64 fr, .int .i64 tr, .int .i64 ag, .slice K ks.length kc] 26)).alloc (.cells #[.int .i64 j.id, .int .i64 j.us, .int .i64 j.cl, .int .i64 j.x.a, .int .i64 j.x.b, .int .i64 j.x.c, .bool j.x.p, .bool j.x.q, .bool j.x.r, .bool j.x.tn, .int .i64 j.wa, .int .i64 j.pr, .bool j.he, .slice Y j.af.length cj, .int .u8 j.st, .int .i64 j.ca] 33)) = w0 at *
  have HB0 := Lib.hid hb0
  have KC0 := Lib.hid kc0
  have KJ0 := Lib.hid kj0
  clear hb0 kc0 kj0
  have xk : w0.cell? ⟨w.heap.size, 7, none⟩ = some (.slice K ks.length kc) := KC0.out.cell 7
  go_wp2_with fail
  refine (HG1.out _ (HX.out.up HB0.out)).mono ?_
  rintro e w2 ⟨rfl, hB2⟩
  have HB2 := Lib.hid (below_up HB0.out hB2)
  have KC2 := Lib.hid (KC0.out.below hB2 KC0.out.lt)
  have KJ2 := Lib.hid (KJ0.out.below hB2 KJ0.out.lt)
  have x13 : w2.cell? ⟨w.heap.size + 1, 13, none⟩ = some (.slice Y j.af.length cj) := KJ2.out.cell 13
  clear hB2 KC0 KJ0 xk HB0 HG1
  go_wp2_with fail
  go_ret
  exact ⟨rfl, HB2.out⟩
set_option maxRecDepth 100000 in
set_option maxHeartbeats 16000000 in
theorem ja_busy (d0 d1 d2 bo fr tr ag : Int) (K : Option Addr) (kc : Nat) (ks : List Cls) (hlk : ks.length ≤ maxLen) (X : Option Addr) (cX : Nat) (l : List JV) (hlc : l.length ≤ cX) (hl : l.length ≤ maxLen) (hla : ∀ j ∈ l, JWf j ∧ j.af.length ≤ maxLen) (U : Option Addr) (cu : Nat) (us : List Int) (hlu : us.length ≤ maxLen) (j : JV) (Y : Option Addr) (cj : Nat) (hjl : j.af.length ≤ maxLen) (hjw : JWf j) (h0 : ¬ (100 : Int) < (ks.length : Int)) (h1 : greatB l = false) (h2 : (100 : Int) < (us.length : Int)) (w : World) (hk : ClsAt w w.heap.size K ks) (hX : JobsAt w X l) (hU : IntsAt w U us) (hY : IntsAt w Y j.af) :
    Calls Try.prog 4 #[.agg #[.int .i64 d0, .int .i64 d1, .int .i64 d2, .int .i64 bo, .int .i64 fr, .int .i64 tr, .int .i64 ag, .slice K ks.length kc], .slice X l.length cX, .slice U us.length cu, .agg #[.int .i64 j.id, .int .i64 j.us, .int .i64 j.cl, .int .i64 j.x.a, .int .i64 j.x.b, .int .i64 j.x.c, .bool j.x.p, .bool j.x.q, .bool j.x.r, .bool j.x.tn, .int .i64 j.wa, .int .i64 j.pr, .bool j.he, .slice Y j.af.length cj, .int .u8 j.st, .int .i64 j.ca]] w fun e w' => e = .returned (.bool true) ∧ Below w.heap.size w w' := by
  unfold maxLen at hlk hl hlu hjl
  have HG1 := Lib.hid (fun w h => great_big X cX l (by omega) (fun j hj => by have := (hla j hj).2; unfold maxLen at this; omega) w h)
  rw [h1] at HG1
  have HX := Lib.hid hX
  clear hk hX hU hY h1
  go_enter Try.func4, Try.ntmps4
  go_upto_region 1 with fail
  have kc0 : Blk ((w.alloc (.cells #[.int .i64 d0, .int .i64 d1, .int .i64 d2, .int .i64 bo, .int .i64 fr, .int .i64 tr, .int .i64 ag, .slice K ks.length kc] 26)).alloc (.cells #[.int .i64 j.id, .int .i64 j.us, .int .i64 j.cl, .int .i64 j.x.a, .int .i64 j.x.b, .int .i64 j.x.c, .bool j.x.p, .bool j.x.q, .bool j.x.r, .bool j.x.tn, .int .i64 j.wa, .int .i64 j.pr, .bool j.he, .slice Y j.af.length cj, .int .u8 j.st, .int .i64 j.ca] 33)) w.heap.size 26 #[.int .i64 d0, .int .i64 d1, .int .i64 d2, .int .i64 bo, .int .i64 fr, .int .i64 tr, .int .i64 ag, .slice K ks.length kc] := (Blk.new w _ _).alloc _
  have kj0 : Blk ((w.alloc (.cells #[.int .i64 d0, .int .i64 d1, .int .i64 d2, .int .i64 bo, .int .i64 fr, .int .i64 tr, .int .i64 ag, .slice K ks.length kc] 26)).alloc (.cells #[.int .i64 j.id, .int .i64 j.us, .int .i64 j.cl, .int .i64 j.x.a, .int .i64 j.x.b, .int .i64 j.x.c, .bool j.x.p, .bool j.x.q, .bool j.x.r, .bool j.x.tn, .int .i64 j.wa, .int .i64 j.pr, .bool j.he, .slice Y j.af.length cj, .int .u8 j.st, .int .i64 j.ca] 33)) (w.heap.size + 1) 33 #[.int .i64 j.id, .int .i64 j.us, .int .i64 j.cl, .int .i64 j.x.a, .int .i64 j.x.b, .int .i64 j.x.c, .bool j.x.p, .bool j.x.q, .bool j.x.r, .bool j.x.tn, .int .i64 j.wa, .int .i64 j.pr, .bool j.he, .slice Y j.af.length cj, .int .u8 j.st, .int .i64 j.ca] := blk1 w _ _
  have hb0 : Below w.heap.size w ((w.alloc (.cells #[.int .i64 d0, .int .i64 d1, .int .i64 d2, .int .i64 bo, .int .i64 fr, .int .i64 tr, .int .i64 ag, .slice K ks.length kc] 26)).alloc (.cells #[.int .i64 j.id, .int .i64 j.us, .int .i64 j.cl, .int .i64 j.x.a, .int .i64 j.x.b, .int .i64 j.x.c, .bool j.x.p, .bool j.x.q, .bool j.x.r, .bool j.x.tn, .int .i64 j.wa, .int .i64 j.pr, .bool j.he, .slice Y j.af.length cj, .int .u8 j.st, .int .i64 j.ca] 33)) := below_alloc (below_alloc (Below.refl _ _))
  generalize ((w.alloc (.cells #[.int .i64 d0, .int .i64 d1, .int .i64 d2, .int .i64 bo, .int .i64 fr, .int .i64 tr, .int .i64 ag, .slice K ks.length kc] 26)).alloc (.cells #[.int .i64 j.id, .int .i64 j.us, .int .i64 j.cl, .int .i64 j.x.a, .int .i64 j.x.b, .int .i64 j.x.c, .bool j.x.p, .bool j.x.q, .bool j.x.r, .bool j.x.tn, .int .i64 j.wa, .int .i64 j.pr, .bool j.he, .slice Y j.af.length cj, .int .u8 j.st, .int .i64 j.ca] 33)) = w0 at *
  have HB0 := Lib.hid hb0
  have KC0 := Lib.hid kc0
  have KJ0 := Lib.hid kj0
  clear hb0 kc0 kj0
  have xk : w0.cell? ⟨w.heap.size, 7, none⟩ = some (.slice K ks.length kc) := KC0.out.cell 7
  go_wp2_with fail
  refine (HG1.out _ (HX.out.up HB0.out)).mono ?_
  rintro e w2 ⟨rfl, hB2⟩
  have HB2 := Lib.hid (below_up HB0.out hB2)
  have KC2 := Lib.hid (KC0.out.below hB2 KC0.out.lt)
  have KJ2 := Lib.hid (KJ0.out.below hB2 KJ0.out.lt)
  have x13 : w2.cell? ⟨w.heap.size + 1, 13, none⟩ = some (.slice Y j.af.length cj) := KJ2.out.cell 13
  clear hB2 KC0 KJ0 xk HB0 HG1
  go_wp2_with fail
  go_ret
  exact ⟨rfl, HB2.out⟩
set_option maxRecDepth 100000 in
set_option maxHeartbeats 16000000 in
theorem ja_after (d0 d1 d2 bo fr tr ag : Int) (K : Option Addr) (kc : Nat) (ks : List Cls) (hlk : ks.length ≤ maxLen) (X : Option Addr) (cX : Nat) (l : List JV) (hlc : l.length ≤ cX) (hl : l.length ≤ maxLen) (hla : ∀ j ∈ l, JWf j ∧ j.af.length ≤ maxLen) (U : Option Addr) (cu : Nat) (us : List Int) (hlu : us.length ≤ maxLen) (j : JV) (Y : Option Addr) (cj : Nat) (hjl : j.af.length ≤ maxLen) (hjw : JWf j) (h0 : ¬ (100 : Int) < (ks.length : Int)) (h1 : greatB l = false) (h2 : ¬ (100 : Int) < (us.length : Int)) (h3 : (100 : Int) < (j.af.length : Int)) (w : World) (hk : ClsAt w w.heap.size K ks) (hX : JobsAt w X l) (hU : IntsAt w U us) (hY : IntsAt w Y j.af) :
    Calls Try.prog 4 #[.agg #[.int .i64 d0, .int .i64 d1, .int .i64 d2, .int .i64 bo, .int .i64 fr, .int .i64 tr, .int .i64 ag, .slice K ks.length kc], .slice X l.length cX, .slice U us.length cu, .agg #[.int .i64 j.id, .int .i64 j.us, .int .i64 j.cl, .int .i64 j.x.a, .int .i64 j.x.b, .int .i64 j.x.c, .bool j.x.p, .bool j.x.q, .bool j.x.r, .bool j.x.tn, .int .i64 j.wa, .int .i64 j.pr, .bool j.he, .slice Y j.af.length cj, .int .u8 j.st, .int .i64 j.ca]] w fun e w' => e = .returned (.bool true) ∧ Below w.heap.size w w' := by
  unfold maxLen at hlk hl hlu hjl
  have HG1 := Lib.hid (fun w h => great_big X cX l (by omega) (fun j hj => by have := (hla j hj).2; unfold maxLen at this; omega) w h)
  rw [h1] at HG1
  have HX := Lib.hid hX
  clear hk hX hU hY h1
  go_enter Try.func4, Try.ntmps4
  go_upto_region 1 with fail
  have kc0 : Blk ((w.alloc (.cells #[.int .i64 d0, .int .i64 d1, .int .i64 d2, .int .i64 bo, .int .i64 fr, .int .i64 tr, .int .i64 ag, .slice K ks.length kc] 26)).alloc (.cells #[.int .i64 j.id, .int .i64 j.us, .int .i64 j.cl, .int .i64 j.x.a, .int .i64 j.x.b, .int .i64 j.x.c, .bool j.x.p, .bool j.x.q, .bool j.x.r, .bool j.x.tn, .int .i64 j.wa, .int .i64 j.pr, .bool j.he, .slice Y j.af.length cj, .int .u8 j.st, .int .i64 j.ca] 33)) w.heap.size 26 #[.int .i64 d0, .int .i64 d1, .int .i64 d2, .int .i64 bo, .int .i64 fr, .int .i64 tr, .int .i64 ag, .slice K ks.length kc] := (Blk.new w _ _).alloc _
  have kj0 : Blk ((w.alloc (.cells #[.int .i64 d0, .int .i64 d1, .int .i64 d2, .int .i64 bo, .int .i64 fr, .int .i64 tr, .int .i64 ag, .slice K ks.length kc] 26)).alloc (.cells #[.int .i64 j.id, .int .i64 j.us, .int .i64 j.cl, .int .i64 j.x.a, .int .i64 j.x.b, .int .i64 j.x.c, .bool j.x.p, .bool j.x.q, .bool j.x.r, .bool j.x.tn, .int .i64 j.wa, .int .i64 j.pr, .bool j.he, .slice Y j.af.length cj, .int .u8 j.st, .int .i64 j.ca] 33)) (w.heap.size + 1) 33 #[.int .i64 j.id, .int .i64 j.us, .int .i64 j.cl, .int .i64 j.x.a, .int .i64 j.x.b, .int .i64 j.x.c, .bool j.x.p, .bool j.x.q, .bool j.x.r, .bool j.x.tn, .int .i64 j.wa, .int .i64 j.pr, .bool j.he, .slice Y j.af.length cj, .int .u8 j.st, .int .i64 j.ca] := blk1 w _ _
  have hb0 : Below w.heap.size w ((w.alloc (.cells #[.int .i64 d0, .int .i64 d1, .int .i64 d2, .int .i64 bo, .int .i64 fr, .int .i64 tr, .int .i64 ag, .slice K ks.length kc] 26)).alloc (.cells #[.int .i64 j.id, .int .i64 j.us, .int .i64 j.cl, .int .i64 j.x.a, .int .i64 j.x.b, .int .i64 j.x.c, .bool j.x.p, .bool j.x.q, .bool j.x.r, .bool j.x.tn, .int .i64 j.wa, .int .i64 j.pr, .bool j.he, .slice Y j.af.length cj, .int .u8 j.st, .int .i64 j.ca] 33)) := below_alloc (below_alloc (Below.refl _ _))
  generalize ((w.alloc (.cells #[.int .i64 d0, .int .i64 d1, .int .i64 d2, .int .i64 bo, .int .i64 fr, .int .i64 tr, .int .i64 ag, .slice K ks.length kc] 26)).alloc (.cells #[.int .i64 j.id, .int .i64 j.us, .int .i64 j.cl, .int .i64 j.x.a, .int .i64 j.x.b, .int .i64 j.x.c, .bool j.x.p, .bool j.x.q, .bool j.x.r, .bool j.x.tn, .int .i64 j.wa, .int .i64 j.pr, .bool j.he, .slice Y j.af.length cj, .int .u8 j.st, .int .i64 j.ca] 33)) = w0 at *
  have HB0 := Lib.hid hb0
  have KC0 := Lib.hid kc0
  have KJ0 := Lib.hid kj0
  clear hb0 kc0 kj0
  have xk : w0.cell? ⟨w.heap.size, 7, none⟩ = some (.slice K ks.length kc) := KC0.out.cell 7
  go_wp2_with fail
  refine (HG1.out _ (HX.out.up HB0.out)).mono ?_
  rintro e w2 ⟨rfl, hB2⟩
  have HB2 := Lib.hid (below_up HB0.out hB2)
  have KC2 := Lib.hid (KC0.out.below hB2 KC0.out.lt)
  have KJ2 := Lib.hid (KJ0.out.below hB2 KJ0.out.lt)
  have x13 : w2.cell? ⟨w.heap.size + 1, 13, none⟩ = some (.slice Y j.af.length cj) := KJ2.out.cell 13
  clear hB2 KC0 KJ0 xk HB0 HG1
  go_wp2_with fail
  go_ret
  exact ⟨rfl, HB2.out⟩
set_option maxRecDepth 100000 in
set_option maxHeartbeats 16000000 in
theorem ja_main (d0 d1 d2 bo fr tr ag : Int) (K : Option Addr) (kc : Nat) (ks : List Cls) (hlk : ks.length ≤ maxLen) (X : Option Addr) (cX : Nat) (l : List JV) (hlc : l.length ≤ cX) (hl : l.length ≤ maxLen) (hla : ∀ j ∈ l, JWf j ∧ j.af.length ≤ maxLen) (U : Option Addr) (cu : Nat) (us : List Int) (hlu : us.length ≤ maxLen) (j : JV) (Y : Option Addr) (cj : Nat) (hjl : j.af.length ≤ maxLen) (hjw : JWf j) (h0 : ¬ (100 : Int) < (ks.length : Int)) (h1 : greatB l = false) (h2 : ¬ (100 : Int) < (us.length : Int)) (h3 : ¬ (100 : Int) < (j.af.length : Int)) (w : World) (hk : ClsAt w w.heap.size K ks) (hX : JobsAt w X l) (hU : IntsAt w U us) (hY : IntsAt w Y j.af) :
    Calls Try.prog 4 #[.agg #[.int .i64 d0, .int .i64 d1, .int .i64 d2, .int .i64 bo, .int .i64 fr, .int .i64 tr, .int .i64 ag, .slice K ks.length kc], .slice X l.length cX, .slice U us.length cu, .agg #[.int .i64 j.id, .int .i64 j.us, .int .i64 j.cl, .int .i64 j.x.a, .int .i64 j.x.b, .int .i64 j.x.c, .bool j.x.p, .bool j.x.q, .bool j.x.r, .bool j.x.tn, .int .i64 j.wa, .int .i64 j.pr, .bool j.he, .slice Y j.af.length cj, .int .u8 j.st, .int .i64 j.ca]] w fun e w' => e = .returned (.bool true) ∧ Below w.heap.size w w' := by
  unfold maxLen at hlk hl hlu hjl
  have HG1 := Lib.hid (fun w h => great_big X cX l (by omega) (fun j hj => by have := (hla j hj).2; unfold maxLen at this; omega) w h)
  rw [h1] at HG1
  obtain ⟨hl1, hl2⟩ := great_not h1
  have hl4 : ∀ j ∈ l, j.af.length ≤ 1000 := fun j hj => by have := hl2 j hj; omega
  have HX := Lib.hid hX
  have HTW := Lib.hid (fun w hX => rtwin X cX l (by omega) hl4 w hX)
  have HA := Lib.hid (fun (X1 : Option Addr) (c1 : Nat) (W : World) (hB : Below w.heap.size w W) (h1 : JobsAt W X1 l) => add_any d0 d1 d2 bo fr tr ag K kc ks (by omega) X1 c1 l (by omega) hl4 U cu us j Y cj (by omega) (by omega) W (hk.up hB) h1 (hU.up hB) (hY.up hB))
  have HRA := Lib.hid (fun (W : World) (hB : Below w.heap.size w W) => radd_any d0 d1 d2 bo fr tr ag K kc ks (by omega) X cX l (by omega) hl4 U cu us (by omega) j Y cj (by omega) W (hk.up hB) (hX.up hB) (hU.up hB) (hY.up hB))
  have HL4 := Lib.hid (show (∀ q ∈ l, WWf q.x ∧ q.af.length ≤ 1000) from fun q hq => ⟨(hla q hq).1.2.2.2.1, hl4 q hq⟩)
  have HXW := Lib.hid (show ∀ q ∈ (addV d0 d1 d2 bo fr tr ag ks l us j).1, WWf q.x ∧ q.af.length ≤ 1000 from fun q hq => by
    rcases addV_mem2 hq with h | rfl
    · exact HL4.out q h
    · exact ⟨hjw.2.2.2.1, show j.af.length ≤ 1000 by omega⟩)
  have hxl : (addV d0 d1 d2 bo fr tr ag ks l us j).1.length ≤ 1000 := by have := addV_len (d0 := d0) (d1 := d1) (d2 := d2) (bo := bo) (fr := fr) (tr := tr) (ag := ag) (ks := ks) (l := l) (us := us) (j := j); omega
  generalize (addV d0 d1 d2 bo fr tr ag ks l us j).1 = x at *
  generalize (addV d0 d1 d2 bo fr tr ag ks l us j).2 = v at *
  clear hk hX hU hY h1 hl4 hl2 hla hjw
  go_enter Try.func4, Try.ntmps4
  go_upto_region 1 with fail
  have kc0 : Blk ((w.alloc (.cells #[.int .i64 d0, .int .i64 d1, .int .i64 d2, .int .i64 bo, .int .i64 fr, .int .i64 tr, .int .i64 ag, .slice K ks.length kc] 26)).alloc (.cells #[.int .i64 j.id, .int .i64 j.us, .int .i64 j.cl, .int .i64 j.x.a, .int .i64 j.x.b, .int .i64 j.x.c, .bool j.x.p, .bool j.x.q, .bool j.x.r, .bool j.x.tn, .int .i64 j.wa, .int .i64 j.pr, .bool j.he, .slice Y j.af.length cj, .int .u8 j.st, .int .i64 j.ca] 33)) w.heap.size 26 #[.int .i64 d0, .int .i64 d1, .int .i64 d2, .int .i64 bo, .int .i64 fr, .int .i64 tr, .int .i64 ag, .slice K ks.length kc] := (Blk.new w _ _).alloc _
  have kj0 : Blk ((w.alloc (.cells #[.int .i64 d0, .int .i64 d1, .int .i64 d2, .int .i64 bo, .int .i64 fr, .int .i64 tr, .int .i64 ag, .slice K ks.length kc] 26)).alloc (.cells #[.int .i64 j.id, .int .i64 j.us, .int .i64 j.cl, .int .i64 j.x.a, .int .i64 j.x.b, .int .i64 j.x.c, .bool j.x.p, .bool j.x.q, .bool j.x.r, .bool j.x.tn, .int .i64 j.wa, .int .i64 j.pr, .bool j.he, .slice Y j.af.length cj, .int .u8 j.st, .int .i64 j.ca] 33)) (w.heap.size + 1) 33 #[.int .i64 j.id, .int .i64 j.us, .int .i64 j.cl, .int .i64 j.x.a, .int .i64 j.x.b, .int .i64 j.x.c, .bool j.x.p, .bool j.x.q, .bool j.x.r, .bool j.x.tn, .int .i64 j.wa, .int .i64 j.pr, .bool j.he, .slice Y j.af.length cj, .int .u8 j.st, .int .i64 j.ca] := blk1 w _ _
  have hb0 : Below w.heap.size w ((w.alloc (.cells #[.int .i64 d0, .int .i64 d1, .int .i64 d2, .int .i64 bo, .int .i64 fr, .int .i64 tr, .int .i64 ag, .slice K ks.length kc] 26)).alloc (.cells #[.int .i64 j.id, .int .i64 j.us, .int .i64 j.cl, .int .i64 j.x.a, .int .i64 j.x.b, .int .i64 j.x.c, .bool j.x.p, .bool j.x.q, .bool j.x.r, .bool j.x.tn, .int .i64 j.wa, .int .i64 j.pr, .bool j.he, .slice Y j.af.length cj, .int .u8 j.st, .int .i64 j.ca] 33)) := below_alloc (below_alloc (Below.refl _ _))
  generalize ((w.alloc (.cells #[.int .i64 d0, .int .i64 d1, .int .i64 d2, .int .i64 bo, .int .i64 fr, .int .i64 tr, .int .i64 ag, .slice K ks.length kc] 26)).alloc (.cells #[.int .i64 j.id, .int .i64 j.us, .int .i64 j.cl, .int .i64 j.x.a, .int .i64 j.x.b, .int .i64 j.x.c, .bool j.x.p, .bool j.x.q, .bool j.x.r, .bool j.x.tn, .int .i64 j.wa, .int .i64 j.pr, .bool j.he, .slice Y j.af.length cj, .int .u8 j.st, .int .i64 j.ca] 33)) = w0 at *
  have HB0 := Lib.hid hb0
  have KC0 := Lib.hid kc0
  have KJ0 := Lib.hid kj0
  clear hb0 kc0 kj0
  have xk : w0.cell? ⟨w.heap.size, 7, none⟩ = some (.slice K ks.length kc) := KC0.out.cell 7
  go_wp2_with fail
  refine (HG1.out _ (HX.out.up HB0.out)).mono ?_
  rintro e w2 ⟨rfl, hB2⟩
  have HB2 := Lib.hid (below_up HB0.out hB2)
  have KC2 := Lib.hid (KC0.out.below hB2 KC0.out.lt)
  have KJ2 := Lib.hid (KJ0.out.below hB2 KJ0.out.lt)
  have x13 : w2.cell? ⟨w.heap.size + 1, 13, none⟩ = some (.slice Y j.af.length cj) := KJ2.out.cell 13
  clear hB2 KC0 KJ0 xk HB0 HG1
  go_wp2_with fail
  refine (HTW.out _ (HX.out.up HB2.out)).mono ?_
  rintro e w3 ⟨X1, c1, rfl, hO, hB3⟩
  have HB3 := Lib.hid (below_up HB2.out hB3)
  have KC3 := Lib.hid (KC2.out.below hB3 KC2.out.lt)
  have KJ3 := Lib.hid (KJ2.out.below hB3 KJ2.out.lt)
  clear KC2 KJ2
  have HO3 := Lib.hid hO
  clear hO hB3 x13
  go_wp2_with (first | (refine wpList_load_row rfl 26 _ rfl _ rfl 26 #[.int .i64 d0, .int .i64 d1, .int .i64 d2, .int .i64 bo, .int .i64 fr, .int .i64 tr, .int .i64 ag, .slice K ks.length kc] (0, 0) _ KC3.out Try.underlying26 rfl (by kernel_rfl) ?_) | (refine wpList_load_row rfl 33 _ rfl _ rfl 33 #[.int .i64 j.id, .int .i64 j.us, .int .i64 j.cl, .int .i64 j.x.a, .int .i64 j.x.b, .int .i64 j.x.c, .bool j.x.p, .bool j.x.q, .bool j.x.r, .bool j.x.tn, .int .i64 j.wa, .int .i64 j.pr, .bool j.he, .slice Y j.af.length cj, .int .u8 j.st, .int .i64 j.ca] (0, 0) _ KJ3.out Try.underlying33 rfl (by kernel_rfl) ?_))
  refine (HA.out X1 c1 _ HB3.out HO3.out.jobs).mono ?_
  rintro e w4 ⟨X2, c2, rfl, hO, hB4⟩
  have HB4 := Lib.hid (below_up HB3.out hB4)
  have KC4 := Lib.hid (KC3.out.below hB4 KC3.out.lt)
  have KJ4 := Lib.hid (KJ3.out.below hB4 KJ3.out.lt)
  clear KC3 KJ3
  have HO4 := Lib.hid (And.intro hO hB4)
  clear hO hB4
  go_wp2_with (first | (refine wpList_load_row rfl 26 _ rfl _ rfl 26 #[.int .i64 d0, .int .i64 d1, .int .i64 d2, .int .i64 bo, .int .i64 fr, .int .i64 tr, .int .i64 ag, .slice K ks.length kc] (0, 0) _ KC4.out Try.underlying26 rfl (by kernel_rfl) ?_) | (refine wpList_load_row rfl 33 _ rfl _ rfl 33 #[.int .i64 j.id, .int .i64 j.us, .int .i64 j.cl, .int .i64 j.x.a, .int .i64 j.x.b, .int .i64 j.x.c, .bool j.x.p, .bool j.x.q, .bool j.x.r, .bool j.x.tn, .int .i64 j.wa, .int .i64 j.pr, .bool j.he, .slice Y j.af.length cj, .int .u8 j.st, .int .i64 j.ca] (0, 0) _ KJ4.out Try.underlying33 rfl (by kernel_rfl) ?_))
  refine (HRA.out _ HB4.out).mono ?_
  rintro e w5 ⟨X3, c3, rfl, hJ, hB5⟩
  have HB5 := Lib.hid (And.intro (below_up HB4.out hB5) (And.intro (below_up HO4.out.2 hB5) (HO4.out.1.up hB5)))
  have HS5 := Lib.hid (rSame X2 X3 c2 c3 x x hxl hxl HXW.out HXW.out w5 (HO4.out.1.up hB5).jobs hJ)
  rw [decide_eq_true (rfl : x = x)] at HS5
  clear hJ hB5
  go_wp2_with fail
  refine HS5.out.mono ?_
  rintro e w6 ⟨rfl, hB6⟩
  have HB6 := Lib.hid (And.intro (below_up HB5.out.1 hB6) (below_up HB5.out.2.1 hB6))
  have HS6 := Lib.hid ((JobsOwn.shape HB5.out.2.2).up hB6)
  clear hB6 HS5 HB5
  have hvv : (v != v) = false := by simp
  go_wp2_with fail
  have hns : (lens x).length = x.length := by simp [lens]
  go_loopw [14] (fun i wr => ∃ k : Nat, k ≤ x.length ∧ i = .int .i64 k ∧ Hid (Below w3.heap.size w3 wr) ∧ Hid (Shape wr w3.heap.size X2 (lens x)))
    (fun i _ => x.length - (intOf i).toNat)
  case atStart => exact ⟨0, Nat.zero_le _, rfl, HB6.out.2, HS6.out⟩
  case round =>
    obtain ⟨k, hk, rfl, hB, hS⟩ := hrel
    clear HB6 HS6
    by_cases hlt : k < x.length
    · have hg : (lens x)[k]? = some (lens x)[k] := List.getElem?_eq_getElem (by omega)
      have hnm : (lens x)[k]'(by omega) ≤ 1000 := by
        have : (lens x)[k]'(by omega) = (x[k]'hlt).af.length := by simp [lens]
        rw [this]
        exact (HXW.out _ (List.getElem_mem hlt)).2
      generalize (lens x)[k]'(by omega) = n at hg hnm
      have hki : (k : Int) < (x.length : Int) := by omega
      have hki0 : (0 : Int) ≤ (k : Int) := by omega
      obtain ⟨g, Ya, ca, rfl, hgB, hc13, ⟨u1, hu1⟩, hf1, hel⟩ := hS.out k n hg
      have HG := Lib.hid (And.intro hg hgB)
      have hS1 := Lib.hid (Shape.set1 hS.out k (.int .i64 7))
      have hB1 := Lib.hid (hB.out.setCell (p := ⟨g, k * 16 + 1, none⟩) hgB (.int .i64 7))
      clear hg hc13 hel hns
      go_wp2_with fail
      go_loopw [15] (fun i wi => ∃ q : Nat, q ≤ n ∧ i = .int .i64 q ∧ Hid (Below w3.heap.size w3 wi) ∧ Hid (Shape wi w3.heap.size (some ⟨g, 0, none⟩) (lens x)))
        (fun i _ => n - (intOf i).toNat)
      case atStart => exact ⟨0, Nat.zero_le _, rfl, hB1.out, hS1.out⟩
      case round =>
        clear hB hS hB1 hS1 hu1 hf1
        obtain ⟨q, hq, rfl, hB, hS⟩ := hrel
        obtain ⟨g', Yb, cb, e1, _, hc13, _, _, hel⟩ := hS.out k n HG.out.1
        have e2 : g' = g := by simp at e1; exact e1.symm
        rw [e2] at hc13 hel
        clear e1 e2
        by_cases hqn : q < n
        · obtain ⟨b, o, rfl, hbB, hbg, ⟨u, hu⟩, hf⟩ := hel q hqn
          have hqi : (q : Int) < (n : Int) := by omega
          have hqi0 : (0 : Int) ≤ (q : Int) := by omega
          have HH := Lib.hid (And.intro hbB hbg)
          clear hel hbB hbg
          go_wp2_with fail
          go_roundw
          case rel => exact ⟨q + 1, by omega, by go_num, hB.out.setCell HH.out.1 _, hS.out.set_ HH.out.2 _⟩
          case measure => simp [intOf]; omega
        · obtain rfl : q = n := by omega
          have hqi : ¬ (q : Int) < (q : Int) := by omega
          clear hel
          go_wp2_with fail
          go_roundw
          case rel => exact ⟨k + 1, by omega, by go_num, hB.out, hS.out⟩
          case measure => simp [intOf]; omega
    · obtain rfl : k = x.length := by omega
      have HSF := Lib.hid (rSame X1 X c1 cX l l (by omega) (by omega) HL4.out HL4.out wr (HO3.out.up hB.out).jobs (HX.out.up (below_up HB3.out hB.out)))
      rw [decide_eq_true (rfl : l = l)] at HSF
      go_wp2_with fail
      refine HSF.out.mono ?_
      rintro e w9 ⟨rfl, hB9⟩
      have HB9 := Lib.hid (below_up (below_up HB3.out hB.out) hB9)
      clear hB9
      go_wp2_with fail
      go_ret
      exact ⟨rfl, HB9.out⟩
theorem addsLaw (w : World) (d0 d1 d2 bo fr tr ag : Int) (K : Option Addr) (kc : Nat) (ks : List Cls) (hcp : ks.length ≤ kc) (hcm : kc ≤ maxLen) (hk : ClsAt w w.heap.size K ks) (X : Option Addr) (cX : Nat) (l : List JV) (hlc : l.length ≤ cX) (hcX : cX ≤ maxLen) (hX : JobsAt w X l) (hla : ∀ j ∈ l, JWf j ∧ j.af.length ≤ maxLen) (U : Option Addr) (cu : Nat) (us : List Int) (huc : us.length ≤ cu) (hcu : cu ≤ maxLen) (hU : IntsAt w U us)
    (j : JV) (Y : Option Addr) (cj : Nat) (hjc : j.af.length ≤ cj) (hjm : cj ≤ maxLen) (hY : IntsAt w Y j.af) (hjw : JWf j) :
    Calls Try.prog 4 #[.agg #[.int .i64 d0, .int .i64 d1, .int .i64 d2, .int .i64 bo, .int .i64 fr, .int .i64 tr, .int .i64 ag, .slice K ks.length kc], .slice X l.length cX, .slice U us.length cu, .agg #[.int .i64 j.id, .int .i64 j.us, .int .i64 j.cl, .int .i64 j.x.a, .int .i64 j.x.b, .int .i64 j.x.c, .bool j.x.p, .bool j.x.q, .bool j.x.r, .bool j.x.tn, .int .i64 j.wa, .int .i64 j.pr, .bool j.he, .slice Y j.af.length cj, .int .u8 j.st, .int .i64 j.ca]] w fun e w' => e = .returned (.bool true) ∧ Below w.heap.size w w' := by
  have hlk : ks.length ≤ maxLen := Nat.le_trans hcp hcm
  have hl : l.length ≤ maxLen := Nat.le_trans hlc hcX
  have hlu : us.length ≤ maxLen := Nat.le_trans huc hcu
  have hjl : j.af.length ≤ maxLen := Nat.le_trans hjc hjm
  by_cases h0 : (100 : Int) < (ks.length : Int)
  · exact ja_cls d0 d1 d2 bo fr tr ag K kc ks hlk X cX l hlc hl hla U cu us hlu j Y cj hjl hjw h0 w hk hX hU hY
  by_cases h1 : greatB l = true
  · exact ja_great d0 d1 d2 bo fr tr ag K kc ks hlk X cX l hlc hl hla U cu us hlu j Y cj hjl hjw h0 h1 w hk hX hU hY
  have h1' : greatB l = false := by simpa using h1
  by_cases h2 : (100 : Int) < (us.length : Int)
  · exact ja_busy d0 d1 d2 bo fr tr ag K kc ks hlk X cX l hlc hl hla U cu us hlu j Y cj hjl hjw h0 h1' h2 w hk hX hU hY
  by_cases h3 : (100 : Int) < (j.af.length : Int)
  · exact ja_after d0 d1 d2 bo fr tr ag K kc ks hlk X cX l hlc hl hla U cu us hlu j Y cj hjl hjw h0 h1' h2 h3 w hk hX hU hY
  exact ja_main d0 d1 d2 bo fr tr ag K kc ks hlk X cX l hlc hl hla U cu us hlu j Y cj hjl hjw h0 h1' h2 h3 w hk hX hU hY
end Go.Proofs.Ytaldgmmmcbikgaa.JobAddsW
