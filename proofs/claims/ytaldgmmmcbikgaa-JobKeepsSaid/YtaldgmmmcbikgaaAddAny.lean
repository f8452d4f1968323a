/- job.Add, of any table and job. No conditions but those named. -/
import Derived.Test.YtaldgmmmcbikgaaAddErr
import Derived.Test.YtaldgmmmcbikgaaAddFull
import Derived.Test.YtaldgmmmcbikgaaAddMath
namespace Go.Proofs.Ytaldgmmmcbikgaa.AddAny
open Go.RowKit Mem PosMath PartMath PartClass PartCheck TurnMath TurnFitsV JobMath JobCheck JobMem JobAdd LooseI Loose AddErr AddFull AddMath

set_option linter.unusedVariables false
set_option linter.unusedSimpArgs false

set_option maxRecDepth 100000 in
set_option maxHeartbeats 16000000 in
theorem add_any (d0 d1 d2 bo fr tr ag : Int) (K : Option Addr) (kc : Nat) (ks : List Cls) (hlk : ks.length ≤ 4611686018427387904) (X : Option Addr) (cap : Nat) (l : List JV) (hl : l.length ≤ 1000) (hla : ∀ j ∈ l, j.af.length ≤ 1000) (U : Option Addr) (cu : Nat) (us : List Int) (j : JV) (Y : Option Addr) (cj : Nat) (hja : j.af.length ≤ 1000) (hlu : us.length ≤ 1000) (w : World) (hk : ClsAt w w.heap.size K ks) (hX : JobsAt w X l) (hU : IntsAt w U us) (hY : IntsAt w Y j.af) :
    Calls Try.prog 19 #[.agg #[.int .i64 d0, .int .i64 d1, .int .i64 d2, .int .i64 bo, .int .i64 fr, .int .i64 tr, .int .i64 ag, .slice K ks.length kc], .slice X l.length cap, .slice U us.length cu, .agg #[.int .i64 j.id, .int .i64 j.us, .int .i64 j.cl, .int .i64 j.x.a, .int .i64 j.x.b, .int .i64 j.x.c, .bool j.x.p, .bool j.x.q, .bool j.x.r, .bool j.x.tn, .int .i64 j.wa, .int .i64 j.pr, .bool j.he, .slice Y j.af.length cj, .int .u8 j.st, .int .i64 j.ca]] w fun e w' => ∃ X' c', e = .returned (.tuple #[.slice X' (addV d0 d1 d2 bo fr tr ag ks l us j).1.length c', .int .i64 (addV d0 d1 d2 bo fr tr ag ks l us j).2]) ∧ JobsOwn w' w.heap.size X' (addV d0 d1 d2 bo fr tr ag ks l us j).1 ∧ Below w.heap.size w w' := by
  by_cases h1 : tableV d0 d1 d2 bo fr tr ag ks l ≠ 0
  · have e : addV d0 d1 d2 bo fr tr ag ks l us j = ([], tableV d0 d1 d2 bo fr tr ag ks l) := by unfold addV; rw [if_pos h1]
    rw [e]
    refine (add_table d0 d1 d2 bo fr tr ag K kc ks hlk X cap l hl hla U cu us j Y cj hja h1 w hk hX hU hY).mono ?_
    rintro e w' ⟨rfl, hB⟩
    exact ⟨none, 0, rfl, JobsOwn.nil, hB⟩
  by_cases h2 : checkV d0 d1 d2 ks (asked j) ≠ 0
  · have e : addV d0 d1 d2 bo fr tr ag ks l us j = ([], checkV d0 d1 d2 ks (asked j)) := by unfold addV; rw [if_neg h1, if_pos h2]
    rw [e]
    refine (add_check d0 d1 d2 bo fr tr ag K kc ks hlk X cap l hl hla U cu us j Y cj hja (Decidable.not_not.1 h1) h2 w hk hX hU hY).mono ?_
    rintro e w' ⟨rfl, hB⟩
    exact ⟨none, 0, rfl, JobsOwn.nil, hB⟩
  have h1' := Decidable.not_not.1 h1
  have h2' := Decidable.not_not.1 h2
  by_cases h3 : lastB l j = true
  · have e : addV d0 d1 d2 bo fr tr ag ks l us j = ([], 8) := by unfold addV; rw [if_neg h1, if_neg h2, if_pos h3]
    rw [e]
    refine (add_bad d0 d1 d2 bo fr tr ag K kc ks hlk X cap l hl hla U cu us j Y cj hja h1' h2' (last_yes h3).1 (last_yes h3).2 w hk hX hU hY).mono ?_
    rintro e w' ⟨rfl, hB⟩
    exact ⟨none, 0, rfl, JobsOwn.nil, hB⟩
  have h3' : lastB l j = false := by simpa using h3
  by_cases h4 : thereB l j = false
  · have e : addV d0 d1 d2 bo fr tr ag ks l us j = ([], 182) := by unfold addV; rw [if_neg h1, if_neg h2, if_neg h3, if_pos h4]
    rw [e]
    refine (add_after d0 d1 d2 bo fr tr ag K kc ks hlk X cap l hl hla U cu us j Y cj hja h1' h2' (last_no h3') h4 w hk hX hU hY).mono ?_
    rintro e w' ⟨rfl, hB⟩
    exact ⟨none, 0, rfl, JobsOwn.nil, hB⟩
  have h4' : thereB l j = true := by simpa using h4
  by_cases h5 : l.length < 24
  · have e : addV d0 d1 d2 bo fr tr ag ks l us j = (l ++ [asked j], 0) := by unfold addV; rw [if_neg h1, if_neg h2, if_neg h3, if_neg h4, if_pos h5]
    rw [e]
    refine (add_room d0 d1 d2 bo fr tr ag K kc ks hlk X cap l hl hla U cu us j Y cj hja h1' h2' (last_no h3') h4' h5 w hk hX hU hY).mono ?_
    rintro e w' ⟨X', c', rfl, hO, hB⟩
    exact ⟨X', c', by simp, hO, hB⟩
  have h6 : l.length = 24 := by have := (tableV_of h1').2.len; omega
  refine (add_full d0 d1 d2 bo fr tr ag K kc ks hlk X cap l hl hla U cu us j Y cj hja h1' h2' (last_no h3') h4' h6 hlu w hk hX hU hY).mono ?_
  rintro e w' ⟨⟨i, X', c', hh, rfl, hO⟩ | ⟨hh, rfl⟩, hB⟩
  · have e : addV d0 d1 d2 bo fr tr ag ks l us j = ((l ++ [asked j]).eraseIdx i, 0) := by unfold addV; rw [if_neg h1, if_neg h2, if_neg h3, if_neg h4, if_neg h5, hh]
    have hil := (loose_mem (List.mem_of_mem_head? hh)).1
    rw [e]
    exact ⟨X', c', by simp only; rw [List.length_eraseIdx_of_lt (by simp; omega)]; simp, hO, hB⟩
  · have e : addV d0 d1 d2 bo fr tr ag ks l us j = ([], 9) := by unfold addV; rw [if_neg h1, if_neg h2, if_neg h3, if_neg h4, if_neg h5, hh]; rfl
    rw [e]
    exact ⟨none, 0, rfl, JobsOwn.nil, hB⟩

end Go.Proofs.Ytaldgmmmcbikgaa.AddAny
