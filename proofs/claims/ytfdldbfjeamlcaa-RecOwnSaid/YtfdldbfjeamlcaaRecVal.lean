/- Things of a record, in plain Lean, and where they lie in memory. No conditions. -/
import Derived.Deep.MidRow
import Derived.Test.YtfdldbfjeamlcaaRecCommand
namespace Go.Proofs.Ytfdldbfjeamlcaa.RecVal
open Go.RowKit Mem RecMem RecByte RecNum RecEach RecMath RecCommand
set_option linter.unusedVariables false
set_option linter.unusedSimpArgs false

/-- A class. -/
structure KV where
  pr : Int
  wa : Int
  no : Int
  ea : Int
deriving DecidableEq, Inhabited
/-- What a job is asked for by. -/
structure QV where
  us : Int
  cl : Int
  a : Int
  b : Int
  c : Int
  p : Bool
  q : Bool
  r : Bool
  tn : Bool
  wa : Int
  pr : Int
  he : Bool
  af : List Int
deriving DecidableEq, Inhabited
/-- A job. -/
structure JV where
  id : Int
  q : QV
  st : Int
  ca : Int
deriving DecidableEq, Inhabited
/-- A partition. -/
structure PV where
  jb : Int
  b0 : Int
  b1 : Int
  b2 : Int
  b3 : Int
  b4 : Int
  b5 : Int
  p : Bool
  q : Bool
  r : Bool
  ph : Int
  tr : Int
  si : Int
deriving DecidableEq, Inhabited
/-- A keep. -/
structure EV where
  id : Int
  b0 : Int
  b1 : Int
  b2 : Int
  b3 : Int
  b4 : Int
  b5 : Int
  fr : Int
  to : Int
deriving DecidableEq, Inhabited
/-- A state. -/
structure SV where
  d0 : Int
  d1 : Int
  d2 : Int
  bo : Int
  fr : Int
  tr : Int
  ag : Int
  cs : List KV
  nw : Int
  nx : Int
  js : List JV
  ps : List PV
  ks : List EV
  dn : List Int
  sh : List Int
  cu : List Int
deriving DecidableEq, Inhabited
/-- A record. -/
structure RV where
  g : Int
  s : SV
  c : CV
deriving DecidableEq, Inhabited
def QV.z : QV := ⟨0, 0, 0, 0, 0, false, false, false, false, 0, 0, false, []⟩
def SV.z : SV := ⟨0, 0, 0, 0, 0, 0, 0, [], 0, 0, [], [], [], [], [], []⟩
def RV.z : RV := ⟨0, SV.z, CV.z⟩
/-- The command's job. -/
def jobOf (c : CV) : JV := ⟨c.id, ⟨c.us, c.cl, c.a, c.b, c.c, c.p, c.q, c.r, c.tn, c.wa, c.pr, c.he, c.af⟩, c.st, c.ca⟩

/-! Cells. -/
abbrev kL (x : KV) : List Value := [.int .i64 x.pr, .int .i64 x.wa, .int .i64 x.no, .int .i64 x.ea]
abbrev qL (x : QV) (Y : Option Addr) (cy : Nat) : List Value := [.int .i64 x.us, .int .i64 x.cl, .int .i64 x.a, .int .i64 x.b, .int .i64 x.c, .bool x.p, .bool x.q, .bool x.r, .bool x.tn, .int .i64 x.wa, .int .i64 x.pr, .bool x.he, .slice Y x.af.length cy]
abbrev jL (x : JV) (Y : Option Addr) (cy : Nat) : List Value := [.int .i64 x.id, .int .i64 x.q.us, .int .i64 x.q.cl, .int .i64 x.q.a, .int .i64 x.q.b, .int .i64 x.q.c, .bool x.q.p, .bool x.q.q, .bool x.q.r, .bool x.q.tn, .int .i64 x.q.wa, .int .i64 x.q.pr, .bool x.q.he, .slice Y x.q.af.length cy, .int .u8 x.st, .int .i64 x.ca]
abbrev pL (x : PV) : List Value := [.int .i64 x.jb, .int .i64 x.b0, .int .i64 x.b1, .int .i64 x.b2, .int .i64 x.b3, .int .i64 x.b4, .int .i64 x.b5, .bool x.p, .bool x.q, .bool x.r, .int .u8 x.ph, .int .i64 x.tr, .int .i64 x.si]
abbrev eL (x : EV) : List Value := [.int .i64 x.id, .int .i64 x.b0, .int .i64 x.b1, .int .i64 x.b2, .int .i64 x.b3, .int .i64 x.b4, .int .i64 x.b5, .int .i64 x.fr, .int .i64 x.to]

/-! Numbers that are machine words. -/
def W64 (n : Int) : Prop := (Lit.int .i64 n).wf = true
def W8 (n : Int) : Prop := (Lit.int .u8 n).wf = true
def KWf (x : KV) : Prop := W64 x.pr ∧ W64 x.wa ∧ W64 x.no ∧ W64 x.ea
def QWf (x : QV) : Prop := W64 x.us ∧ W64 x.cl ∧ W64 x.a ∧ W64 x.b ∧ W64 x.c ∧ W64 x.wa ∧ W64 x.pr ∧ ∀ n ∈ x.af, W64 n
def JWf (x : JV) : Prop := W64 x.id ∧ QWf x.q ∧ W8 x.st ∧ W64 x.ca
def PWf (x : PV) : Prop := W64 x.jb ∧ W64 x.b0 ∧ W64 x.b1 ∧ W64 x.b2 ∧ W64 x.b3 ∧ W64 x.b4 ∧ W64 x.b5 ∧ W8 x.ph ∧ W64 x.tr ∧ W64 x.si
def EWf (x : EV) : Prop := W64 x.id ∧ W64 x.b0 ∧ W64 x.b1 ∧ W64 x.b2 ∧ W64 x.b3 ∧ W64 x.b4 ∧ W64 x.b5 ∧ W64 x.fr ∧ W64 x.to
def SWf (s : SV) : Prop := (W64 s.d0 ∧ W64 s.d1 ∧ W64 s.d2 ∧ W64 s.bo ∧ W64 s.fr ∧ W64 s.tr ∧ W64 s.ag ∧ W64 s.nw ∧ W64 s.nx) ∧ (∀ x ∈ s.cs, KWf x) ∧ (∀ x ∈ s.js, JWf x) ∧ (∀ x ∈ s.ps, PWf x) ∧ (∀ x ∈ s.ks, EWf x) ∧ (∀ n ∈ s.dn, W64 n) ∧ (∀ n ∈ s.sh, W64 n) ∧ (∀ n ∈ s.cu, W64 n)

/-! Slices of things. -/
/-- A slice of things of n cells each; what a thing's cells are, a relation tells. -/
def SlcAt {α : Type} (n : Nat) (rep : World → α → List Value → Prop) (w : World) (X : Option Addr) (l : List α) : Prop :=
  ∀ (i : Nat) (x : α), l[i]? = some x → ∃ b o cs, X = some ⟨b, o, none⟩ ∧ b < w.heap.size ∧ cs.length = n ∧ w.rangeAt b (o + i * n) cs ∧ rep w x cs
/-- What stays, where memory is only made. -/
def Stays {α : Type} (rep : World → α → List Value → Prop) : Prop := ∀ w w' x cs, rep w x cs → Below w.heap.size w w' → rep w' x cs
theorem range_below {w w' : World} {b o : Nat} {cs : List Value} (h : w.rangeAt b o cs) (hB : Below w.heap.size w w') : w'.rangeAt b o cs := fun i v hi => keep_cell (h i v hi) hB
theorem SlcAt.nil {α : Type} {n : Nat} {rep : World → α → List Value → Prop} {w : World} {X : Option Addr} : SlcAt n rep w X [] := fun i x h => by simp at h
theorem SlcAt.up {α : Type} {n : Nat} {rep : World → α → List Value → Prop} {w w' : World} {X : Option Addr} {l : List α} (hr : Stays rep) (h : SlcAt n rep w X l) (hB : Below w.heap.size w w') : SlcAt n rep w' X l := fun i x hi => by
  obtain ⟨b, o, cs, e, h1, h2, h3, h4⟩ := h i x hi
  exact ⟨b, o, cs, e, Nat.lt_of_lt_of_le h1 hB.size, h2, range_below h3 hB, hr _ _ _ _ h4 hB⟩
def kRep (w : World) (x : KV) (cs : List Value) : Prop := cs = kL x
def pRep (w : World) (x : PV) (cs : List Value) : Prop := cs = pL x
def eRep (w : World) (x : EV) (cs : List Value) : Prop := cs = eL x
def jRep (w : World) (x : JV) (cs : List Value) : Prop := ∃ Y cy, cs = jL x Y cy ∧ x.q.af.length ≤ cy ∧ IntsAt w Y x.q.af
theorem kStays : Stays kRep := fun _ _ _ _ h _ => h
theorem pStays : Stays pRep := fun _ _ _ _ h _ => h
theorem eStays : Stays eRep := fun _ _ _ _ h _ => h
theorem jStays : Stays jRep := fun _ _ _ _ h hB => by
  obtain ⟨Y, cy, e, h1, h2⟩ := h
  exact ⟨Y, cy, e, h1, h2.up hB⟩
abbrev KsAt := SlcAt 4 kRep
abbrev JsAt := SlcAt 16 jRep
abbrev PsAt := SlcAt 13 pRep
abbrev EsAt := SlcAt 9 eRep

/-! States, commands, records: where their slices lie. -/
structure SA where
  C : Option Addr
  cc : Nat
  J : Option Addr
  cj : Nat
  P : Option Addr
  cp : Nat
  K : Option Addr
  ck : Nat
  D : Option Addr
  cd : Nat
  S : Option Addr
  cs : Nat
  U : Option Addr
  cu : Nat
def SA.z : SA := ⟨none, 0, none, 0, none, 0, none, 0, none, 0, none, 0, none, 0⟩
abbrev sL (s : SV) (x : SA) : List Value := [.int .i64 s.d0, .int .i64 s.d1, .int .i64 s.d2, .int .i64 s.bo, .int .i64 s.fr, .int .i64 s.tr, .int .i64 s.ag, .slice x.C s.cs.length x.cc, .int .i64 s.nw, .int .i64 s.nx, .slice x.J s.js.length x.cj, .slice x.P s.ps.length x.cp, .slice x.K s.ks.length x.ck, .slice x.D s.dn.length x.cd, .slice x.S s.sh.length x.cs, .slice x.U s.cu.length x.cu]
abbrev cL (c : CV) (Y : Option Addr) (cy : Nat) : List Value := [.int .u8 c.kd, .int .i64 c.id, .int .i64 c.us, .int .i64 c.cl, .int .i64 c.a, .int .i64 c.b, .int .i64 c.c, .bool c.p, .bool c.q, .bool c.r, .bool c.tn, .int .i64 c.wa, .int .i64 c.pr, .bool c.he, .slice Y c.af.length cy, .int .u8 c.st, .int .i64 c.ca, .int .i64 c.ci, .int .i64 c.b0, .int .i64 c.b1, .int .i64 c.b2, .int .i64 c.b3, .int .i64 c.b4, .int .i64 c.b5, .int .i64 c.fr, .int .i64 c.to, .int .i64 c.n, .bool c.we]
abbrev rL (r : RV) (x : SA) (Y : Option Addr) (cy : Nat) : List Value := [.int .i64 r.g, .int .i64 r.s.d0, .int .i64 r.s.d1, .int .i64 r.s.d2, .int .i64 r.s.bo, .int .i64 r.s.fr, .int .i64 r.s.tr, .int .i64 r.s.ag, .slice x.C r.s.cs.length x.cc, .int .i64 r.s.nw, .int .i64 r.s.nx, .slice x.J r.s.js.length x.cj, .slice x.P r.s.ps.length x.cp, .slice x.K r.s.ks.length x.ck, .slice x.D r.s.dn.length x.cd, .slice x.S r.s.sh.length x.cs, .slice x.U r.s.cu.length x.cu,
  .int .u8 r.c.kd, .int .i64 r.c.id, .int .i64 r.c.us, .int .i64 r.c.cl, .int .i64 r.c.a, .int .i64 r.c.b, .int .i64 r.c.c, .bool r.c.p, .bool r.c.q, .bool r.c.r, .bool r.c.tn, .int .i64 r.c.wa, .int .i64 r.c.pr, .bool r.c.he, .slice Y r.c.af.length cy, .int .u8 r.c.st, .int .i64 r.c.ca, .int .i64 r.c.ci, .int .i64 r.c.b0, .int .i64 r.c.b1, .int .i64 r.c.b2, .int .i64 r.c.b3, .int .i64 r.c.b4, .int .i64 r.c.b5, .int .i64 r.c.fr, .int .i64 r.c.to, .int .i64 r.c.n, .bool r.c.we]
structure StAt (w : World) (s : SV) (x : SA) : Prop where
  C : KsAt w x.C s.cs
  J : JsAt w x.J s.js
  P : PsAt w x.P s.ps
  K : EsAt w x.K s.ks
  D : IntsAt w x.D s.dn
  S : IntsAt w x.S s.sh
  U : IntsAt w x.U s.cu
  cc : s.cs.length ≤ x.cc
  cj : s.js.length ≤ x.cj
  cp : s.ps.length ≤ x.cp
  ck : s.ks.length ≤ x.ck
  cd : s.dn.length ≤ x.cd
  cs : s.sh.length ≤ x.cs
  cu : s.cu.length ≤ x.cu
theorem StAt.up {w w' : World} {s : SV} {x : SA} (h : StAt w s x) (hB : Below w.heap.size w w') : StAt w' s x :=
  ⟨h.C.up kStays hB, h.J.up jStays hB, h.P.up pStays hB, h.K.up eStays hB, h.D.up hB, h.S.up hB, h.U.up hB, h.cc, h.cj, h.cp, h.ck, h.cd, h.cs, h.cu⟩
theorem StAt.z {w : World} : StAt w SV.z SA.z := ⟨SlcAt.nil, SlcAt.nil, SlcAt.nil, SlcAt.nil, IntsAt.nil, IntsAt.nil, IntsAt.nil, Nat.le_refl _, Nat.le_refl _, Nat.le_refl _, Nat.le_refl _, Nat.le_refl _, Nat.le_refl _, Nat.le_refl _⟩
end Go.Proofs.Ytfdldbfjeamlcaa.RecVal
