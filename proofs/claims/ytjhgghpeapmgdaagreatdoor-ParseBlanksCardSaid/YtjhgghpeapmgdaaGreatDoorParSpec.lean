/-
  PARSE, PLAIN: what the parser's methods compute, on lists of tokens; each takes a token at least; what stays within bounds. No program here.
-/
import Derived.Test.YtjhgghpeapmgdaaGreatDoorPlanSpec
namespace Go.Bk
open Go

abbrev PE (α : Type) := Except (Int × Int) α
def andE {α β : Type} : PE α → (α → PE β) → PE β
 | .ok a,f => f a
 | .error e,_ => .error e
@[simp] theorem andE_ok {α β : Type} (a : α) (f : α → PE β) : andE (.ok a) f = f a := rfl
@[simp] theorem andE_error {α β : Type} (e : Int × Int) (f : α → PE β) : andE (.error e) f = .error e := rfl
theorem andE_some {α β : Type} {x : PE α} {f : α → PE β} {b : β} (h : andE x f = .ok b) : ∃ a,x = .ok a ∧ f a = .ok b := by
 cases x with
 | ok a => exact ⟨a,rfl,h⟩
 | error e => cases h
structure PSt where
 p : PPlan
 ts : List Tok
def d0T : Tok := ⟨0,[],0,0⟩
def PSt.hd (s : PSt) : Tok := s.ts.getD 0 d0T
def isS (wd : Bytes) (s : PSt) : Bool := decide (s.hd.kind = 1) && decide (s.hd.text = wd)
def takeS (k : Int) (s : PSt) : PE (Tok × PSt) := if s.hd.kind = k then .ok (s.hd,if k = 4 then s else ⟨s.p,s.ts.drop 1⟩) else .error (40,s.hd.at')
def wordS (wd : Bytes) (s : PSt) : PE (Tok × PSt) := if isS wd s = true then takeS 1 s else .error (40,s.hd.at')
def headS (wd : Bytes) (most many : Int) (s : PSt) : PE PSt := andE (wordS wd s) fun r => if most ≤ many then .error (44,r.1.at') else .ok r.2
def numberS (l m : Int) (s : PSt) : PE (Int × PSt) := andE (takeS 2 s) fun r => if r.1.n < l ∨ m < r.1.n then .error (42,r.1.at') else .ok (r.1.n,r.2)
def nodeIx (p : PPlan) (x : Bytes) : Int := idxI (fun y : PNode => decide (y.name = x)) p.nodes
def destIx (p : PPlan) (x : Bytes) : Int := idxI (fun y : PDest => decide (y.name = x)) p.dests
def freshS (s : PSt) : PE (Bytes × PSt) := andE (takeS 1 s) fun r => if kwB r.1.text = true ∨ 0 ≤ nodeIx r.2.p r.1.text ∨ 0 ≤ destIx r.2.p r.1.text then .error (41,r.1.at') else .ok (r.1.text,r.2)
def knownS (find : PPlan → Bytes → Int) (s : PSt) : PE ((Int × Tok) × PSt) := andE (takeS 1 s) fun r => if find r.2.p r.1.text < 0 then .error (41,r.1.at') else .ok ((find r.2.p r.1.text,r.1),r.2)
def stopS (s : PSt) : PE PSt := andE (takeS 3 s) fun r => .ok r.2
def protocolS (s : PSt) : PE PSt :=
 andE (wordS wdProtocol s) fun r =>
  if isS wdPath r.2 = true then andE (wordS wdPath r.2) fun r => andE (numberS 1 12 r.2) fun r => stopS { r.2 with p := { r.2.p with proto := 2,cap := r.1 } }
  else andE (wordS wdVector r.2) fun r => stopS { r.2 with p := { r.2.p with proto := 1 } }
def failuresS (s : PSt) : PE (Tok × PSt) :=
 andE (wordS wdFailures s) fun r => andE (numberS 0 4 r.2) fun q => andE (stopS { q.2 with p := { q.2.p with k := q.1 } }) fun z => .ok (r.2.hd,z)
def addNode (p : PPlan) (x : PNode) : PPlan := { p with nodes := p.nodes ++ [x] }
def addLink (p : PPlan) (x : PLink) : PPlan := { p with links := p.links ++ [x] }
def addDest (p : PPlan) (x : PDest) : PPlan := { p with dests := p.dests ++ [x] }
def addCheck (p : PPlan) (x : PCheck) : PPlan := { p with checks := p.checks ++ [x] }
def nodeS (s : PSt) : PE PSt :=
 andE (headS wdNode 12 s.p.nodes.length s) fun s => andE (freshS s) fun x => andE (numberS 1 65535 x.2) fun n => andE (stopS n.2) fun s => .ok ⟨addNode s.p ⟨x.1,n.1⟩,s.ts⟩
def hasLink (p : PPlan) (a b : Int) : Bool := p.links.any fun y => decide (a = y.a) && decide (b = y.b)
def linkS (s : PSt) : PE PSt :=
 andE (headS wdLink 16 s.p.links.length s) fun s => andE (knownS nodeIx s) fun a => andE (knownS nodeIx a.2) fun b =>
  if a.1.1 = b.1.1 ∨ hasLink b.2.p (min a.1.1 b.1.1) (max a.1.1 b.1.1) = true then .error (43,b.1.2.at')
  else andE (numberS 1 15 b.2) fun n => andE (stopS n.2) fun s => .ok ⟨addLink s.p ⟨min a.1.1 b.1.1,max a.1.1 b.1.1,n.1⟩,s.ts⟩
def loopS {σ : Type} (c : σ → Bool) (f : σ → PE σ) : Nat → σ → PE σ
 | 0,s => .ok s
 | n + 1,s => if c s = true then andE (f s) (loopS c f n) else .ok s
def whileS {σ : Type} (c : σ → Bool) (f : σ → PE σ) (m : σ → Nat) (s : σ) : PE σ := loopS c f (m s + 1) s
theorem loopS_fuel {σ : Type} {c : σ → Bool} {f : σ → PE σ} {m : σ → Nat} (hf : ∀ s s',f s = .ok s' → m s' < m s) : ∀ (n k : Nat) (s : σ),m s < n → m s < k → loopS c f n s = loopS c f k s
 | 0,_,_,h,_ => absurd h (Nat.not_lt_zero _)
 | _ + 1,0,_,_,h => absurd h (Nat.not_lt_zero _)
 | n + 1,k + 1,s,hn,hk => by
  simp only [loopS]
  split
  ·cases h : f s with
   | ok s' =>
    have := hf s s' h
    exact loopS_fuel hf n k s' (by omega) (by omega)
   | error e => rfl
  ·rfl
theorem whileS_step {σ : Type} {c : σ → Bool} {f : σ → PE σ} {m : σ → Nat} (hf : ∀ s s',f s = .ok s' → m s' < m s) (s : σ) : whileS c f m s = if c s = true then andE (f s) (whileS c f m) else .ok s := by
 unfold whileS
 rw [loopS]
 split
 ·cases h : f s with
  | ok s' =>
   have := hf s s' h
   exact loopS_fuel hf _ _ s' (by omega) (by omega)
  | error e => rfl
 ·rfl
def origC (x : List Int × PSt) : Bool := decide (x.1.length = 0) || !decide (x.2.hd.kind = 3)
def origS (x : List Int × PSt) : PE (List Int × PSt) := andE (knownS nodeIx x.2) fun r => if decide (r.1.1 ∈ x.1) = true then .error (41,r.1.2.at') else .ok (x.1 ++ [r.1.1],r.2)
def originsS (x : List Int × PSt) : PE (List Int × PSt) := whileS origC origS (fun y => y.2.ts.length) x
def insI (x : Int) : List Int → List Int
 | [] => [x]
 | y :: r => if x ≤ y then x :: y :: r else y :: insI x r
def sortI (l : List Int) : List Int := l.foldr insI []
def destS (s : PSt) : PE PSt :=
 andE (headS wdDest 4 s.p.dests.length s) fun s => andE (freshS s) fun x => andE (wordS wdAt x.2) fun r => andE (originsS ([],r.2)) fun o => andE (stopS o.2) fun s => .ok ⟨addDest s.p ⟨x.1,sortI o.1⟩,s.ts⟩
def kindWords : List Bytes := [[],wdReach,wdWithin,wdWaypoint,wdEqual]
def kindIx (x : Bytes) : Int := idxI (fun y : Bytes => decide (x = y)) kindWords
def kindS (s : PSt) : PE (Int × PSt) := andE (takeS 1 s) fun r => if kindIx r.1.text < 0 then .error (40,r.1.at') else .ok (kindIx r.1.text,r.2)
def aNodeS (s : PSt) : PE (Int × PSt) := andE (knownS nodeIx s) fun r => .ok (r.1.1,r.2)
def aDestS (s : PSt) : PE (Int × PSt) := andE (knownS destIx s) fun r => .ok (r.1.1,r.2)
def otherS (k : Int) (s : PSt) : PE (Int × PSt) := if k = 4 then aNodeS s else .ok (0,s)
def restS (k o : Int) (s : PSt) : PE ((Int × Int) × PSt) :=
 if k = 2 then andE (numberS 0 65535 s) fun r => .ok ((r.1,o),r.2) else if k = 3 then andE (aNodeS s) fun r => .ok ((0,r.1),r.2) else .ok ((0,o),s)
def checkS (s : PSt) : PE PSt :=
 andE (headS wdCheck 16 s.p.checks.length s) fun s => andE (kindS s) fun k => andE (aNodeS k.2) fun a => andE (otherS k.1 a.2) fun o => andE (aDestS o.2) fun d => andE (restS k.1 o.1 d.2) fun r => andE (stopS r.2) fun s =>
  .ok ⟨addCheck s.p ⟨k.1,a.1,d.1,r.1.1,r.1.2⟩,s.ts⟩
def manyS (wd : Bytes) (f : PSt → PE PSt) (s : PSt) : PE PSt := whileS (isS wd) f (fun y => y.ts.length) s
def allS (s : PSt) : PE PSt :=
 andE (protocolS s) fun s => andE (failuresS s) fun k => andE (nodeS k.2) fun s => andE (manyS wdNode nodeS s) fun s => andE (manyS wdLink linkS s) fun s => andE (manyS wdDest destS s) fun s => andE (manyS wdCheck checkS s) fun s =>
  andE (takeS 4 s) fun r => if (r.2.p.links.length : Int) < r.2.p.k then .error (42,k.1.at') else .ok r.2
def noPlan : PPlan := ⟨0,0,0,[],[],[],[]⟩
def parseToks (x : LexOut) : PPlan × Int × Int :=
 if x.2.1 = 0 then (match allS ⟨noPlan,x.1⟩ with
  | .ok s => (s.p,0,0)
  | .error e => (noPlan,e.1,e.2)) else (noPlan,x.2.1,x.2.2)
def parseT (s : Bytes) : PPlan × Int × Int := parseToks (lexT s)

theorem takeS_ok {k : Int} {s : PSt} {r : Tok × PSt} (h : takeS k s = .ok r) : s.hd.kind = k ∧ r = (s.hd,if k = 4 then s else ⟨s.p,s.ts.drop 1⟩) := by
 unfold takeS at h
 split at h
 ·exact ⟨by assumption,(Except.ok.inj h).symm⟩
 ·cases h
theorem hd_kind {s : PSt} (h : s.hd.kind ≠ 0) : 0 < s.ts.length := by
 apply Classical.byContradiction
 intro h1
 have : s.ts = [] := List.length_eq_zero_iff.1 (by omega)
 apply h
 unfold PSt.hd
 rw [this]; rfl
theorem takeS_lt {k : Int} {s : PSt} {r : Tok × PSt} (h : takeS k s = .ok r) (h4 : k ≠ 4) (h0 : k ≠ 0) : r.2.ts.length < s.ts.length := by
 obtain ⟨h1,rfl⟩ := takeS_ok h
 have := hd_kind (s := s) (by omega)
 rw [if_neg h4]
 simp only [List.length_drop]
 omega
theorem wordS_ok {wd : Bytes} {s : PSt} {r : Tok × PSt} (h : wordS wd s = .ok r) : isS wd s = true ∧ takeS 1 s = .ok r := by
 unfold wordS at h
 split at h
 ·exact ⟨by assumption,h⟩
 ·cases h
theorem wordS_lt {wd : Bytes} {s : PSt} {r : Tok × PSt} (h : wordS wd s = .ok r) : r.2.ts.length < s.ts.length := takeS_lt (wordS_ok h).2 (by decide) (by decide)
theorem headS_ok {wd : Bytes} {a b : Int} {s s' : PSt} (h : headS wd a b s = .ok s') : ∃ t,wordS wd s = .ok (t,s') ∧ b < a := by
 obtain ⟨r,h1,h2⟩ := andE_some h
 split at h2
 ·cases h2
 ·rename_i hn
  have := Except.ok.inj h2
  subst this
  exact ⟨r.1,h1,by omega⟩
theorem numberS_ok {a b : Int} {s : PSt} {r : Int × PSt} (h : numberS a b s = .ok r) : ∃ t,takeS 2 s = .ok (t,r.2) ∧ r.1 = t.n ∧ a ≤ t.n ∧ t.n ≤ b := by
 obtain ⟨q,h1,h2⟩ := andE_some h
 split at h2
 ·cases h2
 ·rename_i hn
  have := Except.ok.inj h2
  subst this
  exact ⟨q.1,h1,rfl,by omega,by omega⟩
theorem freshS_ok {s : PSt} {r : Bytes × PSt} (h : freshS s = .ok r) : ∃ t,takeS 1 s = .ok (t,r.2) ∧ r.1 = t.text ∧ kwB t.text = false ∧ nodeIx r.2.p t.text < 0 ∧ destIx r.2.p t.text < 0 := by
 obtain ⟨q,h1,h2⟩ := andE_some h
 split at h2
 ·cases h2
 ·rename_i hn
  have := Except.ok.inj h2
  subst this
  simp only [not_or] at hn
  exact ⟨q.1,h1,rfl,by simpa using hn.1,by simpa using hn.2.1,by simpa using hn.2.2⟩
theorem knownS_ok {f : PPlan → Bytes → Int} {s : PSt} {r : (Int × Tok) × PSt} (h : knownS f s = .ok r) : takeS 1 s = .ok (r.1.2,r.2) ∧ r.1.1 = f r.2.p r.1.2.text ∧ 0 ≤ r.1.1 := by
 obtain ⟨q,h1,h2⟩ := andE_some h
 split at h2
 ·cases h2
 ·rename_i hn
  have := Except.ok.inj h2
  subst this
  exact ⟨h1,rfl,by simpa using hn⟩
theorem stopS_ok {s s' : PSt} (h : stopS s = .ok s') : ∃ t,takeS 3 s = .ok (t,s') := by
 obtain ⟨q,h1,h2⟩ := andE_some h
 have := Except.ok.inj h2
 subst this
 exact ⟨q.1,h1⟩
theorem headS_lt {wd : Bytes} {a b : Int} {s s' : PSt} (h : headS wd a b s = .ok s') : s'.ts.length < s.ts.length := by
 obtain ⟨t,h,_⟩ := headS_ok h
 exact wordS_lt h
theorem numberS_lt {a b : Int} {s : PSt} {r : Int × PSt} (h : numberS a b s = .ok r) : r.2.ts.length < s.ts.length := by
 obtain ⟨t,h,_⟩ := numberS_ok h
 exact takeS_lt h (by decide) (by decide)
theorem freshS_lt {s : PSt} {r : Bytes × PSt} (h : freshS s = .ok r) : r.2.ts.length < s.ts.length := by
 obtain ⟨t,h,_⟩ := freshS_ok h
 exact takeS_lt h (by decide) (by decide)
theorem knownS_lt {f : PPlan → Bytes → Int} {s : PSt} {r : (Int × Tok) × PSt} (h : knownS f s = .ok r) : r.2.ts.length < s.ts.length := takeS_lt (knownS_ok h).1 (by decide) (by decide)
theorem stopS_lt {s s' : PSt} (h : stopS s = .ok s') : s'.ts.length < s.ts.length := by
 obtain ⟨t,h⟩ := stopS_ok h
 exact takeS_lt h (by decide) (by decide)
theorem nodeS_lt (s s' : PSt) (h : nodeS s = .ok s') : s'.ts.length < s.ts.length := by
 obtain ⟨a,h1,h⟩ := andE_some h
 obtain ⟨b,h2,h⟩ := andE_some h
 obtain ⟨c,h3,h⟩ := andE_some h
 obtain ⟨d,h4,h⟩ := andE_some h
 have := headS_lt h1; have := freshS_lt h2; have := numberS_lt h3; have := stopS_lt h4
 rw [← Except.ok.inj h]
 simp only
 omega
theorem linkS_lt (s s' : PSt) (h : linkS s = .ok s') : s'.ts.length < s.ts.length := by
 obtain ⟨a,h1,h⟩ := andE_some h
 obtain ⟨b,h2,h⟩ := andE_some h
 obtain ⟨c,h3,h⟩ := andE_some h
 split at h
 ·cases h
 ·obtain ⟨d,h4,h⟩ := andE_some h
  obtain ⟨e,h5,h⟩ := andE_some h
  have := headS_lt h1; have := knownS_lt h2; have := knownS_lt h3; have := numberS_lt h4; have := stopS_lt h5
  rw [← Except.ok.inj h]
  simp only
  omega
theorem origS_lt (x y : List Int × PSt) (h : origS x = .ok y) : y.2.ts.length < x.2.ts.length := by
 obtain ⟨a,h1,h⟩ := andE_some h
 split at h
 ·cases h
 ·have := knownS_lt h1
  rw [← Except.ok.inj h]
  exact this
theorem originsS_step (x : List Int × PSt) : originsS x = if origC x = true then andE (origS x) originsS else .ok x := whileS_step (m := fun y : List Int × PSt => y.2.ts.length) origS_lt x
theorem loopS_le {σ : Type} {c : σ → Bool} {f : σ → PE σ} {m : σ → Nat} (hf : ∀ s s',f s = .ok s' → m s' < m s) : ∀ (n : Nat) (s s' : σ),loopS c f n s = .ok s' → m s' ≤ m s
 | 0,s,s',h => by rw [← Except.ok.inj h]; exact Nat.le_refl _
 | n + 1,s,s',h => by
  rw [loopS] at h
  split at h
  ·obtain ⟨a,h1,h2⟩ := andE_some h
   have := hf _ _ h1
   have := loopS_le hf n a s' h2
   omega
  ·rw [← Except.ok.inj h]; exact Nat.le_refl _
theorem originsS_le {x y : List Int × PSt} (h : originsS x = .ok y) : y.2.ts.length ≤ x.2.ts.length := loopS_le (m := fun y : List Int × PSt => y.2.ts.length) origS_lt _ _ _ h
theorem destS_lt (s s' : PSt) (h : destS s = .ok s') : s'.ts.length < s.ts.length := by
 obtain ⟨a,h1,h⟩ := andE_some h
 obtain ⟨b,h2,h⟩ := andE_some h
 obtain ⟨c,h3,h⟩ := andE_some h
 obtain ⟨d,h4,h⟩ := andE_some h
 obtain ⟨e,h5,h⟩ := andE_some h
 have := headS_lt h1; have := freshS_lt h2; have := wordS_lt h3; have := originsS_le h4; have := stopS_lt h5
 rw [← Except.ok.inj h]
 simp only at *
 omega
theorem aNodeS_lt {s : PSt} {r : Int × PSt} (h : aNodeS s = .ok r) : r.2.ts.length < s.ts.length := by
 obtain ⟨a,h1,h⟩ := andE_some h
 rw [← Except.ok.inj h]
 exact knownS_lt h1
theorem aDestS_lt {s : PSt} {r : Int × PSt} (h : aDestS s = .ok r) : r.2.ts.length < s.ts.length := by
 obtain ⟨a,h1,h⟩ := andE_some h
 rw [← Except.ok.inj h]
 exact knownS_lt h1
theorem otherS_le {k : Int} {s : PSt} {r : Int × PSt} (h : otherS k s = .ok r) : r.2.ts.length ≤ s.ts.length := by
 unfold otherS at h
 split at h
 ·exact Nat.le_of_lt (aNodeS_lt h)
 ·rw [← Except.ok.inj h]; exact Nat.le_refl _
theorem restS_le {k o : Int} {s : PSt} {r : (Int × Int) × PSt} (h : restS k o s = .ok r) : r.2.ts.length ≤ s.ts.length := by
 unfold restS at h
 split at h
 ·obtain ⟨a,h1,h⟩ := andE_some h
  rw [← Except.ok.inj h]
  exact Nat.le_of_lt (numberS_lt h1)
 ·split at h
  ·obtain ⟨a,h1,h⟩ := andE_some h
   rw [← Except.ok.inj h]
   exact Nat.le_of_lt (aNodeS_lt h1)
  ·rw [← Except.ok.inj h]; exact Nat.le_refl _
theorem kindS_ok {s : PSt} {r : Int × PSt} (h : kindS s = .ok r) : ∃ t,takeS 1 s = .ok (t,r.2) ∧ r.1 = kindIx t.text ∧ 0 ≤ r.1 := by
 obtain ⟨q,h1,h2⟩ := andE_some h
 split at h2
 ·cases h2
 ·rename_i hn
  have := Except.ok.inj h2
  subst this
  exact ⟨q.1,h1,rfl,by simpa using hn⟩
theorem kindS_lt {s : PSt} {r : Int × PSt} (h : kindS s = .ok r) : r.2.ts.length < s.ts.length := by
 obtain ⟨t,h,_⟩ := kindS_ok h
 exact takeS_lt h (by decide) (by decide)
theorem checkS_lt (s s' : PSt) (h : checkS s = .ok s') : s'.ts.length < s.ts.length := by
 obtain ⟨a,h1,h⟩ := andE_some h
 obtain ⟨b,h2,h⟩ := andE_some h
 obtain ⟨c,h3,h⟩ := andE_some h
 obtain ⟨d,h4,h⟩ := andE_some h
 obtain ⟨e,h5,h⟩ := andE_some h
 obtain ⟨g,h6,h⟩ := andE_some h
 obtain ⟨i,h7,h⟩ := andE_some h
 have := headS_lt h1; have := kindS_lt h2; have := aNodeS_lt h3; have := otherS_le h4; have := aDestS_lt h5; have := restS_le h6; have := stopS_lt h7
 rw [← Except.ok.inj h]
 simp only at *
 omega
theorem manyS_step {wd : Bytes} {f : PSt → PE PSt} (hf : ∀ s s' : PSt,f s = .ok s' → s'.ts.length < s.ts.length) (s : PSt) : manyS wd f s = if isS wd s = true then andE (f s) (manyS wd f) else .ok s := whileS_step (m := fun y : PSt => y.ts.length) hf s

theorem takeS_plan {k : Int} {s : PSt} {r : Tok × PSt} (h : takeS k s = .ok r) : r.2.p = s.p := by
 obtain ⟨_,rfl⟩ := takeS_ok h
 simp only
 split <;> rfl
theorem wordS_plan {wd : Bytes} {s : PSt} {r : Tok × PSt} (h : wordS wd s = .ok r) : r.2.p = s.p := takeS_plan (wordS_ok h).2
theorem headS_plan {wd : Bytes} {a : Nat} {b : Nat} {s s' : PSt} (h : headS wd (a : Int) (b : Int) s = .ok s') : s'.p = s.p ∧ b < a := by
 obtain ⟨t,h1,h2⟩ := headS_ok h
 exact ⟨wordS_plan h1,by omega⟩
theorem numberS_plan {a b : Int} {s : PSt} {r : Int × PSt} (h : numberS a b s = .ok r) : r.2.p = s.p := by
 obtain ⟨t,h,_⟩ := numberS_ok h
 exact takeS_plan h
theorem freshS_plan {s : PSt} {r : Bytes × PSt} (h : freshS s = .ok r) : r.2.p = s.p := by
 obtain ⟨t,h,_⟩ := freshS_ok h
 exact takeS_plan h
theorem knownS_plan {f : PPlan → Bytes → Int} {s : PSt} {r : (Int × Tok) × PSt} (h : knownS f s = .ok r) : r.2.p = s.p := takeS_plan (knownS_ok h).1
theorem stopS_plan {s s' : PSt} (h : stopS s = .ok s') : s'.p = s.p := by
 obtain ⟨t,h⟩ := stopS_ok h
 exact takeS_plan h
theorem aNodeS_plan {s : PSt} {r : Int × PSt} (h : aNodeS s = .ok r) : r.2.p = s.p := by
 obtain ⟨a,h1,h⟩ := andE_some h
 rw [← Except.ok.inj h]
 exact knownS_plan h1
theorem aDestS_plan {s : PSt} {r : Int × PSt} (h : aDestS s = .ok r) : r.2.p = s.p := by
 obtain ⟨a,h1,h⟩ := andE_some h
 rw [← Except.ok.inj h]
 exact knownS_plan h1
theorem kindS_plan {s : PSt} {r : Int × PSt} (h : kindS s = .ok r) : r.2.p = s.p := by
 obtain ⟨t,h,_⟩ := kindS_ok h
 exact takeS_plan h
structure PIn (s : PSt) : Prop where
 fin : ∃ t ∈ s.ts,t.kind = 4
 len : s.ts.length ≤ 10001
 txt : ∀ t ∈ s.ts,t.text.length ≤ 10000
 nn : s.p.nodes.length ≤ 12
 nl : s.p.links.length ≤ 16
 nd : s.p.dests.length ≤ 4
 nc : s.p.checks.length ≤ 16
 names : ∀ x ∈ namesL s.p,x.length ≤ 10000
 orig : ∀ d ∈ s.p.dests,d.origins.length ≤ 10001
theorem PIn.pos {s : PSt} (h : PIn s) : 0 < s.ts.length := by
 obtain ⟨t,h,_⟩ := h.fin
 exact List.length_pos_of_mem h
theorem hd_mem {s : PSt} (h : 0 < s.ts.length) : s.hd ∈ s.ts := by
 unfold PSt.hd
 rw [List.getD_eq_getElem?_getD,List.getElem?_eq_getElem h]
 exact List.getElem_mem h
theorem PIn.hdtxt {s : PSt} (h : PIn s) : s.hd.text.length ≤ 10000 := h.txt _ (hd_mem h.pos)
theorem PIn.drop {s : PSt} (h : PIn s) (hk : s.hd.kind ≠ 4) : PIn ⟨s.p,s.ts.drop 1⟩ := by
 refine ⟨?_,by have := h.len; simp only [List.length_drop]; omega,fun t ht => h.txt t (List.mem_of_mem_drop ht),h.nn,h.nl,h.nd,h.nc,h.names,h.orig⟩
 obtain ⟨t,ht,h4⟩ := h.fin
 refine ⟨t,?_,h4⟩
 unfold PSt.hd at hk
 cases hs : s.ts with
 | nil => rw [hs] at ht; cases ht
 | cons x r =>
  rw [hs] at ht hk
  rcases List.mem_cons.1 ht with rfl | ht
  ·exact absurd h4 hk
  ·exact ht
theorem PIn.take {k : Int} {s : PSt} {r : Tok × PSt} (h : PIn s) (ht : takeS k s = .ok r) : PIn r.2 ∧ r.1 = s.hd ∧ r.2.p = s.p ∧ r.1.text.length ≤ 10000 := by
 obtain ⟨h1,rfl⟩ := takeS_ok ht
 refine ⟨?_,rfl,?_,h.hdtxt⟩
 ·simp only
  split
  ·exact h
  ·exact h.drop (by omega)
 ·simp only
  split <;> rfl
theorem PIn.plan {s : PSt} (h : PIn s) {p : PPlan} (h1 : p.nodes = s.p.nodes) (h2 : p.links = s.p.links) (h3 : p.dests = s.p.dests) (h4 : p.checks = s.p.checks) : PIn ⟨p,s.ts⟩ :=
 ⟨h.fin,h.len,h.txt,by show p.nodes.length ≤ 12; rw [h1]; exact h.nn,by show p.links.length ≤ 16; rw [h2]; exact h.nl,by show p.dests.length ≤ 4; rw [h3]; exact h.nd,by show p.checks.length ≤ 16; rw [h4]; exact h.nc,
  fun x hx => h.names x (by unfold namesL at hx ⊢; rw [← h1,← h3]; exact hx),fun d hd => h.orig d (by rw [← h3]; exact hd)⟩
theorem PIn.node {s : PSt} (h : PIn s) {x : PNode} (hn : s.p.nodes.length < 12) (hx : x.name.length ≤ 10000) : PIn ⟨addNode s.p x,s.ts⟩ := by
 refine ⟨h.fin,h.len,h.txt,by simp only [addNode,List.length_append,List.length_singleton]; omega,h.nl,h.nd,h.nc,fun y hy => ?_,h.orig⟩
 unfold namesL addNode at hy
 simp only [List.map_append,List.map_cons,List.map_nil,List.mem_append,List.mem_singleton] at hy
 rcases hy with (hy | rfl) | hy
 ·exact h.names y (List.mem_append.2 (.inl hy))
 ·exact hx
 ·exact h.names y (List.mem_append.2 (.inr hy))
theorem PIn.link {s : PSt} (h : PIn s) {x : PLink} (hn : s.p.links.length < 16) : PIn ⟨addLink s.p x,s.ts⟩ :=
 ⟨h.fin,h.len,h.txt,h.nn,by simp only [addLink,List.length_append,List.length_singleton]; omega,h.nd,h.nc,h.names,h.orig⟩
theorem PIn.dest {s : PSt} (h : PIn s) {x : PDest} (hn : s.p.dests.length < 4) (hx : x.name.length ≤ 10000) (ho : x.origins.length ≤ 10001) : PIn ⟨addDest s.p x,s.ts⟩ := by
 refine ⟨h.fin,h.len,h.txt,h.nn,h.nl,by simp only [addDest,List.length_append,List.length_singleton]; omega,h.nc,fun y hy => ?_,fun d hd => ?_⟩
 ·unfold namesL addDest at hy
  simp only [List.map_append,List.map_cons,List.map_nil,List.mem_append,List.mem_singleton] at hy
  rcases hy with hy | hy | rfl
  ·exact h.names y (List.mem_append.2 (.inl hy))
  ·exact h.names y (List.mem_append.2 (.inr hy))
  ·exact hx
 ·simp only [addDest,List.mem_append,List.mem_singleton] at hd
  rcases hd with hd | rfl
  ·exact h.orig d hd
  ·exact ho
theorem PIn.check {s : PSt} (h : PIn s) {x : PCheck} (hn : s.p.checks.length < 16) : PIn ⟨addCheck s.p x,s.ts⟩ :=
 ⟨h.fin,h.len,h.txt,h.nn,h.nl,h.nd,by simp only [addCheck,List.length_append,List.length_singleton]; omega,h.names,h.orig⟩
end Go.Bk
