/-
  PARSE, PLAIN: what the parser's methods compute, on lists of tokens; each takes a token at least; what stays within bounds. No program here.
-/
import Derived.Test.YtjhgghpeapmgdaaGreatDoorPlanSpec
namespace Go.Bk
open Go

/-- What comes out, or the error and its place. -/
abbrev PE (α : Type) := Except (Int × Int) α
/-- A network that grows, and the tokens that are left. -/
structure PSt where
  p : PPlan
  ts : List Tok
def d0T : Tok := ⟨0, [], 0, 0⟩
def PSt.hd (s : PSt) : Tok := s.ts.getD 0 d0T
def takeS (k : Int) (s : PSt) : PE (Tok × PSt) := if s.hd.kind = k then .ok (s.hd, if k = 4 then s else ⟨s.p, s.ts.drop 1⟩) else .error (40, s.hd.at')
def addNode (p : PPlan) (x : PNode) : PPlan := { p with nodes := p.nodes ++ [x] }
def addLink (p : PPlan) (x : PLink) : PPlan := { p with links := p.links ++ [x] }
def addDest (p : PPlan) (x : PDest) : PPlan := { p with dests := p.dests ++ [x] }
def addCheck (p : PPlan) (x : PCheck) : PPlan := { p with checks := p.checks ++ [x] }
/-! ## Loops -/
/-! ## A token is taken -/
theorem takeS_ok {k : Int} {s : PSt} {r : Tok × PSt} (h : takeS k s = .ok r) : s.hd.kind = k ∧ r = (s.hd, if k = 4 then s else ⟨s.p, s.ts.drop 1⟩) := by
  unfold takeS at h
  split at h
  · exact ⟨by assumption, (Except.ok.inj h).symm⟩
  · cases h
/-! ## What does not change -/
/-! ## What stays within bounds -/
structure PIn (s : PSt) : Prop where
  fin : ∃ t ∈ s.ts, t.kind = 4
  len : s.ts.length ≤ 10001
  txt : ∀ t ∈ s.ts, t.text.length ≤ 10000
  nn : s.p.nodes.length ≤ 12
  nl : s.p.links.length ≤ 16
  nd : s.p.dests.length ≤ 4
  nc : s.p.checks.length ≤ 16
  names : ∀ x ∈ namesL s.p, x.length ≤ 10000
  orig : ∀ d ∈ s.p.dests, d.origins.length ≤ 10001
theorem PIn.pos {s : PSt} (h : PIn s) : 0 < s.ts.length := by
  obtain ⟨t, h, _⟩ := h.fin
  exact List.length_pos_of_mem h
theorem hd_mem {s : PSt} (h : 0 < s.ts.length) : s.hd ∈ s.ts := by
  unfold PSt.hd
  rw [List.getD_eq_getElem?_getD, List.getElem?_eq_getElem h]
  exact List.getElem_mem h
theorem PIn.hdtxt {s : PSt} (h : PIn s) : s.hd.text.length ≤ 10000 := h.txt _ (hd_mem h.pos)
theorem PIn.drop {s : PSt} (h : PIn s) (hk : s.hd.kind ≠ 4) : PIn ⟨s.p, s.ts.drop 1⟩ := by
  refine ⟨?_, by have := h.len; simp only [List.length_drop]; omega, fun t ht => h.txt t (List.mem_of_mem_drop ht), h.nn, h.nl, h.nd, h.nc, h.names, h.orig⟩
  obtain ⟨t, ht, h4⟩ := h.fin
  refine ⟨t, ?_, h4⟩
  unfold PSt.hd at hk
  cases hs : s.ts with
  | nil => rw [hs] at ht; cases ht
  | cons x r =>
    rw [hs] at ht hk
    rcases List.mem_cons.1 ht with rfl | ht
    · exact absurd h4 hk
    · exact ht
theorem PIn.take {k : Int} {s : PSt} {r : Tok × PSt} (h : PIn s) (ht : takeS k s = .ok r) : PIn r.2 ∧ r.1 = s.hd ∧ r.2.p = s.p ∧ r.1.text.length ≤ 10000 := by
  obtain ⟨h1, rfl⟩ := takeS_ok ht
  refine ⟨?_, rfl, ?_, h.hdtxt⟩
  · simp only
    split
    · exact h
    · exact h.drop (by omega)
  · simp only
    split <;> rfl
theorem PIn.plan {s : PSt} (h : PIn s) {p : PPlan} (h1 : p.nodes = s.p.nodes) (h2 : p.links = s.p.links) (h3 : p.dests = s.p.dests) (h4 : p.checks = s.p.checks) : PIn ⟨p, s.ts⟩ :=
  ⟨h.fin, h.len, h.txt, by show p.nodes.length ≤ 12; rw [h1]; exact h.nn, by show p.links.length ≤ 16; rw [h2]; exact h.nl, by show p.dests.length ≤ 4; rw [h3]; exact h.nd, by show p.checks.length ≤ 16; rw [h4]; exact h.nc,
    fun x hx => h.names x (by unfold namesL at hx ⊢; rw [← h1, ← h3]; exact hx), fun d hd => h.orig d (by rw [← h3]; exact hd)⟩
theorem PIn.node {s : PSt} (h : PIn s) {x : PNode} (hn : s.p.nodes.length < 12) (hx : x.name.length ≤ 10000) : PIn ⟨addNode s.p x, s.ts⟩ := by
  refine ⟨h.fin, h.len, h.txt, by simp only [addNode, List.length_append, List.length_singleton]; omega, h.nl, h.nd, h.nc, fun y hy => ?_, h.orig⟩
  unfold namesL addNode at hy
  simp only [List.map_append, List.map_cons, List.map_nil, List.mem_append, List.mem_singleton] at hy
  rcases hy with (hy | rfl) | hy
  · exact h.names y (List.mem_append.2 (.inl hy))
  · exact hx
  · exact h.names y (List.mem_append.2 (.inr hy))
theorem PIn.link {s : PSt} (h : PIn s) {x : PLink} (hn : s.p.links.length < 16) : PIn ⟨addLink s.p x, s.ts⟩ :=
  ⟨h.fin, h.len, h.txt, h.nn, by simp only [addLink, List.length_append, List.length_singleton]; omega, h.nd, h.nc, h.names, h.orig⟩
theorem PIn.dest {s : PSt} (h : PIn s) {x : PDest} (hn : s.p.dests.length < 4) (hx : x.name.length ≤ 10000) (ho : x.origins.length ≤ 10001) : PIn ⟨addDest s.p x, s.ts⟩ := by
  refine ⟨h.fin, h.len, h.txt, h.nn, h.nl, by simp only [addDest, List.length_append, List.length_singleton]; omega, h.nc, fun y hy => ?_, fun d hd => ?_⟩
  · unfold namesL addDest at hy
    simp only [List.map_append, List.map_cons, List.map_nil, List.mem_append, List.mem_singleton] at hy
    rcases hy with hy | hy | rfl
    · exact h.names y (List.mem_append.2 (.inl hy))
    · exact h.names y (List.mem_append.2 (.inr hy))
    · exact hx
  · simp only [addDest, List.mem_append, List.mem_singleton] at hd
    rcases hd with hd | rfl
    · exact h.orig d hd
    · exact ho
theorem PIn.check {s : PSt} (h : PIn s) {x : PCheck} (hn : s.p.checks.length < 16) : PIn ⟨addCheck s.p x, s.ts⟩ :=
  ⟨h.fin, h.len, h.txt, h.nn, h.nl, h.nd, by simp only [addCheck, List.length_append, List.length_singleton]; omega, h.names, h.orig⟩
end Go.Bk
