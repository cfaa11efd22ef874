/-
  PLAN, PLAIN: what the statements turn in a network makes it another one, or none. No program here.
-/
import Derived.Test.YtedojnihfnkmmaaDoorPlanNet
namespace Go.Bk
open Go

theorem not_right {p : PPlan} (h : RightP p → False) : rightB p = false := by
  cases e : rightB p with
  | false => rfl
  | true => exact (h (rightB_iff.1 e)).elim
theorem printB_none {p : PPlan} (h : rightB p = false) : printB p = ([], 1) := by
  unfold printB
  rw [if_neg (by rw [h]; simp)]
theorem mem_set_self {α : Type} {l : List α} {i : Nat} {x : α} (h : i < l.length) : x ∈ l.set i x := by
  rw [List.mem_iff_getElem]
  exact ⟨i, by rw [List.length_set]; exact h, by simp⟩
/-! ## PlanWrong -/
theorem wrong_name {p : PPlan} {i : Nat} (hi : i < p.nodes.length) (hd : 0 < p.dests.length) (a : Int) : rightB { p with nodes := p.nodes.set i ⟨(p.dests.getD 0 d0D).name, a⟩ } = false := by
  refine not_right fun h => ?_
  have hn := h.nnd
  unfold namesL at hn
  have h2 := (List.nodup_append.1 hn).2.2 (p.dests.getD 0 d0D).name (List.mem_map.2 ⟨_, mem_set_self hi, rfl⟩) (p.dests.getD 0 d0D).name (List.mem_map.2 ⟨_, getD_mem' d0D hd, rfl⟩)
  exact h2 rfl
theorem wrong_as {p : PPlan} {i : Nat} (hi : i < p.nodes.length) (nm : Bytes) {a : Int} (ha : a < 1 ∨ 65535 < a) : rightB { p with nodes := p.nodes.set i ⟨nm, a⟩ } = false := by
  refine not_right fun h => ?_
  have := h.asn _ (mem_set_self hi)
  simp only at this
  omega
theorem wrong_link {p : PPlan} {x : PLink} (hx : ¬ (x.a < x.b ∧ x.b < p.nodes.length)) : rightB { p with links := p.links ++ [x] } = false := by
  refine not_right fun h => ?_
  have := h.link x (by show x ∈ p.links ++ [x]; simp)
  exact hx ⟨this.2.1, this.2.2.1⟩
theorem wrong_twice (p : PPlan) : rightB { p with links := [⟨0, 1, 1⟩, ⟨0, 1, 2⟩] ++ p.links } = false := by
  refine not_right fun h => ?_
  have := h.lnd
  simp [linkKeys] at this
theorem wrong_k (p : PPlan) : rightB { p with k := ((p.links.length : Nat) : Int) + 1 } = false := by
  refine not_right fun h => ?_
  have := h.k2
  simp only at this
  omega
theorem wrong_cap (p : PPlan) : rightB { p with cap := 13 } = false := by
  refine not_right fun h => ?_
  have := h.cap_len
  simp only at this
  omega
theorem wrong_orig {p : PPlan} (nm : Bytes) (o : Int) : rightB { p with dests := p.dests ++ [⟨nm, [o, o]⟩] } = false := by
  refine not_right fun h => ?_
  have := (h.dest ⟨nm, [o, o]⟩ (by show _ ∈ p.dests ++ [_]; simp)).1 1 (by simp)
  have := this.2 (by omega)
  simp at this
theorem wrong_check {p : PPlan} {c : PCheck} (hc : checkN p.nodes.length p.dests.length c = false) : rightB { p with checks := p.checks ++ [c] } = false := by
  refine not_right fun h => ?_
  have := h.check c (by show c ∈ p.checks ++ [c]; simp)
  unfold checkB at this
  rw [hc] at this
  cases this
/-! ## PlanSame -/
theorem same_k (p : PPlan) : p ≠ { p with k := p.k + 1 } := fun e => by
  have := congrArg PPlan.k e
  simp only at this
  omega
theorem same_as {p : PPlan} (hn : 0 < p.nodes.length) : p ≠ { p with nodes := p.nodes.set 0 ⟨(p.nodes.getD 0 d0N).name, (p.nodes.getD 0 d0N).asn + 1⟩ } := fun e => by
  have h1 := congrArg (fun q : PPlan => (q.nodes.getD 0 d0N).asn) e
  simp only [List.getD_eq_getElem?_getD, List.getElem?_set_self hn, Option.getD_some] at h1
  omega
theorem same_links (p : PPlan) (x : PLink) : p ≠ { p with links := p.links ++ [x] } := fun e => by
  have := congrArg (fun q : PPlan => q.links.length) e
  simp at this
theorem same_checks (p : PPlan) (x : PCheck) : p ≠ { p with checks := p.checks ++ [x] } := fun e => by
  have := congrArg (fun q : PPlan => q.checks.length) e
  simp at this
theorem same_orig {p : PPlan} (hR : RightP p) (hn : p.nodes.length ≤ 7) (hd : 0 < p.dests.length) : p ≠ { p with dests := p.dests.set 0 ⟨(p.dests.getD 0 d0D).name, [((p.dests.getD 0 d0D).origins.length : Int) + 5, 1]⟩ } := fun e => by
  have h1 := congrArg (fun q : PPlan => (q.dests.getD 0 d0D).origins) e
  have h2 : (p.dests.set 0 ⟨(p.dests.getD 0 d0D).name, [((p.dests.getD 0 d0D).origins.length : Int) + 5, 1]⟩).getD 0 d0D = ⟨(p.dests.getD 0 d0D).name, [((p.dests.getD 0 d0D).origins.length : Int) + 5, 1]⟩ := by
    rw [List.getD_eq_getElem?_getD, List.getElem?_set_self hd]; rfl
  simp only [h2] at h1
  have h3 := congrArg List.length h1
  simp only [List.length_cons, List.length_nil] at h3
  have h4 := (hR.dest _ (getD_mem' d0D hd)).1 0 (by omega)
  rw [h1] at h4
  have := placeB_iff.1 h4.1
  simp only [List.getD_cons_zero] at this
  omega
/-! ## PlanTurned -/
def swapL {α : Type} (d : α) (l : List α) (i : Nat) : List α := (l.set i (l.getD (i + 1) d)).set (i + 1) (l.getD i d)
theorem swapL_at {α : Type} (d : α) {l : List α} {i : Nat} (h : i + 1 < l.length) : ∃ a b x y, l = a ++ [x, y] ++ b ∧ a.length = i ∧ l.getD i d = x ∧ l.getD (i + 1) d = y ∧ swapL d l i = a ++ [y, x] ++ b := by
  have hx : l.getD i d = l[i] := by rw [List.getD_eq_getElem?_getD, List.getElem?_eq_getElem (by omega)]; rfl
  have hy : l.getD (i + 1) d = l[i + 1] := by rw [List.getD_eq_getElem?_getD, List.getElem?_eq_getElem h]; rfl
  refine ⟨l.take i, l.drop (i + 2), l[i], l[i + 1], ?_, by rw [List.length_take]; omega, hx, hy, ?_⟩
  · apply List.ext_getElem?
    intro k
    simp only [List.append_assoc, List.getElem?_append, List.length_take, List.getElem?_take, List.getElem?_drop, List.length_cons, List.length_nil]
    by_cases h1 : k < i
    · rw [if_pos (by omega), if_pos h1]
    · rw [if_neg (by omega)]
      by_cases h2 : k = i
      · subst h2
        rw [if_pos (by omega), Nat.min_eq_left (by omega), Nat.sub_self, List.getElem?_eq_getElem (by omega : k < l.length)]; rfl
      · by_cases h3 : k = i + 1
        · subst h3
          rw [if_pos (by omega), Nat.min_eq_left (by omega), show i + 1 - i = 1 by omega, List.getElem?_eq_getElem h]; rfl
        · rw [if_neg (by omega), Nat.min_eq_left (by omega), show i + 2 + (k - i - (0 + 1 + 1)) = k by omega]
  · unfold swapL
    rw [hx, hy]
    apply List.ext_getElem?
    intro k
    rw [List.getElem?_set, List.getElem?_set]
    simp only [List.append_assoc, List.getElem?_append, List.length_take, List.getElem?_take, List.getElem?_drop, List.length_cons, List.length_nil, List.length_set]
    by_cases h1 : k < i
    · rw [if_neg (by omega), if_neg (by omega), if_pos (by omega), if_pos h1]
    · by_cases h2 : k = i
      · subst h2
        rw [if_neg (by omega), if_pos rfl, if_pos (by omega), if_neg (by omega), if_pos (by omega), Nat.min_eq_left (by omega), Nat.sub_self]; rfl
      · by_cases h3 : k = i + 1
        · subst h3
          rw [if_pos rfl, if_pos h, if_neg (by omega), if_pos (by omega), Nat.min_eq_left (by omega), show i + 1 - i = 1 by omega]; rfl
        · rw [if_neg (by omega), if_neg (by omega), if_neg (by omega), if_neg (by omega), Nat.min_eq_left (by omega), show i + 2 + (k - i - (0 + 1 + 1)) = k by omega]
theorem swapL_perm {α : Type} (d : α) {l : List α} {i : Nat} (h : i + 1 < l.length) : (swapL d l i).Perm l := by
  obtain ⟨a, b, x, y, e1, _, _, _, e2⟩ := swapL_at d h
  rw [e2, e1]
  exact ((List.Perm.swap x y []).append_left a).append_right b
theorem swapL_eq {α : Type} (d : α) {l : List α} {i : Nat} (h : i + 1 < l.length) : swapL d l i = l ↔ l.getD i d = l.getD (i + 1) d := by
  obtain ⟨a, b, x, y, e1, _, e3, e4, e2⟩ := swapL_at d h
  rw [e3, e4, e2]
  constructor
  · intro e
    rw [e1] at e
    have e5 := List.append_cancel_right e
    have e6 := List.append_cancel_left e5
    simp only [List.cons.injEq, and_true] at e6
    exact e6.2
  · rintro rfl
    exact e1.symm
theorem swapL_len {α : Type} (d : α) (l : List α) (i : Nat) : (swapL d l i).length = l.length := by simp [swapL]
theorem turned_links {p : PPlan} (hR : RightP p) {i : Nat} (h : i + 1 < p.links.length) : RightP { p with links := swapL d0L p.links i } ∧ p ≠ { p with links := swapL d0L p.links i } := by
  have hp := swapL_perm d0L h
  have hl := swapL_len d0L p.links i
  refine ⟨⟨hR.routing, hR.k0, hR.k1, by show p.k ≤ ((swapL d0L p.links i).length : Int); rw [hl]; exact hR.k2, hR.n0, hR.n1, hR.asn, fun x hx => hR.link x (hp.mem_iff.1 hx), by show (swapL d0L p.links i).length ≤ 16; rw [hl]; exact hR.l1, ?_, hR.d1, hR.c1, hR.names, hR.nnd, hR.dest, hR.check⟩, fun e => ?_⟩
  · show (linkKeys (swapL d0L p.links i)).Nodup
    unfold linkKeys
    exact ((hp.map _).nodup_iff).2 hR.lnd
  · have e2 := (swapL_eq d0L h).1 (congrArg PPlan.links e).symm
    have hn := hR.lnd
    unfold linkKeys at hn
    have := (List.getElem_inj (i := i) (j := i + 1) (h₀ := by simp; omega) (h₁ := by simp; omega) hn).1 (by
      rw [List.getElem_map, List.getElem_map]
      rw [List.getD_eq_getElem?_getD, List.getD_eq_getElem?_getD, List.getElem?_eq_getElem (by omega : i < p.links.length), List.getElem?_eq_getElem h] at e2
      rw [show p.links[i] = p.links[i + 1] from e2])
    omega
theorem turned_dests {p : PPlan} (hR : RightP p) (h : 1 < p.dests.length) : RightP { p with dests := swapL d0D p.dests 0 } ∧ p ≠ { p with dests := swapL d0D p.dests 0 } := by
  have hp := swapL_perm d0D (l := p.dests) (i := 0) h
  have hl := swapL_len d0D p.dests 0
  have hnm : (namesL { p with dests := swapL d0D p.dests 0 }).Perm (namesL p) := by
    unfold namesL
    exact (hp.map _).append_left _
  refine ⟨⟨hR.routing, hR.k0, hR.k1, hR.k2, hR.n0, hR.n1, hR.asn, hR.link, hR.l1, hR.lnd, by show (swapL d0D p.dests 0).length ≤ 4; rw [hl]; exact hR.d1, hR.c1, fun x hx => hR.names x (hnm.mem_iff.1 hx), hnm.nodup_iff.2 hR.nnd, fun d hd => hR.dest d (hp.mem_iff.1 hd), fun c hc => ?_⟩, fun e => ?_⟩
  · have := hR.check c hc
    unfold checkB at this ⊢
    show checkN p.nodes.length (swapL d0D p.dests 0).length c = true
    rw [hl]; exact this
  · have e2 := (swapL_eq d0D (l := p.dests) (i := 0) h).1 (congrArg PPlan.dests e).symm
    have hn := hR.nnd
    unfold namesL at hn
    have hn2 := (List.nodup_append.1 hn).2.1
    have := (List.getElem_inj (i := 0) (j := 1) (h₀ := by simp; omega) (h₁ := by simp; omega) hn2).1 (by
      rw [List.getElem_map, List.getElem_map]
      rw [List.getD_eq_getElem?_getD, List.getD_eq_getElem?_getD, List.getElem?_eq_getElem (by omega : 0 < p.dests.length), List.getElem?_eq_getElem h] at e2
      rw [show p.dests[0] = p.dests[1] from e2])
    omega
theorem turned_checks {p : PPlan} (hR : RightP p) {i : Nat} (h : i + 1 < p.checks.length) : RightP { p with checks := swapL d0C p.checks i } ∧ (p = { p with checks := swapL d0C p.checks i } ↔ p.checks.getD i d0C = p.checks.getD (i + 1) d0C) := by
  have hp := swapL_perm d0C h
  have hl := swapL_len d0C p.checks i
  refine ⟨⟨hR.routing, hR.k0, hR.k1, hR.k2, hR.n0, hR.n1, hR.asn, hR.link, hR.l1, hR.lnd, hR.d1, by show (swapL d0C p.checks i).length ≤ 16; rw [hl]; exact hR.c1, hR.names, hR.nnd, hR.dest, fun c hc => hR.check c (hp.mem_iff.1 hc)⟩, ?_⟩
  rw [← swapL_eq d0C h]
  constructor
  · intro e; exact (congrArg PPlan.checks e).symm
  · intro e; rw [e]
end Go.Bk
