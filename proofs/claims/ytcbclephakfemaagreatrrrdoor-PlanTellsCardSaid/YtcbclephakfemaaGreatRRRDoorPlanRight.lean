/-
  PLAN, PLAIN: what a right network is, field by field; how long its lines are. No program here.
-/
import Derived.Test.YtcbclephakfemaaGreatRRRDoorPlanSpec
namespace Go.Bk
open Go

theorem withinB_iff {n l m : Int} : withinB n l m = true ↔ l ≤ n ∧ n ≤ m := by simp [withinB]
theorem placeB_iff {k m : Int} : placeB k m = true ↔ 0 ≤ k ∧ k < m := by simp [placeB]
structure RightP (p : PPlan) : Prop where
 routing : routingB p = true
 k0 : 0 ≤ p.k
 k1 : p.k ≤ 4
 k2 : p.k ≤ p.links.length
 n0 : 1 ≤ p.nodes.length
 n1 : p.nodes.length ≤ 12
 asn : ∀ x ∈ p.nodes,1 ≤ x.asn ∧ x.asn ≤ 65535
 link : ∀ x ∈ p.links,0 ≤ x.a ∧ x.a < x.b ∧ x.b < p.nodes.length ∧ 1 ≤ x.cost ∧ x.cost ≤ 15
 l1 : p.links.length ≤ 16
 lnd : (linkKeys p.links).Nodup
 d1 : p.dests.length ≤ 4
 c1 : p.checks.length ≤ 16
 names : ∀ x ∈ namesL p,nameB x = true
 nnd : (namesL p).Nodup
 dest : ∀ d ∈ p.dests,OrigOk d.origins p.nodes.length d.origins.length ∧ 0 < d.origins.length
 check : ∀ c ∈ p.checks,checkB p c = true
theorem rightB_iff {p : PPlan} : rightB p = true ↔ RightP p := by
 unfold rightB nodesB linksB namedB
 simp only [Bool.and_eq_true,List.all_eq_true,decide_eq_true_eq,withinB_iff]
 constructor
 ·rintro ⟨⟨⟨⟨⟨⟨⟨⟨h1,h2,h3⟩,⟨h4,h5⟩,h6⟩,h7,h8,h9⟩,h10⟩,h11⟩,h12,h13⟩,h14⟩,h15⟩
  refine ⟨h1,h2,by omega,by omega,by omega,by omega,fun x hx => ?_,fun x hx => ?_,by omega,h9,by omega,by omega,h12,h13,fun d hd => ?_,h15⟩
  ·have := h6 x hx
   simpa [asB,withinB_iff] using this
  ·have := h7 x hx
   simp only [linkB,Bool.and_eq_true,placeB_iff,withinB_iff] at this
   omega
  ·have := h14 d hd
   simpa [destB] using this
 ·intro h
  refine ⟨⟨⟨⟨⟨⟨⟨⟨h.routing,h.k0,?_⟩,⟨?_,?_⟩,fun x hx => ?_⟩,fun x hx => ?_,by have := h.l1; omega,h.lnd⟩,by have := h.d1; omega⟩,by have := h.c1; omega⟩,h.names,h.nnd⟩,fun d hd => ?_⟩,h.check⟩
  ·have := h.k1; have := h.k2; omega
  ·have := h.n0; omega
  ·have := h.n1; omega
  ·simpa [asB,withinB_iff] using h.asn x hx
  ·simp only [linkB,Bool.and_eq_true,placeB_iff,withinB_iff]
   have := h.link x hx
   omega
  ·simpa [destB] using h.dest d hd
theorem checkR_iff {n d : Int} {c : PCheck} {l o : Int} : checkR n d c l o = true ↔ (0 ≤ c.node ∧ c.node < n) ∧ (0 ≤ c.dest ∧ c.dest < d) ∧ (0 ≤ c.limit ∧ c.limit ≤ l) ∧ (0 ≤ c.other ∧ c.other < o) := by
 simp [checkR,placeB_iff,withinB_iff,and_assoc]
theorem checkN_bounds {n d : Int} {c : PCheck} (_hn : 1 ≤ n) (h : checkN n d c = true) : (0 ≤ c.node ∧ c.node < n) ∧ (0 ≤ c.dest ∧ c.dest < d) ∧ (0 ≤ c.limit ∧ c.limit ≤ 65535) ∧ (0 ≤ c.other ∧ c.other < n) ∧ 1 ≤ c.kind ∧ c.kind ≤ 4 := by
 unfold checkN at h
 split at h
 ·have := checkR_iff.1 h; omega
 ·split at h
  ·have := checkR_iff.1 h; omega
  ·split at h
   ·have := checkR_iff.1 h; omega
   ·cases h
theorem nameB_len {l : Bytes} (h : nameB l = true) : l.length ≤ 12 := (nameB_iff.1 h).2.1
theorem flat_len_le {α : Type} {f : α → Bytes} {m : Nat} : ∀ (l : List α),(∀ x ∈ l,(f x).length ≤ m) → (l.flatMap f).length ≤ l.length * m
 | [],_ => by simp
 | x :: r,h => by
  have h1 := h x (by simp)
  have h2 := flat_len_le r fun y hy => h y (by simp [hy])
  rw [List.flatMap_cons,List.length_append,List.length_cons,Nat.add_mul]
  omega
theorem joinW_len {m : Nat} : ∀ (ws : List Bytes),(∀ x ∈ ws,x.length ≤ m) → (joinW ws).length ≤ ws.length * (m + 1)
 | [],_ => by simp [joinW]
 | [w],h => by
  have := h w (by simp)
  simp only [joinW,List.length_cons,List.length_nil]
  omega
 | w :: v :: r,h => by
  have h1 := h w (by simp)
  have h2 := joinW_len (v :: r) fun y hy => h y (by simp [hy])
  simp only [joinW,List.length_append,List.length_cons] at h2 ⊢
  rw [Nat.add_mul (r.length + 1) 1]
  omega
theorem itoa_nat {n : Int} (h : 0 ≤ n) : Lib.itoa n = Lib.decDigits n.toNat := by unfold Lib.itoa; rw [if_neg (by omega)]
theorem itoa_len {n : Int} (h0 : 0 ≤ n) (h : n ≤ 65535) : (Lib.itoa n).length ≤ 12 := by
 rw [itoa_nat h0,Lib.decDigits_length]
 have := nDigits_le 4 n.toNat (by omega)
 omega
theorem lineW_len {ws : List Bytes} {k : Nat} (hk : ws.length ≤ k) (h : ∀ x ∈ ws,x.length ≤ 12) : (lineW ws).length ≤ k * 13 + 2 := by
 have := joinW_len ws h
 have h2 : ws.length * 13 ≤ k * 13 := Nat.mul_le_mul_right 13 hk
 simp only [lineW,List.length_append,List.length_cons,List.length_nil]
 omega
theorem rising_len {l : List Int} {m : Int} {k : Nat} (h : OrigOk l m k) : ∀ i,i < k → (i : Int) ≤ l.getD i 0
 | 0,hi => by have := (placeB_iff.1 (h 0 hi).1); omega
 | i + 1,hi => by
  have h1 := rising_len h i (by omega)
  have h2 := (h (i + 1) hi).2 (by omega)
  rw [show i + 1 - 1 = i by omega] at h2
  omega
theorem orig_count {l : List Int} {n : Nat} (h : OrigOk l n l.length) : l.length ≤ n := by
 rcases Nat.eq_zero_or_pos l.length with h0 | h0
 ·omega
 ·have h1 := rising_len h (l.length - 1) (by omega)
  have h2 := placeB_iff.1 (h (l.length - 1) (by omega)).1
  omega
namespace RightP
variable {p : PPlan} (h : RightP p)
include h
theorem nameN {x : PNode} (hx : x ∈ p.nodes) : x.name.length ≤ 12 := nameB_len (h.names _ (by unfold namesL; exact List.mem_append_left _ (List.mem_map_of_mem hx)))
theorem nameD {x : PDest} (hx : x ∈ p.dests) : x.name.length ≤ 12 := nameB_len (h.names _ (by unfold namesL; exact List.mem_append_right _ (List.mem_map_of_mem hx)))
theorem nmN_len (i : Int) : (nmN p i).length ≤ 12 := by
 unfold nmN
 rw [List.getD_eq_getElem?_getD]
 cases hx : p.nodes[i.toNat]? with
 | none => exact Nat.zero_le _
 | some x => exact h.nameN (List.mem_of_getElem? hx)
theorem nmD_len (i : Int) : (nmD p i).length ≤ 12 := by
 unfold nmD
 rw [List.getD_eq_getElem?_getD]
 cases hx : p.dests[i.toNat]? with
 | none => exact Nat.zero_le _
 | some x => exact h.nameD (List.mem_of_getElem? hx)
theorem nodeL_len {x : PNode} (hx : x ∈ p.nodes) : (nodeL x).length ≤ 300 := by
 have h1 := h.nameN hx
 have h2 := h.asn x hx
 have h3 := itoa_len (n := x.asn) (by omega) (by omega)
 refine Nat.le_trans (lineW_len (k := 3) (by simp) (by simp [wdNode]; omega)) (by omega)
theorem linkL_len {x : PLink} (hx : x ∈ p.links) : (linkL p x).length ≤ 300 := by
 have h2 := h.link x hx
 have h3 := itoa_len (n := x.cost) (by omega) (by omega)
 have h4 := h.nmN_len x.a
 have h5 := h.nmN_len x.b
 refine Nat.le_trans (lineW_len (k := 4) (by simp) (by simp [wdLink]; omega)) (by omega)
theorem destL_len {x : PDest} (hx : x ∈ p.dests) : (destL p x).length ≤ 300 := by
 have h1 := h.nameD hx
 have h2 := orig_count (h.dest x hx).1
 have h3 := h.n1
 refine Nat.le_trans (lineW_len (k := 15) (by simp; omega) ?_) (by omega)
 intro y hy
 simp only [List.mem_append,List.mem_cons,List.not_mem_nil,or_false,List.mem_map] at hy
 rcases hy with (rfl | rfl | rfl) | ⟨i,_,rfl⟩
 ·decide
 ·exact h1
 ·decide
 ·exact h.nmN_len i
theorem checkL_len {c : PCheck} (hc : c ∈ p.checks) : (checkL p c).length ≤ 300 := by
 have h0 := checkN_bounds (by have := h.n0; omega) (h.check c hc)
 have h1 := h.nmN_len c.node
 have h2 := h.nmD_len c.dest
 have h3 := h.nmN_len c.other
 have h4 := itoa_len (n := c.limit) (by omega) (by omega)
 unfold checkL
 split
 ·refine Nat.le_trans (lineW_len (k := 4) (by simp) (by simp [wdCheck,wdReach]; omega)) (by omega)
 ·split
  ·refine Nat.le_trans (lineW_len (k := 5) (by simp) (by simp [wdCheck,wdWithin]; omega)) (by omega)
  ·split
   ·refine Nat.le_trans (lineW_len (k := 5) (by simp) (by simp [wdCheck,wdWaypoint]; omega)) (by omega)
   ·split
    ·refine Nat.le_trans (lineW_len (k := 5) (by simp) (by simp [wdCheck,wdEqual]; omega)) (by omega)
    ·simp
theorem cap_len : 0 ≤ p.cap ∧ p.cap ≤ 12 := by
 have := h.routing
 unfold routingB at this
 split at this
 ·have := of_decide_eq_true this; omega
 ·split at this
  ·have := withinB_iff.1 this; omega
  ·cases this
theorem protoL_len : (protoL p).length ≤ 300 := by
 have h0 := h.cap_len
 have h4 := itoa_len (n := p.cap) (by omega) (by omega)
 unfold protoL
 split
 ·refine Nat.le_trans (lineW_len (k := 3) (by simp) (by simp [wdProtocol,wdPath]; omega)) (by omega)
 ·refine Nat.le_trans (lineW_len (k := 3) (by simp) (by simp [wdProtocol,wdVector])) (by omega)
theorem failL_len : (lineW [wdFailures,Lib.itoa p.k]).length ≤ 300 := by
 have := h.k0; have := h.k1
 have h4 := itoa_len (n := p.k) (by omega) (by omega)
 refine Nat.le_trans (lineW_len (k := 3) (by simp) (by simp [wdFailures]; omega)) (by omega)
theorem flatN_len (k : Nat) : ((p.nodes.take k).flatMap nodeL).length ≤ 3600 := by
 have h1 := flat_len_le (f := nodeL) (m := 300) (p.nodes.take k) fun x hx => h.nodeL_len (List.mem_of_mem_take hx)
 have := h.n1
 rw [List.length_take] at h1
 omega
theorem flatL_len (k : Nat) : ((p.links.take k).flatMap (linkL p)).length ≤ 4800 := by
 have h1 := flat_len_le (f := linkL p) (m := 300) (p.links.take k) fun x hx => h.linkL_len (List.mem_of_mem_take hx)
 have := h.l1
 rw [List.length_take] at h1
 omega
theorem flatD_len (k : Nat) : ((p.dests.take k).flatMap (destL p)).length ≤ 1200 := by
 have h1 := flat_len_le (f := destL p) (m := 300) (p.dests.take k) fun x hx => h.destL_len (List.mem_of_mem_take hx)
 have := h.d1
 rw [List.length_take] at h1
 omega
theorem flatC_len (k : Nat) : ((p.checks.take k).flatMap (checkL p)).length ≤ 4800 := by
 have h1 := flat_len_le (f := checkL p) (m := 300) (p.checks.take k) fun x hx => h.checkL_len (List.mem_of_mem_take hx)
 have := h.c1
 rw [List.length_take] at h1
 omega
end RightP
end Go.Bk
