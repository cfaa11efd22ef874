/-
  PLAN, PLAIN: of right networks unlike ones have unlike texts. No program here.
-/
import Derived.Test.YtjhgghpeapmgdaaGreatDoorMg3
namespace Go.Bk
open Go

def Clean (w : Bytes) : Prop := ∀ c ∈ w,c ≠ 32 ∧ c ≠ 59
def LineOk (ws : List Bytes) : Prop := ws ≠ [] ∧ ∀ w ∈ ws,Clean w
def protoW (p : PPlan) : List Bytes := if p.proto = 2 then [wdProtocol,wdPath,Lib.itoa p.cap] else [wdProtocol,wdVector]
def nodeW (x : PNode) : List Bytes := [wdNode,x.name,Lib.itoa x.asn]
def linkW (p : PPlan) (x : PLink) : List Bytes := [wdLink,nmN p x.a,nmN p x.b,Lib.itoa x.cost]
def destW (p : PPlan) (d : PDest) : List Bytes := [wdDest,d.name,wdAt] ++ d.origins.map (nmN p)
def checkW (p : PPlan) (c : PCheck) : List Bytes :=
 if c.kind = 1 then [wdCheck,wdReach,nmN p c.node,nmD p c.dest]
 else if c.kind = 2 then [wdCheck,wdWithin,nmN p c.node,nmD p c.dest,Lib.itoa c.limit]
 else if c.kind = 3 then [wdCheck,wdWaypoint,nmN p c.node,nmD p c.dest,nmN p c.other]
 else [wdCheck,wdEqual,nmN p c.node,nmN p c.other,nmD p c.dest]
def linesW (p : PPlan) : List (List Bytes) := protoW p :: [wdFailures,Lib.itoa p.k] :: (p.nodes.map nodeW ++ (p.links.map (linkW p) ++ (p.dests.map (destW p) ++ p.checks.map (checkW p))))
theorem flatMap_congr' {α : Type} {f g : α → Bytes} {l : List α} (h : ∀ x ∈ l,f x = g x) : l.flatMap f = l.flatMap g := by
 induction l with
 | nil => rfl
 | cons x r ih => rw [List.flatMap_cons,List.flatMap_cons,h x (by simp),ih fun y hy => h y (by simp [hy])]
theorem printT_lines {p : PPlan} (hR : RightP p) : printT p = (linesW p).flatMap lineW := by
 unfold printT linesW
 rw [List.flatMap_cons,List.flatMap_cons,List.flatMap_append,List.flatMap_append,List.flatMap_append,List.flatMap_map,List.flatMap_map,List.flatMap_map,List.flatMap_map]
 have e1 : protoL p = lineW (protoW p) := by unfold protoL protoW; split <;> rfl
 have e2 : p.checks.flatMap (checkL p) = p.checks.flatMap fun c => lineW (checkW p c) := by
  refine flatMap_congr' fun c hc => ?_
  have h0 := checkN_bounds (n := p.nodes.length) (d := p.dests.length) (by have := hR.n0; omega) (hR.check c hc)
  unfold checkL checkW
  by_cases h1 : c.kind = 1
  ·rw [if_pos h1,if_pos h1]
  ·by_cases h2 : c.kind = 2
   ·rw [if_neg h1,if_neg h1,if_pos h2,if_pos h2]
   ·by_cases h3 : c.kind = 3
    ·rw [if_neg h1,if_neg h1,if_neg h2,if_neg h2,if_pos h3,if_pos h3]
    ·rw [if_neg h1,if_neg h1,if_neg h2,if_neg h2,if_neg h3,if_neg h3,if_pos (by omega)]
 rw [e1,e2]
 simp only [List.append_assoc]
 rfl
theorem clean_part {w : Bytes} (h : ∀ c ∈ w,partB c = true) : Clean w := by
 intro c hc
 have := h c hc
 constructor
 ·rintro rfl; revert this; decide
 ·rintro rfl; revert this; decide
theorem name_clean {l : Bytes} (h : nameB l = true) : Clean l := by
 refine clean_part ?_
 have h1 := (nameB_iff.1 h).2.2.2.1
 refine all_of_getD fun j hj => ?_
 apply Classical.byContradiction
 intro hn
 have := runLen_lt hj (by simpa using hn)
 omega
theorem itoa_clean {n : Int} (h : 0 ≤ n) : Clean (Lib.itoa n) := by
 rw [itoa_nat h]
 intro c hc
 have := digitB_iff.1 (decDigits_digit _ c hc)
 constructor
 ·rintro rfl; simp at this
 ·rintro rfl; simp at this
theorem kw_clean : ∀ w ∈ [wdProtocol,wdPath,wdVector,wdFailures,wdNode,wdLink,wdDest,wdAt,wdCheck,wdReach,wdWithin,wdWaypoint,wdEqual],Clean w := by
 have : ([wdProtocol,wdPath,wdVector,wdFailures,wdNode,wdLink,wdDest,wdAt,wdCheck,wdReach,wdWithin,wdWaypoint,wdEqual].all fun w => w.all fun c => decide (c ≠ 32) && decide (c ≠ 59)) = true := by decide +kernel
 intro w hw c hc
 have := List.all_eq_true.1 (List.all_eq_true.1 this w hw) c hc
 simpa using this
theorem nil_clean : Clean [] := fun c hc => by cases hc
namespace RightP
variable {p : PPlan} (hR : RightP p)
include hR
theorem cleanN (i : Int) : Clean (nmN p i) := by
 unfold nmN
 rw [List.getD_eq_getElem?_getD]
 cases hx : p.nodes[i.toNat]? with
 | none => exact nil_clean
 | some x => exact name_clean (hR.names _ (by unfold namesL; exact List.mem_append_left _ (List.mem_map_of_mem (List.mem_of_getElem? hx))))
theorem cleanD (i : Int) : Clean (nmD p i) := by
 unfold nmD
 rw [List.getD_eq_getElem?_getD]
 cases hx : p.dests[i.toNat]? with
 | none => exact nil_clean
 | some x => exact name_clean (hR.names _ (by unfold namesL; exact List.mem_append_right _ (List.mem_map_of_mem (List.mem_of_getElem? hx))))
theorem lines_ok : ∀ l ∈ linesW p,LineOk l := by
 have K := kw_clean
 intro l hl
 unfold linesW at hl
 simp only [List.mem_cons,List.mem_append,List.mem_map] at hl
 rcases hl with rfl | rfl | ⟨x,hx,rfl⟩ | ⟨x,hx,rfl⟩ | ⟨x,hx,rfl⟩ | ⟨x,hx,rfl⟩
 ·have hc := hR.cap_len
  unfold protoW
  split
  ·refine ⟨by simp,fun w hw => ?_⟩
   simp only [List.mem_cons,List.not_mem_nil,or_false] at hw
   rcases hw with rfl | rfl | rfl
   ·exact K _ (by simp)
   ·exact K _ (by simp)
   ·exact itoa_clean hc.1
  ·refine ⟨by simp,fun w hw => ?_⟩
   simp only [List.mem_cons,List.not_mem_nil,or_false] at hw
   rcases hw with rfl | rfl
   ·exact K _ (by simp)
   ·exact K _ (by simp)
 ·refine ⟨by simp,fun w hw => ?_⟩
  simp only [List.mem_cons,List.not_mem_nil,or_false] at hw
  rcases hw with rfl | rfl
  ·exact K _ (by simp)
  ·exact itoa_clean hR.k0
 ·refine ⟨by simp [nodeW],fun w hw => ?_⟩
  simp only [nodeW,List.mem_cons,List.not_mem_nil,or_false] at hw
  rcases hw with rfl | rfl | rfl
  ·exact K _ (by simp)
  ·exact name_clean (hR.names _ (by unfold namesL; exact List.mem_append_left _ (List.mem_map_of_mem hx)))
  ·exact itoa_clean (by have := hR.asn x hx; omega)
 ·refine ⟨by simp [linkW],fun w hw => ?_⟩
  simp only [linkW,List.mem_cons,List.not_mem_nil,or_false] at hw
  rcases hw with rfl | rfl | rfl | rfl
  ·exact K _ (by simp)
  ·exact hR.cleanN _
  ·exact hR.cleanN _
  ·exact itoa_clean (by have := hR.link x hx; omega)
 ·refine ⟨by simp [destW],fun w hw => ?_⟩
  simp only [destW,List.mem_append,List.mem_cons,List.not_mem_nil,or_false,List.mem_map] at hw
  rcases hw with (rfl | rfl | rfl) | ⟨o,_,rfl⟩
  ·exact K _ (by simp)
  ·exact name_clean (hR.names _ (by unfold namesL; exact List.mem_append_right _ (List.mem_map_of_mem hx)))
  ·exact K _ (by simp)
  ·exact hR.cleanN _
 ·have h0 := checkN_bounds (n := p.nodes.length) (d := p.dests.length) (by have := hR.n0; omega) (hR.check x hx)
  unfold checkW
  split
  ·refine ⟨by simp,fun w hw => ?_⟩
   simp only [List.mem_cons,List.not_mem_nil,or_false] at hw
   rcases hw with rfl | rfl | rfl | rfl <;> first | exact hR.cleanN _ | exact hR.cleanD _ | exact K _ (by simp)
  ·split
   ·refine ⟨by simp,fun w hw => ?_⟩
    simp only [List.mem_cons,List.not_mem_nil,or_false] at hw
    rcases hw with rfl | rfl | rfl | rfl | rfl <;> first | exact hR.cleanN _ | exact hR.cleanD _ | exact itoa_clean (by omega) | exact K _ (by simp)
   ·split
    ·refine ⟨by simp,fun w hw => ?_⟩
     simp only [List.mem_cons,List.not_mem_nil,or_false] at hw
     rcases hw with rfl | rfl | rfl | rfl | rfl <;> first | exact hR.cleanN _ | exact hR.cleanD _ | exact K _ (by simp)
    ·refine ⟨by simp,fun w hw => ?_⟩
     simp only [List.mem_cons,List.not_mem_nil,or_false] at hw
     rcases hw with rfl | rfl | rfl | rfl | rfl <;> first | exact hR.cleanN _ | exact hR.cleanD _ | exact K _ (by simp)
end RightP
namespace RightP
variable {p : PPlan} (hR : RightP p)
include hR
end RightP
end Go.Bk
