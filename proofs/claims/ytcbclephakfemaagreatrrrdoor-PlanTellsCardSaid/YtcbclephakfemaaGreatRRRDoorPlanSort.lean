/-
  PLAN, PLAIN: sorted, and cut to one of each kind, a list is as long as before just if no two were the same; joined words. No program here.
-/
import Derived.Test.YtcbclephakfemaaGreatRRRDoorPlanRight
import Derived.Lib.SlicesCompact
import Derived.Lib.Join
namespace Go.Bk
open Go

def sortB (l : List Bytes) : List Bytes := l.mergeSort fun x y => decide (x ≤ y)
theorem sortB_perm (l : List Bytes) : (sortB l).Perm l := List.mergeSort_perm _ _
theorem sortB_len (l : List Bytes) : (sortB l).length = l.length := (sortB_perm l).length_eq
theorem sortB_sorted (l : List Bytes) : (sortB l).Pairwise (· ≤ ·) := by
 have := List.pairwise_mergeSort (le := fun x y : Bytes => decide (x ≤ y)) (fun a b c h1 h2 => by simp only [decide_eq_true_eq] at *; exact List.le_trans h1 h2) (fun a b => by simp only [Bool.or_eq_true,decide_eq_true_eq]; exact List.le_total a b) l
 exact this.imp fun h => by simpa using h
theorem compactUpTo_len {α : Type} [Inhabited α] [DecidableEq α] (d : Array α) : ∀ m,(Lib.compactUpTo d m).length ≤ m ∧ ((Lib.compactUpTo d m).length = m ↔ ∀ j,j < m → Lib.keeps d j = true)
 | 0 => by simp [Lib.compactUpTo]
 | m + 1 => by
  obtain ⟨h1,h2⟩ := compactUpTo_len d m
  rw [Lib.compactUpTo_succ,List.length_append]
  by_cases h : Lib.keeps d m = true
  ·rw [if_pos h]
   refine ⟨by simp; omega,?_⟩
   constructor
   ·intro e j hj
    have e2 := h2.1 (by simpa using e)
    by_cases e3 : j = m
    ·subst e3; exact h
    ·exact e2 j (by omega)
   ·intro hall
    rw [h2.2 fun j hj => hall j (by omega)]; rfl
  ·rw [if_neg h]
   refine ⟨by simp; omega,?_⟩
   constructor
   ·intro e
    simp at e
    omega
   ·intro hall
    exact absurd (hall m (by omega)) h
theorem compact_sorted {zs : List Bytes} (hs : zs.Pairwise (· ≤ ·)) : (Lib.compact zs).length = zs.length ↔ zs.Nodup := by
 unfold Lib.compact
 rw [(compactUpTo_len zs.toArray zs.length).2]
 have key : ∀ j,j < zs.length → (Lib.keeps zs.toArray j = true ↔ (j = 0 ∨ zs[j]? ≠ zs[j - 1]?)) := by
  intro j hj
  unfold Lib.keeps
  rw [decide_eq_true_eq]
  have e1 : (zs.toArray)[j]! = zs[j] := by simp [getElem!_pos,hj]
  by_cases h0 : j = 0
  ·simp [h0]
  ·have e2 : (zs.toArray)[j - 1]! = zs[j - 1] := by simp [getElem!_pos,show j - 1 < zs.length by omega]
   rw [e1,e2,List.getElem?_eq_getElem hj,List.getElem?_eq_getElem (by omega : j - 1 < zs.length)]
   simp
 rw [List.pairwise_iff_getElem] at hs
 rw [List.nodup_iff_pairwise_ne,List.pairwise_iff_getElem]
 constructor
 ·intro hall i j hi hj hij e
  have hk := (key j hj).1 (hall j hj)
  rcases hk with h0 | hne
  ·omega
  ·apply hne
   rw [List.getElem?_eq_getElem hj,List.getElem?_eq_getElem (by omega : j - 1 < zs.length)]
   congr 1
   have h2 := hs (j - 1) j (by omega) hj (by omega)
   by_cases h3 : i = j - 1
   ·subst h3; exact e.symm
   ·have h4 := hs i (j - 1) hi (by omega) (by omega)
    rw [e] at h4
    exact List.le_antisymm h4 h2
 ·intro hall j hj
  rw [key j hj]
  by_cases h0 : j = 0
  ·exact .inl h0
  ·refine .inr fun e => ?_
   rw [List.getElem?_eq_getElem hj,List.getElem?_eq_getElem (by omega : j - 1 < zs.length)] at e
   exact hall (j - 1) j (by omega) hj (by omega) (Option.some.inj e).symm
theorem compact_sortB (l : List Bytes) : (Lib.compact (sortB l)).length = l.length ↔ l.Nodup := by
 rw [← sortB_len l,compact_sorted (sortB_sorted l)]
 exact (sortB_perm l).nodup_iff
theorem any_sortB (l : List Bytes) (p : Bytes → Bool) : (sortB l).any p = l.any p := by
 rw [Bool.eq_iff_iff,List.any_eq_true,List.any_eq_true]
 constructor
 ·rintro ⟨x,hx,h⟩; exact ⟨x,(sortB_perm l).mem_iff.1 hx,h⟩
 ·rintro ⟨x,hx,h⟩; exact ⟨x,(sortB_perm l).mem_iff.2 hx,h⟩
theorem joinW_eq : ∀ (ws : List Bytes),Lib.join ws [32] = joinW ws
 | [] => rfl
 | [w] => Lib.join_one w [32]
 | w :: v :: r => by
  rw [Lib.join_cons,joinW,← joinW_eq (v :: r),Lib.join_cons]
  simp [Lib.joinTail]
  intro h; cases h
end Go.Bk
