/-
  PARSE, PLAIN: sorted by insertion, or by merging: it is the same list. No program here.
-/
import Derived.Test.YtjhgghpeapmgdaaGreatDoorParSpec
namespace Go.Bk
open Go

theorem insI_perm (x : Int) : ∀ l : List Int,(insI x l).Perm (x :: l)
 | [] => List.Perm.refl _
 | y :: r => by
  unfold insI
  split
  ·exact List.Perm.refl _
  ·exact ((insI_perm x r).cons y).trans (List.Perm.swap x y r)
theorem sortI_perm : ∀ l : List Int,(sortI l).Perm l
 | [] => List.Perm.refl _
 | x :: r => (insI_perm x (sortI r)).trans ((sortI_perm r).cons x)
theorem sortI_len (l : List Int) : (sortI l).length = l.length := (sortI_perm l).length_eq
theorem insI_sorted (x : Int) : ∀ l : List Int,l.Pairwise (· ≤ ·) → (insI x l).Pairwise (· ≤ ·)
 | [],_ => by simp [insI]
 | y :: r,h => by
  rw [List.pairwise_cons] at h
  unfold insI
  split
  ·rename_i hxy
   rw [List.pairwise_cons]
   refine ⟨fun z hz => ?_,List.pairwise_cons.2 h⟩
   rcases List.mem_cons.1 hz with rfl | hz
   ·exact hxy
   ·exact Int.le_trans hxy (h.1 z hz)
  ·rename_i hxy
   rw [List.pairwise_cons]
   refine ⟨fun z hz => ?_,insI_sorted x r h.2⟩
   rcases List.mem_cons.1 ((insI_perm x r).mem_iff.1 hz) with rfl | hz
   ·omega
   ·exact h.1 z hz
theorem sortI_sorted : ∀ l : List Int,(sortI l).Pairwise (· ≤ ·)
 | [] => List.Pairwise.nil
 | x :: r => insI_sorted x _ (sortI_sorted r)
theorem sortI_merge (l : List Int) : (l.mergeSort fun x y => decide (x ≤ y)) = sortI l := by
 have h1 : (l.mergeSort fun x y => decide (x ≤ y)).Pairwise (· ≤ ·) := by
  have := List.pairwise_mergeSort (le := fun x y : Int => decide (x ≤ y)) (fun _ _ _ h1 h2 => by simp only [decide_eq_true_eq] at *; omega) (fun _ _ => by simp only [Bool.or_eq_true,decide_eq_true_eq]; omega) l
  exact this.imp fun h => by simpa using h
 exact List.Perm.eq_of_pairwise (fun _ _ _ _ h1 h2 => Int.le_antisymm h1 h2) h1 (sortI_sorted l) ((List.mergeSort_perm _ _).trans (sortI_perm l).symm)
theorem sortI_self {l : List Int} (h : l.Pairwise (· ≤ ·)) : sortI l = l := List.Perm.eq_of_pairwise (fun _ _ _ _ h1 h2 => Int.le_antisymm h1 h2) (sortI_sorted l) h (sortI_perm l)
end Go.Bk
