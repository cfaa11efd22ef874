/-
  LEX, PLAIN, SECOND PART: numbers as their digits say; what stands ahead of a token. No program here.
-/
import Derived.Test.YtcbclephakfemaaGreatRRRDoorLexSpec
namespace Go.Bk

theorem snoc_ind {α : Type} {p : List α → Prop} (h0 : p []) (hs : ∀ l c,p l → p (l ++ [c])) (l : List α) : p l := by
 rw [← List.reverse_reverse l]
 induction l.reverse with
 | nil => exact h0
 | cons c r ih => rw [List.reverse_cons]; exact hs _ _ ih
theorem nDigits_le : ∀ (k u : Nat),u < 10 ^ (k + 1) → Lib.nDigits u ≤ k + 1
 | 0,u,h => by rw [Lib.nDigits_small (by simpa using h)]; exact Nat.le_refl _
 | k + 1,u,h => by
  by_cases h1 : u < 10
  ·rw [Lib.nDigits_small h1]; omega
  ·rw [Lib.nDigits_big h1]
   have := nDigits_le k (u / 10) (by rw [Nat.pow_succ] at h; omega)
   omega
theorem getD_mem {l : Bytes} {k : Nat} (h : k < l.length) : l.getD k 0 ∈ l := by
 rw [List.getD_eq_getElem?_getD,List.getElem?_eq_getElem h]
 exact List.getElem_mem _
theorem nameB_iff {l : Bytes} : nameB l = true ↔ l ≠ [] ∧ l.length ≤ 12 ∧ letterB (l.getD 0 0) = true ∧ runLen partB l = l.length ∧ kwB l = false := by
 unfold nameB
 simp only [Bool.and_eq_true,Bool.not_eq_true',decide_eq_true_eq,decide_eq_false_iff_not]
 constructor
 ·rintro ⟨⟨⟨⟨h1,h2⟩,h3⟩,h4⟩,h5⟩
  exact ⟨h1,by omega,h3,by omega,h5⟩
 ·rintro ⟨h1,h2,h3,h4,h5⟩
  exact ⟨⟨⟨⟨h1,by omega⟩,h3⟩,by omega⟩,h5⟩
theorem runLen_lt {p : UInt8 → Bool} {l : Bytes} {k : Nat} (hk : k < l.length) (h : p (l.getD k 0) = false) : runLen p l < l.length := by
 rcases Nat.lt_or_ge (runLen p l) l.length with h1 | h1
 ·exact h1
 ·exfalso
  have h2 := runLen_le p l
  have h3 : l.takeWhile p = l := by rw [← take_runLen,show runLen p l = l.length by omega,List.take_length]
  have h4 : ∀ c ∈ l,p c = true := by
   rw [← h3]
   intro c hc
   exact List.all_eq_true.1 (List.all_takeWhile (p := p) (l := l)) c hc
  have := h4 _ (getD_mem hk)
  rw [h] at this
  cases this
theorem nameB_false_of_part {l : Bytes} {k : Nat} (hk : k < l.length) (h : partB (l.getD k 0) = false) : nameB l = false := by
 cases hn : nameB l with
 | false => rfl
 | true =>
  obtain ⟨_,_,_,h4,_⟩ := nameB_iff.1 hn
  have := runLen_lt hk h
  omega

end Go.Bk
