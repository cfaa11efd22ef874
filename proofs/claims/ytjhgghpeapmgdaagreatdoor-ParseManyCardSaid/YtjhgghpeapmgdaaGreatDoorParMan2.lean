/-
  PARSE, PLAIN: so many nodes and checks, and numbers beyond: the law. No program here.
-/
import Derived.Test.YtjhgghpeapmgdaaGreatDoorParMany
namespace Go.Bk
open Go

theorem many_law {n c : Nat} (h1 : 2 ≤ n) (h2 : n ≤ 13) (hc : c ≤ 17) : (parseT (mText n c)).2 = if 0 ≤ mAt n c then (44, mAt n c) else (0, 0) := by
  have h := List.all_eq_true.1 mok_all (n - 2) (List.mem_range.2 (by omega))
  have h := List.all_eq_true.1 h c (List.mem_range.2 (by omega))
  rw [show 2 + (n - 2) = n by omega] at h
  rw [parseT_eq]
  simpa [mOk] using h
theorem mNodes_step (i : Nat) : ((mNodes i ++ [110, 111, 100, 101, 32]) ++ [UInt8.ofNat (97 + i)]) ++ [32, 49, 59] = mNodes (i + 1) := by
  unfold mNodes
  rw [List.range_succ, List.flatMap_append]
  simp [mNode]
theorem mNodes_len (i : Nat) : (mNodes i).length = 28 + 9 * i := by
  induction i with
  | zero => rfl
  | succ i ih => rw [← mNodes_step]; simp only [List.length_append, List.length_cons, List.length_nil]; omega
theorem mText_zero (n : Nat) : mNodes n ++ [100, 101, 115, 116, 32, 120, 32, 97, 116, 32, 97, 59] = mText n 0 := by simp [mText, mDest]
theorem mText_step (n i : Nat) : mText n i ++ [99, 104, 101, 99, 107, 32, 114, 101, 97, 99, 104, 32, 97, 32, 120, 59] = mText n (i + 1) := by
  unfold mText
  rw [show i + 1 = i + 1 from rfl, List.replicate_succ', List.flatten_append]
  simp [mCheck]
theorem mText_len (n i : Nat) : (mText n i).length = 40 + 9 * n + 16 * i := by
  induction i with
  | zero => rw [← mText_zero]; simp only [List.length_append, mNodes_len, List.length_cons, List.length_nil]; omega
  | succ i ih => rw [← mText_step]; simp only [List.length_append, List.length_cons, List.length_nil]; omega
/-- Where the first node too many stands, when i nodes stand. -/
def atN (i : Nat) : Int := if 12 < i then ((mNodes 12).length : Int) else -1
theorem atN_hit : ((mNodes 12).length : Int) = atN (12 + 1) := rfl
theorem atN_miss {i : Nat} (h : i ≠ 12) : atN i = atN (i + 1) := by
  unfold atN
  by_cases h1 : 12 < i
  · rw [if_pos h1, if_pos (by omega)]
  · rw [if_neg h1, if_neg (by omega)]
theorem mAt_zero (n : Nat) : atN n = mAt n 0 := by
  unfold atN mAt
  split <;> rfl
theorem mAt_hit {n : Nat} (h : mAt n 16 < 0) : ((mText n 16).length : Int) = mAt n (16 + 1) := by
  unfold mAt at h ⊢
  by_cases h1 : 12 < n
  · rw [if_pos h1] at h; omega
  · rw [if_neg h1, if_pos (by omega)]
theorem mAt_miss {n i : Nat} (h : ¬ (i = 16 ∧ mAt n i < 0)) : mAt n i = mAt n (i + 1) := by
  unfold mAt at h ⊢
  by_cases h1 : 12 < n
  · rw [if_pos h1, if_pos h1]
  · rw [if_neg h1, if_neg h1]
    rw [if_neg h1] at h
    by_cases h2 : 16 < i
    · rw [if_pos h2, if_pos (by omega)]
    · rw [if_neg h2, if_neg]
      rw [if_neg h2] at h
      omega
theorem mAt_le (n i : Nat) : -1 ≤ mAt n i := by
  unfold mAt
  split
  · omega
  · split <;> omega
def manyBad : List Bytes := [[112, 114, 111, 116, 111, 99, 111, 108, 32, 112, 97, 116, 104, 32, 49, 51, 59], [112, 114, 111, 116, 111, 99, 111, 108, 32, 112, 97, 116, 104, 32, 48, 59], [112, 114, 111, 116, 111, 99, 111, 108, 32, 118, 101, 99, 116, 111, 114, 59, 32, 102, 97, 105, 108, 117, 114, 101, 115, 32, 53, 59], [112, 114, 111, 116, 111, 99, 111, 108, 32, 118, 101, 99, 116, 111, 114, 59, 32, 102, 97, 105, 108, 117, 114, 101, 115, 32, 48, 59, 32, 110, 111, 100, 101, 32, 97, 32, 48, 59]]
def manyPos : List Int := [14, 14, 26, 36]
theorem bad_law {k : Nat} (h : k < 4) : (parseT (manyBad.getD k [])).2 = (42, manyPos.getD k 0) := by
  have : k = 0 ∨ k = 1 ∨ k = 2 ∨ k = 3 := by omega
  rcases this with rfl | rfl | rfl | rfl <;> (rw [parseT_eq]; decide +kernel)
end Go.Bk
