/-
  LEX, PLAIN, THIRD PART: what the statements' own helpers compute. No program here.
-/
import Derived.Test.YtjhgghpeapmgdaaGreatDoorLexRef
namespace Go.Bk

/-- Which of n things a raw number speaks of. -/
def pickN (c : Int) (n : Nat) : Nat := ((if c < 0 then -(c + 1) else c) % (n : Int)).toNat
theorem pickN_lt (c : Int) {n : Nat} (h : 0 < n) : pickN c n < n := by
  unfold pickN
  have h1 := Int.emod_lt_of_pos (if c < 0 then -(c + 1) else c) (show (0 : Int) < (n : Int) by omega)
  have h2 := Int.emod_nonneg (if c < 0 then -(c + 1) else c) (show (n : Int) ≠ 0 by omega)
  omega
theorem pickN_neg {c : Int} {n : Nat} (hn : 0 < n) (h : c < 0) : ((pickN c n : Nat) : Int) = -(c + 1) % (n : Int) := by
  unfold pickN
  rw [if_pos h]
  have := Int.emod_nonneg (-(c + 1)) (show (n : Int) ≠ 0 by omega)
  omega
theorem pickN_nat {c : Int} {n : Nat} (hn : 0 < n) (h : ¬ c < 0) : ((pickN c n : Nat) : Int) = c % (n : Int) := by
  unfold pickN
  rw [if_neg h]
  have := Int.emod_nonneg c (show (n : Int) ≠ 0 by omega)
  omega
def blankList : List Bytes := [[32], [32, 32], [9], [10], [32, 10, 10], [32, 35, 32, 120, 59, 10], [10, 35, 10, 9]]
/-! ## The same, for reckoning -/
/-! ## Names made of raw numbers -/
def decC (u : Nat) : Bytes := if u < 10 then [UInt8.ofNat (48 + u)] else [UInt8.ofNat (48 + u / 10), UInt8.ofNat (48 + u % 10)]
theorem decC_eq {u : Nat} (h : u < 100) : Lib.decDigits u = decC u := by
  unfold decC
  by_cases h1 : u < 10
  · rw [if_pos h1, Lib.decDigits_one h1]
  · rw [if_neg h1, Lib.decDigits_two h1 h]
structure VarFacts (v : Bytes) : Prop where
  name : nameB v = true
  name0 : nameB (v ++ [48]) = true
  nameM : nameB (v ++ [45]) = true
  nameD : nameB ([48] ++ v) = false
  nameS : nameB (v ++ [32]) = false
  len2 : 2 ≤ v.length
  len7 : v.length ≤ 7
  num : numI v = -1
theorem lexR_len : ∀ (f : Nat) (r : Bytes) (a : Nat), (lexR f r a).1.length ≤ r.length + 1
  | 0, _, _ => by simp [lexR]
  | f + 1, r, a => by
    have hs := skipL_le r
    simp only [lexR]
    split
    · simp
    · split
      · simp
      · rename_i h1 h2
        have hne := skip_ne h2
        have hp := firstT_pos hne (by simpa using h1)
        have ih := lexR_len f ((skipL r).drop (firstT (skipL r)).1.text.length) (a + (r.length - (skipL r).length) + (firstT (skipL r)).1.text.length)
        rw [List.length_drop] at ih
        have ht := firstT_text (l := skipL r)
        split
        · simp only [List.length_cons]; omega
        · simp
theorem lexT_len (s : Bytes) : (lexT s).1.length ≤ 10001 := by
  unfold lexT
  split
  · simp
  · have := lexR_len (s.length + 1) s 0
    omega
end Go.Bk
