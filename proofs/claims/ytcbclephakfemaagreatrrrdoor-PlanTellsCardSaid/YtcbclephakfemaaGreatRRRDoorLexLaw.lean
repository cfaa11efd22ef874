/-
  LEX, PLAIN, THIRD PART: what the statements' own helpers compute. No program here.
-/
import Derived.Test.YtcbclephakfemaaGreatRRRDoorLexRef
namespace Go.Bk

def pickN (c : Int) (n : Nat) : Nat := ((if c < 0 then -(c + 1) else c) % (n : Int)).toNat
theorem pickN_lt (c : Int) {n : Nat} (h : 0 < n) : pickN c n < n := by
 unfold pickN
 have h1 := Int.emod_lt_of_pos (if c < 0 then -(c + 1) else c) (show (0 : Int) < (n : Int) by omega)
 have h2 := Int.emod_nonneg (if c < 0 then -(c + 1) else c) (show (n : Int) ≠ 0 by omega)
 omega
theorem pickN_neg {c : Int} {n : Nat} (hn : 0 < n) (h : c < 0) : ((pickN c n : Nat) : Int) = -(c + 1) % (n : Int) := by
 unfold pickN
 rw [if_pos h]
 have := Int.emod_nonneg (-(c + 1)) (show (n : Int) ≠ 0 by omega)
 omega
theorem pickN_nat {c : Int} {n : Nat} (hn : 0 < n) (h : ¬ c < 0) : ((pickN c n : Nat) : Int) = c % (n : Int) := by
 unfold pickN
 rw [if_neg h]
 have := Int.emod_nonneg c (show (n : Int) ≠ 0 by omega)
 omega
def decC (u : Nat) : Bytes := if u < 10 then [UInt8.ofNat (48 + u)] else [UInt8.ofNat (48 + u / 10),UInt8.ofNat (48 + u % 10)]
theorem decC_eq {u : Nat} (h : u < 100) : Lib.decDigits u = decC u := by
 unfold decC
 by_cases h1 : u < 10
 ·rw [if_pos h1,Lib.decDigits_one h1]
 ·rw [if_neg h1,Lib.decDigits_two h1 h]
structure VarFacts (v : Bytes) : Prop where
 name : nameB v = true
 name0 : nameB (v ++ [48]) = true
 nameM : nameB (v ++ [45]) = true
 nameD : nameB ([48] ++ v) = false
 nameS : nameB (v ++ [32]) = false
 len2 : 2 ≤ v.length
 len7 : v.length ≤ 7
 num : numI v = -1
end Go.Bk
