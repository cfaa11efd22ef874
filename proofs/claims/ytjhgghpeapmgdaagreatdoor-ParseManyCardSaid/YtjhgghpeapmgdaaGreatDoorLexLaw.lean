/-
  LEX, PLAIN, THIRD PART: what the statements' own helpers compute. No program here.
-/
import Derived.Test.YtjhgghpeapmgdaaGreatDoorLexRef
namespace Go.Bk

/-- Which of n things a raw number speaks of. -/
def pickN (c : Int) (n : Nat) : Nat := ((if c < 0 then -(c + 1) else c) % (n : Int)).toNat
theorem pickN_lt (c : Int) {n : Nat} (h : 0 < n) : pickN c n < n := by
  unfold pickN
  have h1 := Int.emod_lt_of_pos (if c < 0 then -(c + 1) else c) (show (0 : Int) < (n : Int) by omega)
  have h2 := Int.emod_nonneg (if c < 0 then -(c + 1) else c) (show (n : Int) ≠ 0 by omega)
  omega
theorem pickN_neg {c : Int} {n : Nat} (hn : 0 < n) (h : c < 0) : ((pickN c n : Nat) : Int) = -(c + 1) % (n : Int) := by
  unfold pickN
  rw [if_pos h]
  have := Int.emod_nonneg (-(c + 1)) (show (n : Int) ≠ 0 by omega)
  omega
theorem pickN_nat {c : Int} {n : Nat} (hn : 0 < n) (h : ¬ c < 0) : ((pickN c n : Nat) : Int) = c % (n : Int) := by
  unfold pickN
  rw [if_neg h]
  have := Int.emod_nonneg c (show (n : Int) ≠ 0 by omega)
  omega
def varBase : List Bytes := [[97], [66], [110, 111, 100, 101, 115], [65, 116], [120, 45, 49], [121, 95]]
def varK (k : Nat) : Bytes := varBase.getD (k % 6) [] ++ Lib.decDigits (k / 6)
def varT (n : Int) : Bytes := varK (pickN n 300)
def pieceT (kind n : Int) : Bytes :=
  if pickN kind 4 = 0 then kwList.getD (pickN n 13) []
  else if pickN kind 4 = 1 then [59]
  else if pickN kind 4 = 2 then Lib.decDigits (pickN n 65536)
  else varT n
def blankList : List Bytes := [[32], [32, 32], [9], [10], [32, 10, 10], [32, 35, 32, 120, 59, 10], [10, 35, 10, 9]]
def blankT (l : List Int) (i : Nat) : Bytes := if l.length ≤ i then [32] else blankList.getD (pickN (l.getD i 0) 7) []

/-! ## The same, for reckoning -/
def numC (l : Bytes) : Int := if l = [] ∨ 5 < l.length ∨ (1 < l.length ∧ (l.getD 0 0).toNat = 48) ∨ l.all digitB = false then -1 else if 65535 < digVal l then -1 else ((digVal l : Nat) : Int)
theorem numI_eq (l : Bytes) : numI l = numC l := by
  unfold numC
  split
  · rename_i h
    rcases h with h | h | h | h
    · subst h; rfl
    · exact numI_long h
    · exact numI_zero h.1 h.2
    · apply Classical.byContradiction
      intro hn
      obtain ⟨u, _, _, e⟩ := numI_form hn
      have : l.all digitB = true := List.all_eq_true.2 (by rw [e]; exact decDigits_digit u)
      rw [h] at this; cases this
  · rename_i h
    simp only [not_or] at h
    obtain ⟨h1, h2, h3, h4⟩ := h
    exact numI_digits (List.all_eq_true.1 (by simpa using h4)) h1 (by omega) (fun h => by intro h'; exact h3 ⟨h, h'⟩)
def firstC (l : Bytes) : Tok × Bool :=
  if l = [] then (⟨4, [], 0, 0⟩, true)
  else if (l.getD 0 0).toNat = 59 then (⟨3, l.take 1, 0, 0⟩, true)
  else
    let x := l.takeWhile partB
    if 0 ≤ numC x then (⟨2, x, numC x, 0⟩, true) else (⟨1, x, 0, 0⟩, kwB x || nameB x)
theorem firstT_eq (l : Bytes) : firstT l = firstC l := by
  unfold firstT firstC
  simp only [numI_eq]
def lexRC : Nat → Bytes → Nat → LexOut
  | 0, _, a => ([], 21, a)
  | f + 1, r, a =>
    if (firstC (skipL r)).2 = false then ([], 21, ((a + (r.length - (skipL r).length) : Nat) : Int))
    else if (firstC (skipL r)).1.kind = 4 then ([{ (firstC (skipL r)).1 with at' := ((a + (r.length - (skipL r).length) : Nat) : Int) }], 0, 0)
    else
      let x := lexRC f ((skipL r).drop (firstC (skipL r)).1.text.length) (a + (r.length - (skipL r).length) + (firstC (skipL r)).1.text.length)
      if x.2.1 = 0 then ({ (firstC (skipL r)).1 with at' := ((a + (r.length - (skipL r).length) : Nat) : Int) } :: x.1, 0, 0) else ([], x.2.1, x.2.2)
theorem lexRC_eq : ∀ (f : Nat) (r : Bytes) (a : Nat), lexR f r a = lexRC f r a
  | 0, _, _ => rfl
  | f + 1, r, a => by
    simp only [lexR, lexRC]
    rw [firstT_eq, lexRC_eq f]
def lexC (s : Bytes) : LexOut := if 10000 < s.length then ([], 20, 10000) else lexRC (s.length + 1) s 0
theorem lexT_eq (s : Bytes) : lexT s = lexC s := by
  unfold lexT lexC
  rw [lexRC_eq]

theorem awake1 : lexT [108, 105, 110, 107, 32, 97, 32, 98, 32, 51, 59] = ([⟨1, [108, 105, 110, 107], 0, 0⟩, ⟨1, [97], 0, 5⟩, ⟨1, [98], 0, 7⟩, ⟨2, [51], 3, 9⟩, ⟨3, [59], 0, 10⟩, ⟨4, [], 0, 11⟩], 0, 0) := by
  rw [lexT_eq]; decide +kernel
theorem awake2 : lexT [97, 10, 32, 48, 49] = ([], 21, 3) := by
  rw [lexT_eq]; decide +kernel
theorem awake3 : nameB [120, 45, 49] = true := by decide +kernel
theorem awake4 : nameB [97, 116] = false := by decide +kernel
theorem awake5 : kwB [97, 116] = true := by decide +kernel
theorem awake6 : numI [54, 53, 53, 51, 53] = 65535 := by rw [numI_eq]; decide +kernel
theorem awake7 : numI [54, 53, 53, 51, 54] = -1 := by rw [numI_eq]; decide +kernel

/-! ## Names made of raw numbers -/
def decC (u : Nat) : Bytes := if u < 10 then [UInt8.ofNat (48 + u)] else [UInt8.ofNat (48 + u / 10), UInt8.ofNat (48 + u % 10)]
theorem decC_eq {u : Nat} (h : u < 100) : Lib.decDigits u = decC u := by
  unfold decC
  by_cases h1 : u < 10
  · rw [if_pos h1, Lib.decDigits_one h1]
  · rw [if_neg h1, Lib.decDigits_two h1 h]
def varC (k : Nat) : Bytes := varBase.getD (k % 6) [] ++ decC (k / 6)
theorem varC_eq {k : Nat} (h : k < 300) : varK k = varC k := by unfold varK varC; rw [decC_eq (by omega)]
def varOk (k : Nat) : Bool :=
  nameB (varC k) && nameB (varC k ++ [48]) && nameB (varC k ++ [45]) && !nameB ([48] ++ varC k) && !nameB (varC k ++ [32]) && decide (2 ≤ (varC k).length) && decide ((varC k).length ≤ 7)
theorem varOk_all : (List.range 300).all varOk = true := by decide +kernel
structure VarFacts (v : Bytes) : Prop where
  name : nameB v = true
  name0 : nameB (v ++ [48]) = true
  nameM : nameB (v ++ [45]) = true
  nameD : nameB ([48] ++ v) = false
  nameS : nameB (v ++ [32]) = false
  len2 : 2 ≤ v.length
  len7 : v.length ≤ 7
  num : numI v = -1
theorem var_facts (n : Int) : VarFacts (varT n) := by
  have hk := pickN_lt n (show 0 < 300 by decide)
  have h := List.all_eq_true.1 varOk_all (pickN n 300) (List.mem_range.2 hk)
  unfold varOk at h
  simp only [Bool.and_eq_true, Bool.not_eq_true', decide_eq_true_eq] at h
  obtain ⟨⟨⟨⟨⟨⟨h1, h2⟩, h3⟩, h4⟩, h5⟩, h6⟩, h7⟩ := h
  unfold varT
  rw [varC_eq hk]
  exact ⟨h1, h2, h3, h4, h5, h6, h7, name_num h1⟩
theorem nameB_long {l : Bytes} (h : 12 < l.length) : nameB l = false := by
  cases hn : nameB l with
  | false => rfl
  | true =>
    have := (nameB_iff.1 hn).2.1
    omega
theorem piece_short (kind n : Int) : (pieceT kind n).length ≤ 8 := by
  unfold pieceT
  split
  · generalize pickN n 13 = i
    match i with
    | 0 | 1 | 2 | 3 | 4 | 5 | 6 | 7 | 8 | 9 | 10 | 11 | 12 => decide
    | i + 13 => simp [kwList]
  · split
    · decide
    · split
      · rw [Lib.decDigits_length]
        have := nDigits_le 4 (pickN n 65536) (by have := pickN_lt n (show 0 < 65536 by decide); omega)
        omega
      · have := (var_facts n).len7
        omega

theorem lexR_len : ∀ (f : Nat) (r : Bytes) (a : Nat), (lexR f r a).1.length ≤ r.length + 1
  | 0, _, _ => by simp [lexR]
  | f + 1, r, a => by
    have hs := skipL_le r
    simp only [lexR]
    split
    · simp
    · split
      · simp
      · rename_i h1 h2
        have hne := skip_ne h2
        have hp := firstT_pos hne (by simpa using h1)
        have ih := lexR_len f ((skipL r).drop (firstT (skipL r)).1.text.length) (a + (r.length - (skipL r).length) + (firstT (skipL r)).1.text.length)
        rw [List.length_drop] at ih
        have ht := firstT_text (l := skipL r)
        split
        · simp only [List.length_cons]; omega
        · simp
theorem lexT_len (s : Bytes) : (lexT s).1.length ≤ 10001 := by
  unfold lexT
  split
  · simp
  · have := lexR_len (s.length + 1) s 0
    omega
theorem blank_short (l : List Int) (i : Nat) : (blankT l i).length ≤ 6 := by
  unfold blankT
  split
  · decide
  · generalize pickN (l.getD i 0) 7 = j
    match j with
    | 0 | 1 | 2 | 3 | 4 | 5 | 6 => decide
    | j + 7 => simp [blankList]
end Go.Bk
