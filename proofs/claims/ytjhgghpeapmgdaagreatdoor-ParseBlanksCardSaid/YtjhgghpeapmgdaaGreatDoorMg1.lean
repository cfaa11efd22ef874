/-
  Texts that belong together: LexRef, ParTok, LexLaw.
-/
import Derived.Test.YtjhgghpeapmgdaaGreatDoorLexSpec
import Derived.Test.YtjhgghpeapmgdaaGreatDoorMem
/-
  LEX, PLAIN, SECOND PART: numbers as their digits say; what stands ahead of a token. No program here.
-/
namespace Go.Bk

theorem snoc_ind {α : Type} {p : List α → Prop} (h0 : p []) (hs : ∀ l c,p l → p (l ++ [c])) (l : List α) : p l := by
 rw [← List.reverse_reverse l]
 induction l.reverse with
 | nil => exact h0
 | cons c r ih => rw [List.reverse_cons]; exact hs _ _ ih
def dgv (n : Nat) (c : UInt8) : Nat := 10 * n + (c.toNat - 48)
def digVal (l : Bytes) : Nat := l.foldl dgv 0
theorem digVal_snoc (l : Bytes) (c : UInt8) : digVal (l ++ [c]) = 10 * digVal l + (c.toNat - 48) := by simp [digVal,dgv]
theorem digitB_iff {c : UInt8} : digitB c = true ↔ 48 ≤ c.toNat ∧ c.toNat ≤ 57 := by
 unfold digitB
 simp only [Bool.and_eq_true,decide_eq_true_eq]
 omega
theorem u8_of {c : UInt8} {n : Nat} (h : c.toNat = n) : UInt8.ofNat n = c := by
 rw [← h]; simp
theorem digVal_lt : ∀ (l : Bytes),(∀ c ∈ l,digitB c = true) → digVal l < 10 ^ l.length := by
 intro l
 induction l using snoc_ind with
 | h0 => intro _; decide
 | hs r c ih =>
  intro h
  have h1 := ih (fun x hx => h x (by simp [hx]))
  have h2 := digitB_iff.1 (h c (by simp))
  rw [digVal_snoc,List.length_append,List.length_singleton,Nat.pow_succ]
  omega
theorem digVal_pos : ∀ (l : Bytes),(∀ c ∈ l,digitB c = true) → l ≠ [] → (l.getD 0 0).toNat ≠ 48 → 1 ≤ digVal l := by
 intro l
 induction l using snoc_ind with
 | h0 => intro _ h; exact absurd rfl h
 | hs r c ih =>
  intro h _ h0
  rw [digVal_snoc]
  have h2 := digitB_iff.1 (h c (by simp))
  cases r with
  | nil => simp at h0; omega
  | cons x r =>
   have := ih (fun y hy => h y (List.mem_append_left _ hy)) (by simp) (by simpa using h0)
   omega
theorem decDigits_val : ∀ (l : Bytes),(∀ c ∈ l,digitB c = true) → l ≠ [] → (1 < l.length → (l.getD 0 0).toNat ≠ 48) → Lib.decDigits (digVal l) = l := by
 intro l
 induction l using snoc_ind with
 | h0 => intro _ h; exact absurd rfl h
 | hs r c ih =>
  intro h _ h0
  have h2 := digitB_iff.1 (h c (by simp))
  rw [digVal_snoc]
  cases r with
  | nil =>
   have : digVal [] = 0 := rfl
   rw [this,Lib.decDigits_one (by omega)]
   simp only [List.nil_append,List.cons.injEq,and_true]
   exact u8_of (by omega)
  | cons x r =>
   have hz : (x :: r).getD 0 0 = x := rfl
   have h0' : x.toNat ≠ 48 := by
    have := h0 (by simp)
    simpa using this
   have hd : ∀ y ∈ x :: r,digitB y = true := fun y hy => h y (List.mem_append_left _ hy)
   have hp := digVal_pos (x :: r) hd (by simp) (by rw [hz]; exact h0')
   have e := ih hd (by simp) (fun _ => by rw [hz]; exact h0')
   rw [Lib.decDigits,dif_neg (by omega),show (10 * digVal (x :: r) + (c.toNat - 48)) / 10 = digVal (x :: r) by omega,e]
   congr 1
   simp only [List.cons.injEq,and_true]
   exact u8_of (by omega)
theorem nDigits_le : ∀ (k u : Nat),u < 10 ^ (k + 1) → Lib.nDigits u ≤ k + 1
 | 0,u,h => by rw [Lib.nDigits_small (by simpa using h)]; exact Nat.le_refl _
 | k + 1,u,h => by
  by_cases h1 : u < 10
  ·rw [Lib.nDigits_small h1]; omega
  ·rw [Lib.nDigits_big h1]
   have := nDigits_le k (u / 10) (by rw [Nat.pow_succ] at h; omega)
   omega
theorem decDigits_digit (u : Nat) : ∀ c ∈ Lib.decDigits u,digitB c = true := by
 induction u using Nat.strongRecOn with
 | _ u ih =>
  intro c hc
  by_cases h : u < 10
  ·rw [Lib.decDigits_one h] at hc
   simp only [List.mem_singleton] at hc
   subst hc
   rw [digitB_iff]
   simp; omega
  ·rw [Lib.decDigits,dif_neg h] at hc
   rcases List.mem_append.1 hc with hc | hc
   ·exact ih (u / 10) (by omega) c hc
   ·simp only [List.mem_singleton] at hc
    subst hc
    rw [digitB_iff]
    simp; omega
theorem decDigits_ne (u : Nat) : Lib.decDigits u ≠ [] := by
 intro h
 have := Lib.decDigits_length u
 rw [h] at this
 have := Lib.nDigits_pos u
 simp at *
 omega
theorem decDigits_head (u : Nat) : 1 < (Lib.decDigits u).length → ((Lib.decDigits u).getD 0 0).toNat ≠ 48 := by
 have key : ∀ u,1 ≤ u → ((Lib.decDigits u).getD 0 0).toNat ≠ 48 := by
  intro u
  induction u using Nat.strongRecOn with
  | _ u ih =>
   intro hu
   by_cases h : u < 10
   ·rw [Lib.decDigits_one h]
    simp
    omega
   ·have := ih (u / 10) (by omega) (by omega)
    rw [Lib.decDigits,dif_neg h]
    have hne := decDigits_ne (u / 10)
    cases hx : Lib.decDigits (u / 10) with
    | nil => exact absurd hx hne
    | cons x r =>
     rw [hx] at this
     simpa using this
 intro h
 refine key u ?_
 rcases Nat.eq_zero_or_pos u with h0 | h0
 ·subst h0
  rw [Lib.decDigits_one (by omega)] at h
  simp at h
 ·exact h0
theorem digVal_dec (u : Nat) : digVal (Lib.decDigits u) = u := by
 induction u using Nat.strongRecOn with
 | _ u ih =>
  by_cases h : u < 10
  ·rw [Lib.decDigits_one h]
   simp [digVal,dgv]
   omega
  ·rw [Lib.decDigits,dif_neg h,digVal_snoc,ih (u / 10) (by omega)]
   simp
   omega
theorem parse_digits : ∀ (l : Bytes) (acc k : Nat),(∀ c ∈ l,digitB c = true) → acc < 10 ^ k → k + l.length ≤ 18 → Lib.parseUint10 acc l = .ok (l.foldl dgv acc)
 | [],acc,k,_,_,_ => rfl
 | c :: r,acc,k,h,ha,hk => by
  have hc := digitB_iff.1 (h c (by simp))
  have hk' : k ≤ 17 := by simp at hk; omega
  have h17 : 10 ^ k ≤ 10 ^ 17 := Nat.pow_le_pow_right (by omega) hk'
  have h17' : (10 : Nat) ^ 17 = 100000000000000000 := by decide
  rw [h17'] at h17
  simp only [Lib.parseUint10]
  rw [if_pos hc,if_neg (by omega),if_neg (by omega)]
  have e : acc * 10 + (c.toNat - 48) = dgv acc c := by unfold dgv; omega
  rw [e,List.foldl_cons]
  refine parse_digits r (dgv acc c) (k + 1) (fun x hx => h x (by simp [hx])) ?_ (by simp at hk; omega)
  rw [Nat.pow_succ,← e]
  omega
theorem atoi_digits {l : Bytes} (h : ∀ c ∈ l,digitB c = true) (hne : l ≠ []) (hl : l.length ≤ 18) : Lib.atoiAll l = .ok ((digVal l : Nat) : Int) := by
 cases l with
 | nil => exact absurd rfl hne
 | cons c r =>
  have hc := digitB_iff.1 (h c (by simp))
  have hp : Lib.parseMag (c :: r) = .ok (digVal (c :: r)) := by
   unfold Lib.parseMag
   rw [if_neg (by simp),parse_digits (c :: r) 0 0 h (by decide) (by omega)]
   rfl
  have hv := digVal_lt (c :: r) h
  have h18 : (10 : Nat) ^ (c :: r).length ≤ 10 ^ 18 := Nat.pow_le_pow_right (by omega) hl
  have h18' : (10 : Nat) ^ 18 = 1000000000000000000 := by decide
  rw [h18'] at h18
  unfold Lib.atoiAll
  simp only
  rw [if_neg (by omega),hp]
  simp only
  rw [if_neg (by omega),if_neg (by omega),if_neg (by omega)]
theorem numI_digits {l : Bytes} (h : ∀ c ∈ l,digitB c = true) (hne : l ≠ []) (hl : l.length ≤ 18) (h0 : 1 < l.length → (l.getD 0 0).toNat ≠ 48) : numI l = if 65535 < digVal l then -1 else ((digVal l : Nat) : Int) := by
 unfold numI
 rw [atoi_digits h hne hl]
 simp only
 have e : Lib.itoa ((digVal l : Nat) : Int) = l := by
  unfold Lib.itoa
  rw [if_neg (by omega)]
  simpa using decDigits_val l h hne h0
 rw [e]
 by_cases hb : 65535 < digVal l
 ·rw [if_pos (.inr (.inl (by omega))),if_pos hb]
 ·rw [if_neg (by simp; omega),if_neg hb]
theorem numI_form {l : Bytes} (h : numI l ≠ -1) : ∃ u,u ≤ 65535 ∧ numI l = ((u : Nat) : Int) ∧ l = Lib.decDigits u := by
 unfold numI at h ⊢
 split at h
 ·rename_i n hn
  by_cases hc : n < 0 ∨ 65535 < n ∨ Lib.itoa n ≠ l
  ·rw [if_pos hc] at h; exact absurd rfl h
  ·rw [if_neg hc]
   simp only [not_or,Classical.not_not] at hc
   obtain ⟨h1,h2,h3⟩ := hc
   refine ⟨n.toNat,by omega,by omega,?_⟩
   rw [← h3]
   unfold Lib.itoa
   rw [if_neg h1]
 ·exact absurd rfl h
theorem numI_dec {u : Nat} (h : u ≤ 65535) : numI (Lib.decDigits u) = ((u : Nat) : Int) := by
 rw [numI_digits (decDigits_digit u) (decDigits_ne u) (by rw [Lib.decDigits_length]; have := nDigits_le 4 u (by omega); omega) (decDigits_head u),digVal_dec,if_neg (by omega)]
theorem numI_long {l : Bytes} (h : 5 < l.length) : numI l = -1 := by
 apply Classical.byContradiction
 intro hn
 obtain ⟨u,h1,_,e⟩ := numI_form hn
 have := nDigits_le 4 u (by omega)
 rw [e,Lib.decDigits_length] at h
 omega
theorem numI_zero {l : Bytes} (h : 1 < l.length) (h0 : (l.getD 0 0).toNat = 48) : numI l = -1 := by
 apply Classical.byContradiction
 intro hn
 obtain ⟨u,h1,_,e⟩ := numI_form hn
 have := decDigits_head u
 rw [← e] at this
 exact this h h0
theorem getD_mem {l : Bytes} {k : Nat} (h : k < l.length) : l.getD k 0 ∈ l := by
 rw [List.getD_eq_getElem?_getD,List.getElem?_eq_getElem h]
 exact List.getElem_mem _
theorem numI_nodigit {l : Bytes} {k : Nat} (h : k < l.length) (h0 : digitB (l.getD k 0) = false) : numI l = -1 := by
 apply Classical.byContradiction
 intro hn
 obtain ⟨u,h1,_,e⟩ := numI_form hn
 have := decDigits_digit u (l.getD k 0) (by rw [← e]; exact getD_mem h)
 rw [h0] at this
 cases this
theorem all_of_getD {p : UInt8 → Bool} {l : Bytes} (h : ∀ j,j < l.length → p (l.getD j 0) = true) : ∀ c ∈ l,p c = true := by
 intro c hc
 obtain ⟨j,hj,e⟩ := List.getElem_of_mem hc
 have := h j hj
 rw [List.getD_eq_getElem?_getD,List.getElem?_eq_getElem hj,Option.getD_some,e] at this
 exact this
theorem take_succ_getD {l : Bytes} {k : Nat} (h : k < l.length) : l.take (k + 1) = l.take k ++ [l.getD k 0] := by
 rw [List.take_add_one,List.getElem?_eq_getElem h,List.getD_eq_getElem?_getD,List.getElem?_eq_getElem h]
 rfl

theorem kw_num {l : Bytes} (h : kwB l = true) : numI l = -1 := by
 unfold kwB at h
 rw [decide_eq_true_eq] at h
 simp only [kwList,List.mem_cons,List.not_mem_nil,or_false] at h
 rcases h with rfl | rfl | rfl | rfl | rfl | rfl | rfl | rfl | rfl | rfl | rfl | rfl | rfl <;> exact numI_nodigit (k := 0) (by decide) (by decide)
theorem letter_digit {c : UInt8} (h : letterB c = true) : digitB c = false := by
 cases hd : digitB c with
 | false => rfl
 | true =>
  have := digitB_iff.1 hd
  unfold letterB at h
  simp only [Bool.or_eq_true,Bool.and_eq_true,decide_eq_true_eq] at h
  omega
theorem nameB_iff {l : Bytes} : nameB l = true ↔ l ≠ [] ∧ l.length ≤ 12 ∧ letterB (l.getD 0 0) = true ∧ runLen partB l = l.length ∧ kwB l = false := by
 unfold nameB
 simp only [Bool.and_eq_true,Bool.not_eq_true',decide_eq_true_eq,decide_eq_false_iff_not]
 constructor
 ·rintro ⟨⟨⟨⟨h1,h2⟩,h3⟩,h4⟩,h5⟩
  exact ⟨h1,by omega,h3,by omega,h5⟩
 ·rintro ⟨h1,h2,h3,h4,h5⟩
  exact ⟨⟨⟨⟨h1,by omega⟩,h3⟩,by omega⟩,h5⟩
theorem name_num {l : Bytes} (h : nameB l = true) : numI l = -1 := by
 obtain ⟨h1,_,h3,_,_⟩ := nameB_iff.1 h
 exact numI_nodigit (k := 0) (List.length_pos_iff.2 h1) (letter_digit h3)
theorem name_kw {l : Bytes} (h : nameB l = true) : kwB l = false := (nameB_iff.1 h).2.2.2.2
theorem runLen_lt {p : UInt8 → Bool} {l : Bytes} {k : Nat} (hk : k < l.length) (h : p (l.getD k 0) = false) : runLen p l < l.length := by
 rcases Nat.lt_or_ge (runLen p l) l.length with h1 | h1
 ·exact h1
 ·exfalso
  have h2 := runLen_le p l
  have h3 : l.takeWhile p = l := by rw [← take_runLen,show runLen p l = l.length by omega,List.take_length]
  have h4 : ∀ c ∈ l,p c = true := by
   rw [← h3]
   intro c hc
   exact List.all_eq_true.1 (List.all_takeWhile (p := p) (l := l)) c hc
  have := h4 _ (getD_mem hk)
  rw [h] at this
  cases this
theorem nameB_false_of_part {l : Bytes} {k : Nat} (hk : k < l.length) (h : partB (l.getD k 0) = false) : nameB l = false := by
 cases hn : nameB l with
 | false => rfl
 | true =>
  obtain ⟨_,_,_,h4,_⟩ := nameB_iff.1 hn
  have := runLen_lt hk h
  omega

theorem skipL_blank {c : UInt8} {r : Bytes} (h : blankB c = true) : skipL (c :: r) = skipL r := by
 by_cases hp : Lib.hasPrefix (r.dropWhile blankB) [35] = true
 ·rw [skipL_go (l := c :: r) (by simpa [h] using hp),skipL_go hp]
  simp [h]
 ·rw [skipL_stop (l := c :: r) (by simpa [h] using hp),skipL_stop hp]
  simp [h]
theorem skipL_hash {c : UInt8} {r : Bytes} (h : c.toNat = 35) : skipL (c :: r) = skipL ((c :: r).dropWhile notLineB) := by
 have hc : c = 35 := by apply UInt8.toNat_inj.1; simpa using h
 subst hc
 have hb : (35 :: r : Bytes).dropWhile blankB = 35 :: r := by simp [show blankB 35 = false by decide]
 rw [skipL_go (l := 35 :: r) (by rw [hb]; simp [Lib.hasPrefix]),hb]
theorem skipL_self {l : Bytes} (h1 : l ≠ [] → blankB (l.getD 0 0) = false) (h2 : l ≠ [] → (l.getD 0 0).toNat ≠ 35) : skipL l = l := by
 cases l with
 | nil => decide
 | cons c r =>
  have hb := h1 (by simp)
  have hh := h2 (by simp)
  simp at hb hh
  have e : (c :: r).dropWhile blankB = c :: r := by simp [hb]
  rw [skipL_stop,e]
  rw [e]
  intro hp
  simp [Lib.hasPrefix] at hp
  apply hh
  rw [← hp]; rfl
theorem lexR_skip {f g : Nat} {l m : Bytes} {a b : Nat} (hs : skipL l = skipL m) (hl : m.length ≤ l.length) (hab : b = a + (l.length - m.length)) (hf : l.length < f) (hg : m.length < g) : lexR f l a = lexR g m b := by
 have hm := skipL_le m
 have e1 : a + (l.length - (skipL l).length) = b + (m.length - (skipL m).length) := by rw [hs]; omega
 rw [lexR_fuel f (l.length + 1) l a hf (by omega),lexR_fuel g (l.length + 1) m b hg (by omega)]
 simp only [lexR]
 rw [hs] at e1 ⊢
 rw [e1]
theorem firstT_semi {l : Bytes} (hne : l ≠ []) (h : (l.getD 0 0).toNat = 59) : firstT l = (⟨3,[59],0,0⟩,true) := by
 unfold firstT
 rw [if_neg hne,if_pos h]
 cases l with
 | nil => exact absurd rfl hne
 | cons c r =>
  simp at h
  have hc : c = 59 := by apply UInt8.toNat_inj.1; simpa using h
  subst hc; rfl
theorem firstT_word {l : Bytes} (hne : l ≠ []) (h : (l.getD 0 0).toNat ≠ 59) (hw : kwB (l.takeWhile partB) = true ∨ nameB (l.takeWhile partB) = true) : firstT l = (⟨1,l.takeWhile partB,0,0⟩,true) := by
 unfold firstT
 rw [if_neg hne,if_neg h]
 have hn : numI (l.takeWhile partB) = -1 := by rcases hw with hw | hw; exact kw_num hw; exact name_num hw
 simp only []
 rw [hn,if_neg (by omega)]
 have : (kwB (l.takeWhile partB) || nameB (l.takeWhile partB)) = true := by rw [Bool.or_eq_true]; exact hw
 rw [this]
theorem firstT_num {l : Bytes} (hne : l ≠ []) (h : (l.getD 0 0).toNat ≠ 59) (hn : 0 ≤ numI (l.takeWhile partB)) : firstT l = (⟨2,l.takeWhile partB,numI (l.takeWhile partB),0⟩,true) := by
 unfold firstT
 rw [if_neg hne,if_neg h]
 simp only []
 rw [if_pos hn]
theorem firstT_none {l : Bytes} (hne : l ≠ []) (h : (l.getD 0 0).toNat ≠ 59) (h1 : kwB (l.takeWhile partB) = false) (h2 : nameB (l.takeWhile partB) = false) (hn : ¬ 0 ≤ numI (l.takeWhile partB)) : (firstT l).2 = false := by
 unfold firstT
 rw [if_neg hne,if_neg h]
 simp only []
 rw [if_neg hn,h1,h2]; rfl

end Go.Bk
/-
  TOKENS AS CELLS.
-/
namespace Go.Bk
open Go

def tokCells (t : Tok) : List Value := [.int .i64 t.kind,.string (bs t.text),.int .i64 t.n,.int .i64 t.at']
theorem tokCells_len (t : Tok) : (tokCells t).length = 4 := rfl
end Go.Bk
/-
  LEX, PLAIN, THIRD PART: what the statements' own helpers compute. No program here.
-/
namespace Go.Bk

def pickN (c : Int) (n : Nat) : Nat := ((if c < 0 then -(c + 1) else c) % (n : Int)).toNat
theorem pickN_lt (c : Int) {n : Nat} (h : 0 < n) : pickN c n < n := by
 unfold pickN
 have h1 := Int.emod_lt_of_pos (if c < 0 then -(c + 1) else c) (show (0 : Int) < (n : Int) by omega)
 have h2 := Int.emod_nonneg (if c < 0 then -(c + 1) else c) (show (n : Int) ≠ 0 by omega)
 omega
theorem pickN_neg {c : Int} {n : Nat} (hn : 0 < n) (h : c < 0) : ((pickN c n : Nat) : Int) = -(c + 1) % (n : Int) := by
 unfold pickN
 rw [if_pos h]
 have := Int.emod_nonneg (-(c + 1)) (show (n : Int) ≠ 0 by omega)
 omega
theorem pickN_nat {c : Int} {n : Nat} (hn : 0 < n) (h : ¬ c < 0) : ((pickN c n : Nat) : Int) = c % (n : Int) := by
 unfold pickN
 rw [if_neg h]
 have := Int.emod_nonneg c (show (n : Int) ≠ 0 by omega)
 omega
def blankList : List Bytes := [[32],[32,32],[9],[10],[32,10,10],[32,35,32,120,59,10],[10,35,10,9]]
def numC (l : Bytes) : Int := if l = [] ∨ 5 < l.length ∨ (1 < l.length ∧ (l.getD 0 0).toNat = 48) ∨ l.all digitB = false then -1 else if 65535 < digVal l then -1 else ((digVal l : Nat) : Int)
theorem numI_eq (l : Bytes) : numI l = numC l := by
 unfold numC
 split
 ·rename_i h
  rcases h with h | h | h | h
  ·subst h; rfl
  ·exact numI_long h
  ·exact numI_zero h.1 h.2
  ·apply Classical.byContradiction
   intro hn
   obtain ⟨u,_,_,e⟩ := numI_form hn
   have : l.all digitB = true := List.all_eq_true.2 (by rw [e]; exact decDigits_digit u)
   rw [h] at this; cases this
 ·rename_i h
  simp only [not_or] at h
  obtain ⟨h1,h2,h3,h4⟩ := h
  exact numI_digits (List.all_eq_true.1 (by simpa using h4)) h1 (by omega) (fun h => by intro h'; exact h3 ⟨h,h'⟩)
def firstC (l : Bytes) : Tok × Bool :=
 if l = [] then (⟨4,[],0,0⟩,true)
 else if (l.getD 0 0).toNat = 59 then (⟨3,l.take 1,0,0⟩,true)
 else
  let x := l.takeWhile partB
  if 0 ≤ numC x then (⟨2,x,numC x,0⟩,true) else (⟨1,x,0,0⟩,kwB x || nameB x)
theorem firstT_eq (l : Bytes) : firstT l = firstC l := by
 unfold firstT firstC
 simp only [numI_eq]
def lexRC : Nat → Bytes → Nat → LexOut
 | 0,_,a => ([],21,a)
 | f + 1,r,a =>
  if (firstC (skipL r)).2 = false then ([],21,((a + (r.length - (skipL r).length) : Nat) : Int))
  else if (firstC (skipL r)).1.kind = 4 then ([{ (firstC (skipL r)).1 with at' := ((a + (r.length - (skipL r).length) : Nat) : Int) }],0,0)
  else
   let x := lexRC f ((skipL r).drop (firstC (skipL r)).1.text.length) (a + (r.length - (skipL r).length) + (firstC (skipL r)).1.text.length)
   if x.2.1 = 0 then ({ (firstC (skipL r)).1 with at' := ((a + (r.length - (skipL r).length) : Nat) : Int) } :: x.1,0,0) else ([],x.2.1,x.2.2)
theorem lexRC_eq : ∀ (f : Nat) (r : Bytes) (a : Nat),lexR f r a = lexRC f r a
 | 0,_,_ => rfl
 | f + 1,r,a => by
  simp only [lexR,lexRC]
  rw [firstT_eq,lexRC_eq f]
def lexC (s : Bytes) : LexOut := if 10000 < s.length then ([],20,10000) else lexRC (s.length + 1) s 0
theorem lexT_eq (s : Bytes) : lexT s = lexC s := by
 unfold lexT lexC
 rw [lexRC_eq]

theorem awake4 : nameB [97,116] = false := by decide +kernel
def decC (u : Nat) : Bytes := if u < 10 then [UInt8.ofNat (48 + u)] else [UInt8.ofNat (48 + u / 10),UInt8.ofNat (48 + u % 10)]
theorem decC_eq {u : Nat} (h : u < 100) : Lib.decDigits u = decC u := by
 unfold decC
 by_cases h1 : u < 10
 ·rw [if_pos h1,Lib.decDigits_one h1]
 ·rw [if_neg h1,Lib.decDigits_two h1 h]
structure VarFacts (v : Bytes) : Prop where
 name : nameB v = true
 name0 : nameB (v ++ [48]) = true
 nameM : nameB (v ++ [45]) = true
 nameD : nameB ([48] ++ v) = false
 nameS : nameB (v ++ [32]) = false
 len2 : 2 ≤ v.length
 len7 : v.length ≤ 7
 num : numI v = -1
theorem lexR_len : ∀ (f : Nat) (r : Bytes) (a : Nat),(lexR f r a).1.length ≤ r.length + 1
 | 0,_,_ => by simp [lexR]
 | f + 1,r,a => by
  have hs := skipL_le r
  simp only [lexR]
  split
  ·simp
  ·split
   ·simp
   ·rename_i h1 h2
    have hne := skip_ne h2
    have hp := firstT_pos hne (by simpa using h1)
    have ih := lexR_len f ((skipL r).drop (firstT (skipL r)).1.text.length) (a + (r.length - (skipL r).length) + (firstT (skipL r)).1.text.length)
    rw [List.length_drop] at ih
    have ht := firstT_text (l := skipL r)
    split
    ·simp only [List.length_cons]; omega
    ·simp
theorem lexT_len (s : Bytes) : (lexT s).1.length ≤ 10001 := by
 unfold lexT
 split
 ·simp
 ·have := lexR_len (s.length + 1) s 0
  omega
end Go.Bk
