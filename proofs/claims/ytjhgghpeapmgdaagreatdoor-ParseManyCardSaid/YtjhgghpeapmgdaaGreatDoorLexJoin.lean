/-
  LEX, PLAIN, FOURTH PART: what stands further on; what stands behind a line feed; words with blanks between. No program here.
-/
import Derived.Test.YtjhgghpeapmgdaaGreatDoorLexLaw
namespace Go.Bk

def shiftT (n : Nat) (t : Tok) : Tok := { t with at' := t.at' + ((n : Nat) : Int) }
def shiftO (n : Nat) (x : LexOut) : LexOut := (x.1.map (shiftT n), x.2.1, if x.2.1 = 0 then x.2.2 else x.2.2 + ((n : Nat) : Int))
theorem lexR_shift (n : Nat) : ∀ (f : Nat) (r : Bytes) (a : Nat), lexR f r (a + n) = shiftO n (lexR f r a)
  | 0, r, a => by simp [lexR, shiftO]
  | f + 1, r, a => by
    simp only [lexR]
    by_cases h1 : (firstT (skipL r)).2 = false
    · rw [if_pos h1, if_pos h1]
      simp only [shiftO, List.map_nil]
      congr 2
      rw [if_neg (by decide)]
      omega
    · rw [if_neg h1, if_neg h1]
      by_cases h2 : (firstT (skipL r)).1.kind = 4
      · rw [if_pos h2, if_pos h2]
        simp only [shiftO, List.map_cons, List.map_nil, shiftT, if_true]
        congr 3
        omega
      · rw [if_neg h2, if_neg h2]
        have ih := lexR_shift n f ((skipL r).drop (firstT (skipL r)).1.text.length) (a + (r.length - (skipL r).length) + (firstT (skipL r)).1.text.length)
        rw [show a + n + (r.length - (skipL r).length) + (firstT (skipL r)).1.text.length = a + (r.length - (skipL r).length) + (firstT (skipL r)).1.text.length + n by omega, ih]
        generalize lexR f ((skipL r).drop (firstT (skipL r)).1.text.length) (a + (r.length - (skipL r).length) + (firstT (skipL r)).1.text.length) = x
        by_cases hx : x.2.1 = 0
        · simp only [shiftO, hx, if_true, List.map_cons, shiftT]
          congr 3
          omega
        · simp only [shiftO, hx, if_false, List.map_nil]
theorem skip_blanks : ∀ (b x : Bytes), (∀ c ∈ b, blankB c = true) → skipL (b ++ x) = skipL x
  | [], x, _ => rfl
  | c :: b, x, h => by
    rw [List.cons_append, skipL_blank (h c (by simp))]
    exact skip_blanks b x (fun d hd => h d (by simp [hd]))
/-- With blanks ahead. -/
theorem lexT_shift {b x : Bytes} (hb : ∀ c ∈ b, blankB c = true) (hl : b.length + x.length ≤ 10000) : lexT (b ++ x) = shiftO b.length (lexT x) := by
  unfold lexT
  rw [if_neg (by rw [List.length_append]; omega), if_neg (by omega)]
  rw [lexR_skip (m := x) (g := x.length + 1) (b := 0 + b.length) (skip_blanks b x hb) (by simp) (by simp) (by omega) (by omega)]
  exact lexR_shift b.length _ x 0

/-! ## Behind a line feed -/
theorem lexR_ne : ∀ (f : Nat) (r : Bytes) (a : Nat), (lexR f r a).2.1 = 0 → (lexR f r a).1 ≠ []
  | 0, _, _, h => by cases h
  | f + 1, r, a, h => by
    simp only [lexR] at h ⊢
    split at h
    · cases h
    · rename_i h1
      rw [if_neg h1]
      split at h
      · rename_i h2
        rw [if_pos h2]; simp
      · rename_i h2
        rw [if_neg h2]
        split at h
        · rename_i h3
          rw [if_pos h3]; simp
        · rename_i h3
          exact absurd h h3
def joinO (x y : LexOut) : LexOut := if x.2.1 ≠ 0 then ([], x.2.1, x.2.2) else if y.2.1 ≠ 0 then ([], y.2.1, y.2.2) else (x.1.dropLast ++ y.1, 0, 0)
theorem dropWhile_app (p : UInt8 → Bool) (d : UInt8) (hd : p d = false) (m : Bytes) : ∀ l : Bytes, (l ++ d :: m).dropWhile p = l.dropWhile p ++ d :: m
  | [] => by simp [hd]
  | c :: l => by
    by_cases h : p c = true
    · simp only [List.cons_append, List.dropWhile_cons, h, if_true]
      exact dropWhile_app p d hd m l
    · simp [h]
theorem takeWhile_app (p : UInt8 → Bool) (d : UInt8) (hd : p d = false) (m : Bytes) : ∀ l : Bytes, (l ++ d :: m).takeWhile p = l.takeWhile p
  | [] => by simp [hd]
  | c :: l => by
    by_cases h : p c = true
    · simp only [List.cons_append, List.takeWhile_cons, h, if_true]
      rw [takeWhile_app p d hd m l]
    · simp [h]
theorem skip_join (m : Bytes) : ∀ (n : Nat) (r : Bytes), r.length ≤ n → skipL (r ++ 10 :: m) = if skipL r = [] then skipL m else skipL r ++ 10 :: m := by
  intro n
  induction n with
  | zero =>
    intro r hr
    have : r = [] := List.length_eq_zero_iff.1 (by omega)
    subst this
    rw [if_pos (by decide), List.nil_append, skipL_blank (by decide)]
  | succ n ih =>
    intro r hr
    cases r with
    | nil => rw [if_pos (by decide), List.nil_append, skipL_blank (by decide)]
    | cons c r =>
      by_cases hb : blankB c = true
      · rw [List.cons_append, skipL_blank hb, skipL_blank hb]
        exact ih r (by simp at hr; omega)
      · by_cases hh : c.toNat = 35
        · rw [List.cons_append, skipL_hash hh, skipL_hash hh, ← List.cons_append, dropWhile_app notLineB 10 (by decide)]
          refine ih _ ?_
          have hc : c = 35 := by apply UInt8.toNat_inj.1; simpa using hh
          subst hc
          have := hash_lt (l := 35 :: r) (by simp [Lib.hasPrefix])
          omega
        · have e1 : skipL (c :: r) = c :: r := skipL_self (fun _ => by simpa using hb) (fun _ => by simpa using hh)
          have e2 : skipL (c :: r ++ 10 :: m) = c :: r ++ 10 :: m := skipL_self (fun _ => by simpa using hb) (fun _ => by simpa using hh)
          rw [e1, e2, if_neg (by simp)]
theorem firstT_else {l : Bytes} (hne : l ≠ []) (h : (l.getD 0 0).toNat ≠ 59) : firstT l = if 0 ≤ numI (l.takeWhile partB) then (⟨2, l.takeWhile partB, numI (l.takeWhile partB), 0⟩, true) else (⟨1, l.takeWhile partB, 0, 0⟩, kwB (l.takeWhile partB) || nameB (l.takeWhile partB)) := by
  unfold firstT
  rw [if_neg hne, if_neg h]
theorem firstT_app {q : Bytes} (hq : q ≠ []) (d : UInt8) (hd : partB d = false) (m : Bytes) : firstT (q ++ d :: m) = firstT q := by
  have hg : (q ++ d :: m).getD 0 0 = q.getD 0 0 := by
    cases q with
    | nil => exact absurd rfl hq
    | cons c q => rfl
  by_cases h : (q.getD 0 0).toNat = 59
  · rw [firstT_semi hq h, firstT_semi (by simp) (by rw [hg]; exact h)]
  · rw [firstT_else hq h, firstT_else (by simp) (by rw [hg]; exact h), takeWhile_app partB d hd]
theorem lexR_join (m : Bytes) : ∀ (f g : Nat) (r : Bytes) (a : Nat), r.length < f → (r ++ 10 :: m).length < g → lexR g (r ++ 10 :: m) a = joinO (lexR f r a) (lexR (m.length + 1) m (a + r.length + 1))
  | 0, _, _, _, h, _ => absurd h (Nat.not_lt_zero _)
  | f + 1, g, r, a, hf, hg => by
    have hsj := skip_join m r.length r (Nat.le_refl _)
    have hsl := skipL_le r
    by_cases he : skipL r = []
    · rw [if_pos he] at hsj
      have e1 : lexR (f + 1) r a = ([⟨4, [], 0, ((a + r.length : Nat) : Int)⟩], 0, 0) := by
        simp only [lexR, he, firstT_nil]
        simp
      rw [lexR_skip (m := m) (g := m.length + 1) (b := a + r.length + 1) hsj (by simp only [List.length_append, List.length_cons]; omega) (by simp only [List.length_append, List.length_cons]; omega) hg (by omega), e1]
      obtain ⟨f1, f2⟩ := lexR_form (m.length + 1) m (a + r.length + 1)
      generalize lexR (m.length + 1) m (a + r.length + 1) = y at f1 f2
      obtain ⟨y1, y2, y3⟩ := y
      simp only at f1 f2
      unfold joinO
      simp only [ne_eq, not_true_eq_false, if_false, List.dropLast_singleton, List.nil_append]
      by_cases hy : y2 = 0
      · simp [hy, f1 hy]
      · simp [hy, f2 hy]
    · rw [if_neg he] at hsj
      have hfa := firstT_app he 10 (by decide) m
      have hk : (firstT (skipL r)).1.kind ≠ 4 := firstT_kind he
      have hpos : (r ++ 10 :: m).length - (skipL r ++ 10 :: m).length = r.length - (skipL r).length := by simp only [List.length_append, List.length_cons]; omega
      cases g with
      | zero => exact absurd hg (Nat.not_lt_zero _)
      | succ g =>
        by_cases h1 : (firstT (skipL r)).2 = false
        · simp only [lexR, hsj, hfa, h1, if_true, hpos]
          simp [joinO]
        · have ht := firstT_text (l := skipL r)
          have hp := firstT_pos he (by simpa using h1)
          have ih := lexR_join m f g ((skipL r).drop (firstT (skipL r)).1.text.length) (a + (r.length - (skipL r).length) + (firstT (skipL r)).1.text.length) (by rw [List.length_drop]; omega) (by
            simp only [List.length_append, List.length_cons, List.length_drop] at hg ⊢; omega)
          have hd : (skipL r ++ 10 :: m).drop (firstT (skipL r)).1.text.length = (skipL r).drop (firstT (skipL r)).1.text.length ++ 10 :: m := List.drop_append_of_le_length ht
          have ha : a + (r.length - (skipL r).length) + (firstT (skipL r)).1.text.length + ((skipL r).drop (firstT (skipL r)).1.text.length).length + 1 = a + r.length + 1 := by rw [List.length_drop]; omega
          rw [ha] at ih
          generalize lexR (m.length + 1) m (a + r.length + 1) = y at ih ⊢
          simp only [lexR]
          rw [hsj, hfa, hpos, if_neg h1, if_neg hk, if_neg h1, if_neg hk, hd, ih]
          have hne := lexR_ne f ((skipL r).drop (firstT (skipL r)).1.text.length) (a + (r.length - (skipL r).length) + (firstT (skipL r)).1.text.length)
          generalize lexR f ((skipL r).drop (firstT (skipL r)).1.text.length) (a + (r.length - (skipL r).length) + (firstT (skipL r)).1.text.length) = x at hne
          obtain ⟨x1, x2, x3⟩ := x
          obtain ⟨y1, y2, y3⟩ := y
          simp only at hne
          by_cases hx : x2 = 0
          · subst hx
            by_cases hy : y2 = 0
            · subst hy
              have := hne rfl
              cases x1 with
              | nil => exact absurd rfl this
              | cons u v => simp [joinO]
            · simp [joinO, hy]
          · simp [joinO, hx]
theorem lexT_join {a m : Bytes} (hl : a.length + m.length + 1 ≤ 10000) : lexT (a ++ 10 :: m) = joinO (lexT a) (shiftO (a.length + 1) (lexT m)) := by
  unfold lexT
  rw [if_neg (by simp only [List.length_append, List.length_cons]; omega), if_neg (by omega), if_neg (by omega), lexR_join m (a.length + 1) ((a ++ 10 :: m).length + 1) a 0 (by omega) (by omega)]
  rw [show 0 + a.length + 1 = 0 + (a.length + 1) by omega, lexR_shift]

/-! ## Words -/
/-- A word: a token's text, told whatever stands behind it that is no part. -/
structure Word (p : Bytes) (t : Tok) : Prop where
  ne : p ≠ []
  blank : blankB (p.getD 0 0) = false
  hash : (p.getD 0 0).toNat ≠ 35
  text : t.text = p
  kind : t.kind ≠ 4
  first : ∀ r : Bytes, (r ≠ [] → partB (r.getD 0 0) = false) → firstT (p ++ r) = (t, true)
theorem part_notblank {c : UInt8} (h : partB c = true) : blankB c = false ∧ c.toNat ≠ 35 ∧ c.toNat ≠ 59 := by
  unfold partB letterB digitB at h
  simp only [Bool.or_eq_true, Bool.and_eq_true, decide_eq_true_eq] at h
  refine ⟨?_, by omega, by omega⟩
  unfold blankB
  simp only [Bool.or_eq_false_iff, decide_eq_false_iff_not]
  omega
theorem takeWhile_all {p : UInt8 → Bool} {l r : Bytes} (hl : ∀ c ∈ l, p c = true) (hr : r ≠ [] → p (r.getD 0 0) = false) : (l ++ r).takeWhile p = l := by
  induction l with
  | nil =>
    cases r with
    | nil => rfl
    | cons d r =>
      have := hr (by simp)
      simp at this
      simp [this]
  | cons c l ih =>
    rw [List.cons_append, List.takeWhile_cons, hl c (by simp)]
    simp only [if_true]
    rw [ih (fun d hd => hl d (by simp [hd]))]
theorem getD_app {p r : Bytes} (h : p ≠ []) : (p ++ r).getD 0 0 = p.getD 0 0 := by
  cases p with
  | nil => exact absurd rfl h
  | cons c p => rfl
theorem word_parts {p : Bytes} (hne : p ≠ []) (hp : ∀ c ∈ p, partB c = true) (hw : kwB p = true ∨ nameB p = true) : Word p ⟨1, p, 0, 0⟩ := by
  have hh := part_notblank (hp _ (getD_mem (List.length_pos_iff.2 hne)))
  refine ⟨hne, hh.1, hh.2.1, rfl, by simp, fun r hr => ?_⟩
  have ht := takeWhile_all hp hr
  have := firstT_word (l := p ++ r) (by simp [hne]) (by rw [getD_app hne]; exact hh.2.2) (by rw [ht]; exact hw)
  rw [this, ht]
theorem num_parts {p : Bytes} (hne : p ≠ []) (hp : ∀ c ∈ p, partB c = true) (hn : 0 ≤ numI p) : Word p ⟨2, p, numI p, 0⟩ := by
  have hh := part_notblank (hp _ (getD_mem (List.length_pos_iff.2 hne)))
  refine ⟨hne, hh.1, hh.2.1, rfl, by simp, fun r hr => ?_⟩
  have ht := takeWhile_all hp hr
  have := firstT_num (l := p ++ r) (by simp [hne]) (by rw [getD_app hne]; exact hh.2.2) (by rw [ht]; exact hn)
  rw [this, ht]
theorem stop_word : Word [59] ⟨3, [59], 0, 0⟩ :=
  ⟨by simp, by decide, by decide, rfl, by simp, fun r _ => firstT_semi (by simp) (show (59 : UInt8).toNat = 59 by decide)⟩
theorem kw_all : kwList.all (fun p => !p.isEmpty && p.all partB && kwB p) = true := by decide +kernel
theorem digit_part {c : UInt8} (h : digitB c = true) : partB c = true := by
  unfold partB; rw [h]; simp
theorem name_parts {p : Bytes} (h : nameB p = true) : p ≠ [] ∧ ∀ c ∈ p, partB c = true := by
  obtain ⟨h1, _, _, h4, _⟩ := nameB_iff.1 h
  refine ⟨h1, ?_⟩
  have e : p.takeWhile partB = p := by rw [← take_runLen, h4, List.take_length]
  intro c hc
  rw [← e] at hc
  exact List.all_eq_true.1 (List.all_takeWhile (p := partB) (l := p)) c hc
def pieceTok (kind n : Int) : Tok := ⟨if pickN kind 4 = 1 then 3 else if pickN kind 4 = 2 then 2 else 1, pieceT kind n, if pickN kind 4 = 2 then ((pickN n 65536 : Nat) : Int) else 0, 0⟩
theorem pieceTok1 {kind n k : Int} (h : pickN kind 4 = 1) : { pieceTok kind n with at' := k } = (⟨3, pieceT kind n, 0, k⟩ : Tok) := by unfold pieceTok; simp [h]
theorem pieceTok2 {kind n k : Int} (h : pickN kind 4 = 2) : { pieceTok kind n with at' := k } = (⟨2, pieceT kind n, ((pickN n 65536 : Nat) : Int), k⟩ : Tok) := by unfold pieceTok; simp [h]
theorem pieceTok0 {kind n k : Int} (h1 : ¬ pickN kind 4 = 1) (h2 : ¬ pickN kind 4 = 2) : { pieceTok kind n with at' := k } = (⟨1, pieceT kind n, 0, k⟩ : Tok) := by unfold pieceTok; simp [h1, h2]
theorem piece_word (kind n : Int) : Word (pieceT kind n) (pieceTok kind n) := by
  unfold pieceTok pieceT
  have hk := pickN_lt kind (show 0 < 4 by decide)
  by_cases h0 : pickN kind 4 = 0
  · simp only [h0, if_true]
    have hm : kwList.getD (pickN n 13) [] ∈ kwList := by
      have := pickN_lt n (show 0 < 13 by decide)
      rw [List.getD_eq_getElem?_getD, List.getElem?_eq_getElem (by exact this)]
      exact List.getElem_mem _
    have := List.all_eq_true.1 kw_all _ hm
    simp only [Bool.and_eq_true, Bool.not_eq_true', List.isEmpty_eq_false_iff, List.all_eq_true] at this
    exact word_parts this.1.1 this.1.2 (.inl this.2)
  · by_cases h1 : pickN kind 4 = 1
    · simp only [h1, if_true]
      exact stop_word
    · by_cases h2 : pickN kind 4 = 2
      · simp only [h2, if_true]
        have := pickN_lt n (show 0 < 65536 by decide)
        have hn := numI_dec (u := pickN n 65536) (by omega)
        have h := num_parts (decDigits_ne (pickN n 65536)) (fun c hc => digit_part (decDigits_digit _ c hc)) (by rw [hn]; omega)
        rw [hn] at h
        exact h
      · simp only [h0, h1, h2, if_false]
        have V := var_facts n
        have := name_parts V.name
        exact word_parts this.1 this.2 (.inr V.name)
theorem lexR_word {p r : Bytes} {t : Tok} {a : Nat} (acc : List Tok) (W : Word p t) (hr : r ≠ [] → partB (r.getD 0 0) = false) :
    comb acc (lexR ((p ++ r).length + 1) (p ++ r) a) = comb (acc ++ [{ t with at' := ((a : Nat) : Int) }]) (lexR (r.length + 1) r (a + p.length)) := by
  have hs : skipL (p ++ r) = p ++ r := skipL_self (fun _ => by rw [getD_app W.ne]; exact W.blank) (fun _ => by rw [getD_app W.ne]; exact W.hash)
  have hf := W.first r hr
  rw [lexR_go acc (by rw [hs, hf]) (by rw [hs, hf]; exact W.kind), hs, hf, Nat.sub_self, Nat.add_zero]
  simp only [W.text, List.drop_left]
theorem blank_all : blankList.all (fun b => !b.isEmpty && !partB (b.getD 0 0)) = true := by decide +kernel
theorem blank_mem (l : List Int) (i : Nat) : blankT l i ∈ blankList := by
  unfold blankT
  split
  · decide
  · have := pickN_lt (l.getD i 0) (show 0 < 7 by decide)
    rw [List.getD_eq_getElem?_getD (l := blankList), List.getElem?_eq_getElem (by exact this)]
    exact List.getElem_mem _
theorem blank_ok {b : Bytes} (h : b ∈ blankList) : b ≠ [] ∧ partB (b.getD 0 0) = false := by
  have := List.all_eq_true.1 blank_all b h
  simpa using this
theorem blank_skip {b : Bytes} (h : b ∈ blankList) (r : Bytes) : skipL (b ++ r) = skipL r := by
  have s1 : blankB 32 = true := by decide
  have s2 : blankB 9 = true := by decide
  have s3 : blankB 10 = true := by decide
  have hash1 : ∀ r : Bytes, skipL (35 :: 32 :: 120 :: 59 :: 10 :: r) = skipL r := by
    intro r
    rw [skipL_hash (by decide)]
    have : (35 :: 32 :: 120 :: 59 :: 10 :: r : Bytes).dropWhile notLineB = 10 :: r := by
      simp [show notLineB 35 = true by decide, show notLineB 32 = true by decide, show notLineB 120 = true by decide, show notLineB 59 = true by decide, show notLineB 10 = false by decide]
    rw [this, skipL_blank s3]
  have hash2 : ∀ r : Bytes, skipL (35 :: 10 :: r) = skipL r := by
    intro r
    rw [skipL_hash (by decide)]
    have : (35 :: 10 :: r : Bytes).dropWhile notLineB = 10 :: r := by
      simp [show notLineB 35 = true by decide, show notLineB 10 = false by decide]
    rw [this, skipL_blank s3]
  simp only [blankList, List.mem_cons, List.not_mem_nil, or_false] at h
  rcases h with rfl | rfl | rfl | rfl | rfl | rfl | rfl <;> simp only [List.cons_append, List.nil_append]
  · rw [skipL_blank s1]
  · rw [skipL_blank s1, skipL_blank s1]
  · rw [skipL_blank s2]
  · rw [skipL_blank s3]
  · rw [skipL_blank s1, skipL_blank s3, skipL_blank s3]
  · rw [skipL_blank s1, hash1]
  · rw [skipL_blank s3, hash2, skipL_blank s2]
/-- What a text of words comes to, whatever stands behind it. -/
def Pre (s : Bytes) (want : List Tok) : Prop := ∀ r : Bytes, comb [] (lexR ((s ++ r).length + 1) (s ++ r) 0) = comb want (lexR (r.length + 1) r s.length)
theorem Pre.nil : Pre [] [] := fun r => rfl
theorem lexR_blank {b r : Bytes} (h : b ∈ blankList) (a : Nat) : lexR ((b ++ r).length + 1) (b ++ r) a = lexR (r.length + 1) r (a + b.length) :=
  lexR_skip (blank_skip h r) (by simp) (by simp) (by omega) (by omega)
theorem Pre.step {s p b : Bytes} {want : List Tok} {t : Tok} (h : Pre s want) (W : Word p t) (hb : b ∈ blankList) : Pre (s ++ p ++ b) (want ++ [{ t with at' := ((s.length : Nat) : Int) }]) := by
  intro r
  have h1 := h (p ++ (b ++ r))
  have ok := blank_ok hb
  rw [lexR_word want W (fun _ => by rw [getD_app ok.1]; exact ok.2), lexR_blank hb] at h1
  rw [show s ++ p ++ b ++ r = s ++ (p ++ (b ++ r)) by simp, h1]
  congr 2
  simp only [List.length_append]
theorem Pre.lex {s : Bytes} {want : List Tok} (h : Pre s want) (hl : s.length ≤ 10000) : lexT s = (want ++ [⟨4, [], 0, ((s.length : Nat) : Int)⟩], 0, 0) := by
  have h1 := h []
  rw [List.append_nil] at h1
  unfold lexT
  rw [if_neg (by omega), ← comb_nil (lexR_form (s.length + 1) s 0), h1]
  rfl
/-- What a text comes to that has a wrong byte, whatever stands behind it. -/
def Bad (s : Bytes) (place : Nat) : Prop := ∀ r : Bytes, comb [] (lexR ((s ++ r).length + 1) (s ++ r) 0) = ([], 21, ((place : Nat) : Int))
def badList : List Bytes := [[64], [13], [61], [49, 97], [48, 48], [54, 53, 53, 51, 54], [45, 97], [95], [97, 98, 99, 100, 101, 102, 103, 104, 105, 106, 107, 108, 109], [0], [57, 45, 57]]
def badOk (p : Bytes) : Bool :=
  !p.isEmpty && !blankB (p.getD 0 0) && decide ((p.getD 0 0).toNat ≠ 35) && decide ((p.getD 0 0).toNat ≠ 59) && (!partB (p.getD 0 0) || (p.all partB && decide (numC p = -1) && !kwB p && !nameB p)) && decide (p.length ≤ 13)
theorem bad_all : badList.all badOk = true := by decide +kernel
structure Wrong (p : Bytes) : Prop where
  ne : p ≠ []
  blank : blankB (p.getD 0 0) = false
  hash : (p.getD 0 0).toNat ≠ 35
  len : p.length ≤ 13
  first : ∀ r : Bytes, (r ≠ [] → partB (r.getD 0 0) = false) → (firstT (p ++ r)).2 = false
theorem wrong_of {p : Bytes} (h : p ∈ badList) : Wrong p := by
  have := List.all_eq_true.1 bad_all p h
  unfold badOk at this
  simp only [Bool.and_eq_true, Bool.or_eq_true, Bool.not_eq_true', decide_eq_true_eq, List.isEmpty_eq_false_iff] at this
  obtain ⟨⟨⟨⟨⟨h1, h2⟩, h3⟩, h4⟩, h5⟩, h6⟩ := this
  refine ⟨h1, h2, h3, h6, fun r hr => ?_⟩
  rcases h5 with h5 | ⟨⟨⟨h5, h7⟩, h8⟩, h9⟩
  · have ht : (p ++ r).takeWhile partB = [] := by
      cases p with
      | nil => exact absurd rfl h1
      | cons c p => simp at h5; simp [h5]
    exact firstT_none (by simp [h1]) (by rw [getD_app h1]; exact h4) (by rw [ht]; exact kwB_nil) (by rw [ht]; exact nameB_nil) (by rw [ht, numI_nil]; decide)
  · have ht := takeWhile_all (List.all_eq_true.1 h5) hr
    exact firstT_none (by simp [h1]) (by rw [getD_app h1]; exact h4) (by rw [ht]; exact h8) (by rw [ht]; exact h9) (by rw [ht, numI_eq, h7]; decide)
theorem Pre.bad {s p : Bytes} {want : List Tok} (h : Pre s want) (W : Wrong p) (q : Bytes) (hq : q ≠ [] → partB (q.getD 0 0) = false) : comb [] (lexR ((s ++ (p ++ q)).length + 1) (s ++ (p ++ q)) 0) = ([], 21, ((s.length : Nat) : Int)) := by
  rw [h (p ++ q)]
  have hs : skipL (p ++ q) = p ++ q := skipL_self (fun _ => by rw [getD_app W.ne]; exact W.blank) (fun _ => by rw [getD_app W.ne]; exact W.hash)
  rw [lexR_bad (by rw [hs]; exact W.first q hq), hs, Nat.sub_self, Nat.add_zero]
  rfl
theorem Pre.badStep {s p : Bytes} {want : List Tok} (h : Pre s want) (W : Wrong p) : Bad (s ++ p ++ [32]) s.length := by
  intro r
  have := h.bad W (32 :: r) (fun _ => show partB 32 = false by decide)
  rw [show s ++ p ++ [32] ++ r = s ++ (p ++ 32 :: r) by simp]
  exact this
theorem Bad.step {s : Bytes} {k : Nat} (h : Bad s k) (q : Bytes) : Bad (s ++ q) k := by
  intro r
  rw [show s ++ q ++ r = s ++ (q ++ r) by simp]
  exact h (q ++ r)
theorem Bad.lex {s : Bytes} {k : Nat} (h : Bad s k) (hl : s.length ≤ 10000) : lexT s = ([], 21, ((k : Nat) : Int)) := by
  have h1 := h []
  rw [List.append_nil] at h1
  unfold lexT
  rw [if_neg (by omega), ← comb_nil (lexR_form (s.length + 1) s 0), h1]
theorem Pre.badEnd {s p : Bytes} {want : List Tok} (h : Pre s want) (W : Wrong p) (hl : s.length + p.length ≤ 10000) : lexT (s ++ p) = ([], 21, ((s.length : Nat) : Int)) := by
  have h1 := h.bad W [] (fun h => absurd rfl h)
  rw [List.append_nil] at h1
  unfold lexT
  rw [if_neg (by rw [List.length_append]; omega), ← comb_nil (lexR_form ((s ++ p).length + 1) (s ++ p) 0), h1]

/-! ## Bounds -/
theorem lexR_bounds : ∀ (f : Nat) (r : Bytes) (a : Nat), (∀ t ∈ (lexR f r a).1, (0 : Int) ≤ t.at' ∧ t.at' ≤ ((a + r.length : Nat) : Int)) ∧ 0 ≤ (lexR f r a).2.2 ∧ (lexR f r a).2.2 ≤ ((a + r.length : Nat) : Int)
  | 0, r, a => ⟨fun t h => by simp [lexR] at h, by simp only [lexR]; omega, by simp only [lexR]; omega⟩
  | f + 1, r, a => by
    have hs := skipL_le r
    simp only [lexR]
    by_cases h1 : (firstT (skipL r)).2 = false
    · rw [if_pos h1]
      exact ⟨fun t h => by simp at h, by simp only; omega, by simp only; omega⟩
    · rw [if_neg h1]
      by_cases h2 : (firstT (skipL r)).1.kind = 4
      · rw [if_pos h2]
        refine ⟨fun t h => ?_, by simp only; omega, by simp only; omega⟩
        simp only [List.mem_singleton] at h
        subst h
        simp only
        omega
      · rw [if_neg h2]
        have ht := firstT_text (l := skipL r)
        obtain ⟨i1, i2, i3⟩ := lexR_bounds f ((skipL r).drop (firstT (skipL r)).1.text.length) (a + (r.length - (skipL r).length) + (firstT (skipL r)).1.text.length)
        rw [List.length_drop] at i1 i3
        split
        · refine ⟨fun t h => ?_, by simp only; omega, by simp only; omega⟩
          simp only [List.mem_cons] at h
          rcases h with h | h
          · subst h
            simp only
            omega
          · have := i1 t h
            omega
        · exact ⟨fun t h => by simp at h, i2, by simp only; omega⟩
theorem lexT_bounds (s : Bytes) : (∀ t ∈ (lexT s).1, (0 : Int) ≤ t.at' ∧ t.at' ≤ 10000) ∧ 0 ≤ (lexT s).2.2 ∧ (lexT s).2.2 ≤ 10000 := by
  unfold lexT
  split
  · exact ⟨fun t h => by simp at h, by simp, by simp⟩
  · obtain ⟨h1, h2, h3⟩ := lexR_bounds (s.length + 1) s 0
    exact ⟨fun t h => by have := h1 t h; omega, h2, by omega⟩
theorem tokGet {α : Type} {d : α} {xs : List α} {i : Nat} (h : i < xs.length) : xs.getD i d ∈ xs := by
  rw [List.getD_eq_getElem?_getD, List.getElem?_eq_getElem h]
  exact List.getElem_mem _
theorem mapGet {α : Type} {d : α} {f : α → α} {xs : List α} {i : Nat} (h : i < xs.length) : (xs.map f).getD i d = f (xs.getD i d) := by
  rw [List.getD_eq_getElem?_getD, List.getD_eq_getElem?_getD, List.getElem?_map, List.getElem?_eq_getElem h]
  rfl
theorem appGetL {α : Type} {d : α} {xs ys : List α} {i : Nat} (h : i < xs.length) : (xs ++ ys).getD i d = xs.getD i d := by
  rw [List.getD_eq_getElem?_getD, List.getD_eq_getElem?_getD, List.getElem?_append_left h]
theorem appGetR {α : Type} {d : α} {xs ys : List α} {i : Nat} : (xs ++ ys).getD (xs.length + i) d = ys.getD i d := by
  rw [List.getD_eq_getElem?_getD, List.getD_eq_getElem?_getD, List.getElem?_append_right (by omega), Nat.add_sub_cancel_left]
theorem dropLastGet {α : Type} {d : α} {xs : List α} {i : Nat} (h : i + 1 < xs.length) : xs.dropLast.getD i d = xs.getD i d := by
  rw [List.getD_eq_getElem?_getD, List.getD_eq_getElem?_getD, List.dropLast_eq_take, List.getElem?_take, if_pos (by omega)]
end Go.Bk
