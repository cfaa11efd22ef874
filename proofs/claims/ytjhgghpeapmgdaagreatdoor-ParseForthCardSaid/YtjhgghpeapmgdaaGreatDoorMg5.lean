/-
  Texts that belong together: LexJoin, ParLex.
-/
import Derived.Test.YtjhgghpeapmgdaaGreatDoorMg1
import Derived.Test.YtjhgghpeapmgdaaGreatDoorParSpec
/-
  LEX, PLAIN, FOURTH PART: what stands further on; what stands behind a line feed; words with blanks between. No program here.
-/
namespace Go.Bk

structure Word (p : Bytes) (t : Tok) : Prop where
 ne : p ≠ []
 blank : blankB (p.getD 0 0) = false
 hash : (p.getD 0 0).toNat ≠ 35
 text : t.text = p
 kind : t.kind ≠ 4
 first : ∀ r : Bytes,(r ≠ [] → partB (r.getD 0 0) = false) → firstT (p ++ r) = (t,true)
theorem part_notblank {c : UInt8} (h : partB c = true) : blankB c = false ∧ c.toNat ≠ 35 ∧ c.toNat ≠ 59 := by
 unfold partB letterB digitB at h
 simp only [Bool.or_eq_true,Bool.and_eq_true,decide_eq_true_eq] at h
 refine ⟨?_,by omega,by omega⟩
 unfold blankB
 simp only [Bool.or_eq_false_iff,decide_eq_false_iff_not]
 omega
theorem takeWhile_all {p : UInt8 → Bool} {l r : Bytes} (hl : ∀ c ∈ l,p c = true) (hr : r ≠ [] → p (r.getD 0 0) = false) : (l ++ r).takeWhile p = l := by
 induction l with
 | nil =>
  cases r with
  | nil => rfl
  | cons d r =>
   have := hr (by simp)
   simp at this
   simp [this]
 | cons c l ih =>
  rw [List.cons_append,List.takeWhile_cons,hl c (by simp)]
  simp only [if_true]
  rw [ih (fun d hd => hl d (by simp [hd]))]
theorem getD_app {p r : Bytes} (h : p ≠ []) : (p ++ r).getD 0 0 = p.getD 0 0 := by
 cases p with
 | nil => exact absurd rfl h
 | cons c p => rfl
theorem word_parts {p : Bytes} (hne : p ≠ []) (hp : ∀ c ∈ p,partB c = true) (hw : kwB p = true ∨ nameB p = true) : Word p ⟨1,p,0,0⟩ := by
 have hh := part_notblank (hp _ (getD_mem (List.length_pos_iff.2 hne)))
 refine ⟨hne,hh.1,hh.2.1,rfl,by simp,fun r hr => ?_⟩
 have ht := takeWhile_all hp hr
 have := firstT_word (l := p ++ r) (by simp [hne]) (by rw [getD_app hne]; exact hh.2.2) (by rw [ht]; exact hw)
 rw [this,ht]
theorem num_parts {p : Bytes} (hne : p ≠ []) (hp : ∀ c ∈ p,partB c = true) (hn : 0 ≤ numI p) : Word p ⟨2,p,numI p,0⟩ := by
 have hh := part_notblank (hp _ (getD_mem (List.length_pos_iff.2 hne)))
 refine ⟨hne,hh.1,hh.2.1,rfl,by simp,fun r hr => ?_⟩
 have ht := takeWhile_all hp hr
 have := firstT_num (l := p ++ r) (by simp [hne]) (by rw [getD_app hne]; exact hh.2.2) (by rw [ht]; exact hn)
 rw [this,ht]
theorem stop_word : Word [59] ⟨3,[59],0,0⟩ :=
 ⟨by simp,by decide,by decide,rfl,by simp,fun r _ => firstT_semi (by simp) (show (59 : UInt8).toNat = 59 by decide)⟩
theorem kw_all : kwList.all (fun p => !p.isEmpty && p.all partB && kwB p) = true := by decide +kernel
theorem digit_part {c : UInt8} (h : digitB c = true) : partB c = true := by
 unfold partB; rw [h]; simp
theorem name_parts {p : Bytes} (h : nameB p = true) : p ≠ [] ∧ ∀ c ∈ p,partB c = true := by
 obtain ⟨h1,_,_,h4,_⟩ := nameB_iff.1 h
 refine ⟨h1,?_⟩
 have e : p.takeWhile partB = p := by rw [← take_runLen,h4,List.take_length]
 intro c hc
 rw [← e] at hc
 exact List.all_eq_true.1 (List.all_takeWhile (p := partB) (l := p)) c hc
theorem lexR_word {p r : Bytes} {t : Tok} {a : Nat} (acc : List Tok) (W : Word p t) (hr : r ≠ [] → partB (r.getD 0 0) = false) :
  comb acc (lexR ((p ++ r).length + 1) (p ++ r) a) = comb (acc ++ [{ t with at' := ((a : Nat) : Int) }]) (lexR (r.length + 1) r (a + p.length)) := by
 have hs : skipL (p ++ r) = p ++ r := skipL_self (fun _ => by rw [getD_app W.ne]; exact W.blank) (fun _ => by rw [getD_app W.ne]; exact W.hash)
 have hf := W.first r hr
 rw [lexR_go acc (by rw [hs,hf]) (by rw [hs,hf]; exact W.kind),hs,hf,Nat.sub_self,Nat.add_zero]
 simp only [W.text,List.drop_left]
theorem blank_all : blankList.all (fun b => !b.isEmpty && !partB (b.getD 0 0)) = true := by decide +kernel
theorem blank_ok {b : Bytes} (h : b ∈ blankList) : b ≠ [] ∧ partB (b.getD 0 0) = false := by
 have := List.all_eq_true.1 blank_all b h
 simpa using this
theorem blank_skip {b : Bytes} (h : b ∈ blankList) (r : Bytes) : skipL (b ++ r) = skipL r := by
 have s1 : blankB 32 = true := by decide
 have s2 : blankB 9 = true := by decide
 have s3 : blankB 10 = true := by decide
 have hash1 : ∀ r : Bytes,skipL (35 :: 32 :: 120 :: 59 :: 10 :: r) = skipL r := by
  intro r
  rw [skipL_hash (by decide)]
  have : (35 :: 32 :: 120 :: 59 :: 10 :: r : Bytes).dropWhile notLineB = 10 :: r := by
   simp [show notLineB 35 = true by decide,show notLineB 32 = true by decide,show notLineB 120 = true by decide,show notLineB 59 = true by decide,show notLineB 10 = false by decide]
  rw [this,skipL_blank s3]
 have hash2 : ∀ r : Bytes,skipL (35 :: 10 :: r) = skipL r := by
  intro r
  rw [skipL_hash (by decide)]
  have : (35 :: 10 :: r : Bytes).dropWhile notLineB = 10 :: r := by
   simp [show notLineB 35 = true by decide,show notLineB 10 = false by decide]
  rw [this,skipL_blank s3]
 simp only [blankList,List.mem_cons,List.not_mem_nil,or_false] at h
 rcases h with rfl | rfl | rfl | rfl | rfl | rfl | rfl <;> simp only [List.cons_append,List.nil_append]
 ·rw [skipL_blank s1]
 ·rw [skipL_blank s1,skipL_blank s1]
 ·rw [skipL_blank s2]
 ·rw [skipL_blank s3]
 ·rw [skipL_blank s1,skipL_blank s3,skipL_blank s3]
 ·rw [skipL_blank s1,hash1]
 ·rw [skipL_blank s3,hash2,skipL_blank s2]
def Pre (s : Bytes) (want : List Tok) : Prop := ∀ r : Bytes,comb [] (lexR ((s ++ r).length + 1) (s ++ r) 0) = comb want (lexR (r.length + 1) r s.length)
theorem Pre.nil : Pre [] [] := fun r => rfl
theorem lexR_blank {b r : Bytes} (h : b ∈ blankList) (a : Nat) : lexR ((b ++ r).length + 1) (b ++ r) a = lexR (r.length + 1) r (a + b.length) :=
 lexR_skip (blank_skip h r) (by simp) (by simp) (by omega) (by omega)
theorem Pre.step {s p b : Bytes} {want : List Tok} {t : Tok} (h : Pre s want) (W : Word p t) (hb : b ∈ blankList) : Pre (s ++ p ++ b) (want ++ [{ t with at' := ((s.length : Nat) : Int) }]) := by
 intro r
 have h1 := h (p ++ (b ++ r))
 have ok := blank_ok hb
 rw [lexR_word want W (fun _ => by rw [getD_app ok.1]; exact ok.2),lexR_blank hb] at h1
 rw [show s ++ p ++ b ++ r = s ++ (p ++ (b ++ r)) by simp,h1]
 congr 2
 simp only [List.length_append]
theorem Pre.lex {s : Bytes} {want : List Tok} (h : Pre s want) (hl : s.length ≤ 10000) : lexT s = (want ++ [⟨4,[],0,((s.length : Nat) : Int)⟩],0,0) := by
 have h1 := h []
 rw [List.append_nil] at h1
 unfold lexT
 rw [if_neg (by omega),← comb_nil (lexR_form (s.length + 1) s 0),h1]
 rfl
def Bad (s : Bytes) (place : Nat) : Prop := ∀ r : Bytes,comb [] (lexR ((s ++ r).length + 1) (s ++ r) 0) = ([],21,((place : Nat) : Int))
structure Wrong (p : Bytes) : Prop where
 ne : p ≠ []
 blank : blankB (p.getD 0 0) = false
 hash : (p.getD 0 0).toNat ≠ 35
 len : p.length ≤ 13
 first : ∀ r : Bytes,(r ≠ [] → partB (r.getD 0 0) = false) → (firstT (p ++ r)).2 = false
theorem Bad.step {s : Bytes} {k : Nat} (h : Bad s k) (q : Bytes) : Bad (s ++ q) k := by
 intro r
 rw [show s ++ q ++ r = s ++ (q ++ r) by simp]
 exact h (q ++ r)
theorem Bad.lex {s : Bytes} {k : Nat} (h : Bad s k) (hl : s.length ≤ 10000) : lexT s = ([],21,((k : Nat) : Int)) := by
 have h1 := h []
 rw [List.append_nil] at h1
 unfold lexT
 rw [if_neg (by omega),← comb_nil (lexR_form (s.length + 1) s 0),h1]
theorem lexR_bounds : ∀ (f : Nat) (r : Bytes) (a : Nat),(∀ t ∈ (lexR f r a).1,(0 : Int) ≤ t.at' ∧ t.at' ≤ ((a + r.length : Nat) : Int)) ∧ 0 ≤ (lexR f r a).2.2 ∧ (lexR f r a).2.2 ≤ ((a + r.length : Nat) : Int)
 | 0,r,a => ⟨fun t h => by simp [lexR] at h,by simp only [lexR]; omega,by simp only [lexR]; omega⟩
 | f + 1,r,a => by
  have hs := skipL_le r
  simp only [lexR]
  by_cases h1 : (firstT (skipL r)).2 = false
  ·rw [if_pos h1]
   exact ⟨fun t h => by simp at h,by simp only; omega,by simp only; omega⟩
  ·rw [if_neg h1]
   by_cases h2 : (firstT (skipL r)).1.kind = 4
   ·rw [if_pos h2]
    refine ⟨fun t h => ?_,by simp only; omega,by simp only; omega⟩
    simp only [List.mem_singleton] at h
    subst h
    simp only
    omega
   ·rw [if_neg h2]
    have ht := firstT_text (l := skipL r)
    obtain ⟨i1,i2,i3⟩ := lexR_bounds f ((skipL r).drop (firstT (skipL r)).1.text.length) (a + (r.length - (skipL r).length) + (firstT (skipL r)).1.text.length)
    rw [List.length_drop] at i1 i3
    split
    ·refine ⟨fun t h => ?_,by simp only; omega,by simp only; omega⟩
     simp only [List.mem_cons] at h
     rcases h with h | h
     ·subst h
      simp only
      omega
     ·have := i1 t h
      omega
    ·exact ⟨fun t h => by simp at h,i2,by simp only; omega⟩
end Go.Bk
/-
  PARSE, PLAIN: what is scanned has an end, and short texts. No program here.
-/
namespace Go.Bk
open Go

theorem lexR_fin : ∀ (f : Nat) (r : Bytes) (a : Nat),(lexR f r a).2.1 = 0 → ∃ t ∈ (lexR f r a).1,t.kind = 4
 | 0,_,_,h => by cases h
 | f + 1,r,a,h => by
  simp only [lexR] at h ⊢
  split at h
  ·cases h
  ·rename_i h1
   rw [if_neg h1]
   split at h
   ·rename_i h2
    rw [if_pos h2]
    exact ⟨_,List.mem_singleton.2 rfl,h2⟩
   ·rename_i h2
    rw [if_neg h2]
    split at h
    ·rename_i h3
     rw [if_pos h3]
     obtain ⟨t,ht,hk⟩ := lexR_fin f _ _ h3
     exact ⟨t,List.mem_cons_of_mem _ ht,hk⟩
    ·rename_i h3
     exact absurd h h3
theorem lexR_txt : ∀ (f : Nat) (r : Bytes) (a : Nat),∀ t ∈ (lexR f r a).1,t.text.length ≤ r.length
 | 0,r,a,t,h => by simp [lexR] at h
 | f + 1,r,a,t,h => by
  have hs := skipL_le r
  have ht := firstT_text (l := skipL r)
  simp only [lexR] at h
  split at h
  ·simp at h
  ·split at h
   ·simp only [List.mem_singleton] at h
    subst h
    simp only
    omega
   ·split at h
    ·rcases List.mem_cons.1 h with h | h
     ·subst h
      simp only
      omega
     ·have := lexR_txt f _ _ t h
      rw [List.length_drop] at this
      omega
    ·simp at h
theorem lexT_in {l : Bytes} (h : (lexT l).2.1 = 0) : PIn ⟨noPlan,(lexT l).1⟩ := by
 refine ⟨?_,lexT_len l,fun t ht => ?_,Nat.zero_le _,Nat.zero_le _,Nat.zero_le _,Nat.zero_le _,fun x hx => by simp [namesL,noPlan] at hx,fun d hd => by simp [noPlan] at hd⟩
 ·unfold lexT at h ⊢
  split at h
  ·cases h
  ·rename_i hn
   simp only [if_neg hn]
   exact lexR_fin _ _ _ h
 ·unfold lexT at ht
  simp only at ht
  split at ht
  ·simp at ht
  ·have := lexR_txt _ _ _ t ht
   omega
end Go.Bk
