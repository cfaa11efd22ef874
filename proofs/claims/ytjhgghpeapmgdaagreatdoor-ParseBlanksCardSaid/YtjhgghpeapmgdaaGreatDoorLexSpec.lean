/-
  LEX, PLAIN: what the lexer's functions compute, on lists of bytes. No program here.
-/
import Derived.Lib.ItoaNum
import Derived.Lib.AtoiAll
import Derived.Lib.SlicesS
import Derived.Lib.Strings
namespace Go.Bk

abbrev Bytes := List UInt8
def letterB (c : UInt8) : Bool := (decide ((97 : Int) ≤ ((c.toNat : Nat) : Int)) && decide (((c.toNat : Nat) : Int) ≤ 122)) || (decide ((65 : Int) ≤ ((c.toNat : Nat) : Int)) && decide (((c.toNat : Nat) : Int) ≤ 90))
def digitB (c : UInt8) : Bool := decide ((48 : Int) ≤ ((c.toNat : Nat) : Int)) && decide (((c.toNat : Nat) : Int) ≤ 57)
def partB (c : UInt8) : Bool := ((letterB c || digitB c) || decide (((c.toNat : Nat) : Int) = 45)) || decide (((c.toNat : Nat) : Int) = 95)
def blankB (c : UInt8) : Bool := (decide (((c.toNat : Nat) : Int) = 32) || decide (((c.toNat : Nat) : Int) = 9)) || decide (((c.toNat : Nat) : Int) = 10)
def notLineB (c : UInt8) : Bool := !decide (((c.toNat : Nat) : Int) = 10)
def runLen (p : UInt8 → Bool) (l : Bytes) : Nat := (l.takeWhile p).length
theorem runLen_hit (p : UInt8 → Bool) (l : Bytes) (k : Nat) (hk : k < l.length) (hall : ∀ j,j < k → p (l.getD j 0) = true) (h : p (l.getD k 0) = false) : runLen p l = k := by
 induction l generalizing k with
 | nil => simp at hk
 | cons c r ih =>
  unfold runLen
  cases k with
  | zero => simp at h; simp [h]
  | succ k =>
   have h0 := hall 0 (by omega)
   simp at h0
   simp only [List.takeWhile_cons,h0,if_true,List.length_cons]
   have := ih k (by simpa using hk) (fun j hj => by have := hall (j + 1) (by omega); simpa using this) (by simpa using h)
   unfold runLen at this; rw [this]
theorem runLen_all (p : UInt8 → Bool) (l : Bytes) (hall : ∀ j,j < l.length → p (l.getD j 0) = true) : runLen p l = l.length := by
 induction l with
 | nil => rfl
 | cons c r ih =>
  unfold runLen
  have h0 := hall 0 (by simp)
  simp at h0
  simp only [List.takeWhile_cons,h0,if_true,List.length_cons]
  have := ih (fun j hj => by have := hall (j + 1) (by simpa using hj); simpa using this)
  unfold runLen at this; rw [this]
theorem runLen_le (p : UInt8 → Bool) (l : Bytes) : runLen p l ≤ l.length := by
 unfold runLen
 exact List.Sublist.length_le (List.takeWhile_sublist p)
theorem drop_runLen (p : UInt8 → Bool) (l : Bytes) : l.drop (runLen p l) = l.dropWhile p := by
 unfold runLen
 induction l with
 | nil => rfl
 | cons c r ih =>
  by_cases h : p c = true
  ·simp [h,ih]
  ·simp [h]
theorem take_runLen (p : UInt8 → Bool) (l : Bytes) : l.take (runLen p l) = l.takeWhile p := by
 unfold runLen
 induction l with
 | nil => rfl
 | cons c r ih =>
  by_cases h : p c = true
  ·simp [h,ih]
  ·simp [h]

def kwList : List Bytes := [[112,114,111,116,111,99,111,108],[118,101,99,116,111,114],[112,97,116,104],[102,97,105,108,117,114,101,115],[110,111,100,101],[108,105,110,107],[100,101,115,116],[97,116],[99,104,101,99,107],[114,101,97,99,104],[119,105,116,104,105,110],[119,97,121,112,111,105,110,116],[101,113,117,97,108]]
def kwB (l : Bytes) : Bool := decide (l ∈ kwList)
def nameB (l : Bytes) : Bool := ((((!decide (l = [])) && decide (((l.length : Nat) : Int) ≤ 12)) && letterB (l.getD 0 0)) && decide (((runLen partB l : Nat) : Int) = ((l.length : Nat) : Int))) && !kwB l
def numI (l : Bytes) : Int :=
 match Lib.atoiAll l with
 | .ok n => if n < 0 ∨ 65535 < n ∨ Lib.itoa n ≠ l then -1 else n
 | _ => -1

def skipF : Nat → Bytes → Bytes
 | 0,l => l
 | f + 1,l => if Lib.hasPrefix (l.dropWhile blankB) [35] = true then skipF f ((l.dropWhile blankB).dropWhile notLineB) else l.dropWhile blankB
theorem dropWhile_le (p : UInt8 → Bool) (l : Bytes) : (l.dropWhile p).length ≤ l.length := List.Sublist.length_le (List.dropWhile_sublist p)
theorem hash_lt {l : Bytes} (h : Lib.hasPrefix l [35] = true) : (l.dropWhile notLineB).length < l.length := by
 cases l with
 | nil => simp [Lib.hasPrefix] at h
 | cons c r =>
  simp [Lib.hasPrefix] at h
  subst h
  have : notLineB 35 = true := by decide
  simp only [List.dropWhile_cons,this,if_true,List.length_cons]
  have := dropWhile_le notLineB r
  omega
theorem skipF_fuel : ∀ (f g : Nat) (l : Bytes),l.length < f → l.length < g → skipF f l = skipF g l
 | 0,_,_,h,_ => absurd h (Nat.not_lt_zero _)
 | _ + 1,0,_,_,h => absurd h (Nat.not_lt_zero _)
 | f + 1,g + 1,l,hf,hg => by
  simp only [skipF]
  split
  ·rename_i h
   have h1 := hash_lt h
   have h2 := dropWhile_le blankB l
   exact skipF_fuel f g _ (by omega) (by omega)
  ·rfl
def skipL (l : Bytes) : Bytes := skipF (l.length + 1) l
theorem skipL_stop {l : Bytes} (h : ¬ Lib.hasPrefix (l.dropWhile blankB) [35] = true) : skipL l = l.dropWhile blankB := by
 unfold skipL
 simp only [skipF,if_neg h]
theorem skipL_go {l : Bytes} (h : Lib.hasPrefix (l.dropWhile blankB) [35] = true) : skipL l = skipL ((l.dropWhile blankB).dropWhile notLineB) := by
 have h1 := hash_lt h
 have h2 := dropWhile_le blankB l
 unfold skipL
 rw [skipF,if_pos h]
 exact skipF_fuel _ _ _ (by omega) (by omega)
theorem skipF_le : ∀ (f : Nat) (l : Bytes),(skipF f l).length ≤ l.length
 | 0,l => Nat.le_refl _
 | f + 1,l => by
  simp only [skipF]
  split
  ·exact Nat.le_trans (skipF_le f _) (Nat.le_trans (dropWhile_le _ _) (dropWhile_le _ _))
  ·exact dropWhile_le _ _
theorem skipL_le (l : Bytes) : (skipL l).length ≤ l.length := skipF_le _ _
structure Tok where
 kind : Int
 text : Bytes
 n : Int
 at' : Int
 deriving DecidableEq
def firstT (l : Bytes) : Tok × Bool :=
 if l = [] then (⟨4,[],0,0⟩,true)
 else if (l.getD 0 0).toNat = 59 then (⟨3,l.take 1,0,0⟩,true)
 else
  let x := l.takeWhile partB
  if 0 ≤ numI x then (⟨2,x,numI x,0⟩,true) else (⟨1,x,0,0⟩,kwB x || nameB x)


theorem firstT_nil : firstT [] = (⟨4,[],0,0⟩,true) := rfl
theorem firstT_text {l : Bytes} : (firstT l).1.text.length ≤ l.length := by
 unfold firstT
 split
 ·simp
 ·split
  ·simp only [List.length_take]; omega
  ·simp only []
   have : (l.takeWhile partB).length ≤ l.length := runLen_le partB l
   split <;> exact this
theorem firstT_pos {l : Bytes} (h : l ≠ []) (hok : (firstT l).2 = true) : 1 ≤ (firstT l).1.text.length := by
 have hp : 0 < l.length := List.length_pos_iff.2 h
 unfold firstT at hok ⊢
 rw [if_neg h] at hok ⊢
 split
 ·simp only [List.length_take]; omega
 ·rename_i h1
  rw [if_neg h1] at hok
  simp only [] at hok ⊢
  have key : l.takeWhile partB ≠ [] := by
   intro e
   rw [e] at hok
   revert hok
   decide
  split <;> exact List.length_pos_iff.2 key
theorem drop_suffix : ∀ (p : UInt8 → Bool) (l : Bytes),l.dropWhile p = l.drop (l.length - (l.dropWhile p).length)
 | p,[] => rfl
 | p,c :: r => by
  by_cases h : p c = true
  ·simp only [List.dropWhile_cons,h,if_true,List.length_cons]
   have := drop_suffix p r
   have hl := dropWhile_le p r
   rw [show r.length + 1 - (r.dropWhile p).length = (r.length - (r.dropWhile p).length) + 1 by omega,List.drop_succ_cons]
   exact this
  ·simp [h]
theorem skipF_suffix : ∀ (f : Nat) (l : Bytes),∃ k,k ≤ l.length ∧ skipF f l = l.drop k
 | 0,l => ⟨0,by omega,rfl⟩
 | f + 1,l => by
  simp only [skipF]
  have h1 := drop_suffix blankB l
  split
  ·obtain ⟨k,hk,e⟩ := skipF_suffix f ((l.dropWhile blankB).dropWhile notLineB)
   have h2 := drop_suffix notLineB (l.dropWhile blankB)
   have l1 := dropWhile_le blankB l
   have l2 := dropWhile_le notLineB (l.dropWhile blankB)
   rw [e,h2,List.drop_drop,h1,List.drop_drop]
   refine ⟨_,?_,rfl⟩
   rw [← h1]
   omega
  ·rw [h1]
   exact ⟨_,Nat.sub_le _ _,rfl⟩
theorem skipL_drop (l : Bytes) : skipL l = l.drop (l.length - (skipL l).length) := by
 obtain ⟨k,hk,e⟩ := skipF_suffix (l.length + 1) l
 have : (skipL l).length = l.length - k := by unfold skipL; rw [e,List.length_drop]
 rw [this]
 unfold skipL
 rw [e]
 congr 1
 omega

abbrev LexOut := List Tok × Int × Int
def lexR : Nat → Bytes → Nat → LexOut
 | 0,_,a => ([],21,a)
 | f + 1,r,a =>
  if (firstT (skipL r)).2 = false then ([],21,((a + (r.length - (skipL r).length) : Nat) : Int))
  else if (firstT (skipL r)).1.kind = 4 then ([{ (firstT (skipL r)).1 with at' := ((a + (r.length - (skipL r).length) : Nat) : Int) }],0,0)
  else
   let x := lexR f ((skipL r).drop (firstT (skipL r)).1.text.length) (a + (r.length - (skipL r).length) + (firstT (skipL r)).1.text.length)
   if x.2.1 = 0 then ({ (firstT (skipL r)).1 with at' := ((a + (r.length - (skipL r).length) : Nat) : Int) } :: x.1,0,0) else ([],x.2.1,x.2.2)
def lexT (s : Bytes) : LexOut := if 10000 < s.length then ([],20,10000) else lexR (s.length + 1) s 0
def comb (acc : List Tok) (x : LexOut) : LexOut := if x.2.1 = 0 then (acc ++ x.1,0,0) else ([],x.2.1,x.2.2)
theorem lexR_form : ∀ (f : Nat) (r : Bytes) (a : Nat),((lexR f r a).2.1 = 0 → (lexR f r a).2.2 = 0) ∧ ((lexR f r a).2.1 ≠ 0 → (lexR f r a).1 = [])
 | 0,_,_ => ⟨(fun h => by cases h),fun _ => rfl⟩
 | f + 1,r,a => by
  simp only [lexR]
  split
  ·exact ⟨(fun h => by cases h),fun _ => rfl⟩
  ·split
   ·exact ⟨fun _ => rfl,fun h => absurd rfl h⟩
   ·split
    ·exact ⟨fun _ => rfl,fun h => absurd rfl h⟩
    ·rename_i h
     exact ⟨fun h' => absurd h' h,fun _ => rfl⟩
theorem comb_nil {x : LexOut} (h : (x.2.1 = 0 → x.2.2 = 0) ∧ (x.2.1 ≠ 0 → x.1 = [])) : comb [] x = x := by
 obtain ⟨ts,e,p⟩ := x
 simp only at h
 unfold comb
 by_cases he : e = 0
 ·simp [he,h.1 he]
 ·simp [he,h.2 he]
theorem skip_ne {r : Bytes} (h : (firstT (skipL r)).1.kind ≠ 4) : skipL r ≠ [] := fun e => h (by rw [e,firstT_nil])
theorem lexR_fuel : ∀ (f g : Nat) (r : Bytes) (a : Nat),r.length < f → r.length < g → lexR f r a = lexR g r a
 | 0,_,_,_,h,_ => absurd h (Nat.not_lt_zero _)
 | _ + 1,0,_,_,_,h => absurd h (Nat.not_lt_zero _)
 | f + 1,g + 1,r,a,hf,hg => by
  simp only [lexR]
  by_cases h1 : (firstT (skipL r)).2 = false
  ·rw [if_pos h1,if_pos h1]
  ·rw [if_neg h1,if_neg h1]
   by_cases h2 : (firstT (skipL r)).1.kind = 4
   ·rw [if_pos h2,if_pos h2]
   ·rw [if_neg h2,if_neg h2]
    have hne := skip_ne h2
    have hp := firstT_pos hne (by simpa using h1)
    have hl := skipL_le r
    have ht := firstT_text (l := skipL r)
    have e := lexR_fuel f g ((skipL r).drop (firstT (skipL r)).1.text.length) (a + (r.length - (skipL r).length) + (firstT (skipL r)).1.text.length) (by rw [List.length_drop]; omega) (by rw [List.length_drop]; omega)
    rw [e]
theorem lexR_bad {r : Bytes} {a : Nat} (h1 : (firstT (skipL r)).2 = false) : lexR (r.length + 1) r a = ([],21,((a + (r.length - (skipL r).length) : Nat) : Int)) := by
 simp only [lexR,if_pos h1]
theorem lexR_end {r : Bytes} {a : Nat} (h1 : (firstT (skipL r)).2 = true) (h2 : (firstT (skipL r)).1.kind = 4) :
  lexR (r.length + 1) r a = ([{ (firstT (skipL r)).1 with at' := ((a + (r.length - (skipL r).length) : Nat) : Int) }],0,0) := by
 simp only [lexR]
 rw [if_neg (by rw [h1]; decide),if_pos h2]
theorem lexR_go {r : Bytes} {a : Nat} (acc : List Tok) (h1 : (firstT (skipL r)).2 = true) (h2 : (firstT (skipL r)).1.kind ≠ 4) :
  comb acc (lexR (r.length + 1) r a) = comb (acc ++ [{ (firstT (skipL r)).1 with at' := ((a + (r.length - (skipL r).length) : Nat) : Int) }])
   (lexR (((skipL r).drop (firstT (skipL r)).1.text.length).length + 1) ((skipL r).drop (firstT (skipL r)).1.text.length) (a + (r.length - (skipL r).length) + (firstT (skipL r)).1.text.length)) := by
 have hne := skip_ne h2
 have hp := firstT_pos hne h1
 have hl := skipL_le r
 have ht := firstT_text (l := skipL r)
 rw [lexR,if_neg (by rw [h1]; decide),if_neg h2]
 simp only []
 rw [lexR_fuel r.length (((skipL r).drop (firstT (skipL r)).1.text.length).length + 1) _ _ (by rw [List.length_drop]; omega) (by omega)]
 generalize lexR (((skipL r).drop (firstT (skipL r)).1.text.length).length + 1) ((skipL r).drop (firstT (skipL r)).1.text.length) (a + (r.length - (skipL r).length) + (firstT (skipL r)).1.text.length) = x
 unfold comb
 by_cases h : x.2.1 = 0
 ·simp [h]
 ·simp [h]

end Go.Bk
