/-
  LEX, PLAIN: what the lexer's functions compute, on lists of bytes. No program here.
-/
import Derived.Lib.ItoaNum
import Derived.Lib.AtoiAll
import Derived.Lib.SlicesS
import Derived.Lib.Strings
namespace Go.Bk

abbrev Bytes := List UInt8
def letterB (c : UInt8) : Bool := (decide ((97 : Int) ≤ ((c.toNat : Nat) : Int)) && decide (((c.toNat : Nat) : Int) ≤ 122)) || (decide ((65 : Int) ≤ ((c.toNat : Nat) : Int)) && decide (((c.toNat : Nat) : Int) ≤ 90))
def digitB (c : UInt8) : Bool := decide ((48 : Int) ≤ ((c.toNat : Nat) : Int)) && decide (((c.toNat : Nat) : Int) ≤ 57)
def partB (c : UInt8) : Bool := ((letterB c || digitB c) || decide (((c.toNat : Nat) : Int) = 45)) || decide (((c.toNat : Nat) : Int) = 95)
def runLen (p : UInt8 → Bool) (l : Bytes) : Nat := (l.takeWhile p).length
theorem runLen_hit (p : UInt8 → Bool) (l : Bytes) (k : Nat) (hk : k < l.length) (hall : ∀ j,j < k → p (l.getD j 0) = true) (h : p (l.getD k 0) = false) : runLen p l = k := by
 induction l generalizing k with
 | nil => simp at hk
 | cons c r ih =>
  unfold runLen
  cases k with
  | zero => simp at h; simp [h]
  | succ k =>
   have h0 := hall 0 (by omega)
   simp at h0
   simp only [List.takeWhile_cons,h0,if_true,List.length_cons]
   have := ih k (by simpa using hk) (fun j hj => by have := hall (j + 1) (by omega); simpa using this) (by simpa using h)
   unfold runLen at this; rw [this]
theorem runLen_all (p : UInt8 → Bool) (l : Bytes) (hall : ∀ j,j < l.length → p (l.getD j 0) = true) : runLen p l = l.length := by
 induction l with
 | nil => rfl
 | cons c r ih =>
  unfold runLen
  have h0 := hall 0 (by simp)
  simp at h0
  simp only [List.takeWhile_cons,h0,if_true,List.length_cons]
  have := ih (fun j hj => by have := hall (j + 1) (by simpa using hj); simpa using this)
  unfold runLen at this; rw [this]
theorem runLen_le (p : UInt8 → Bool) (l : Bytes) : runLen p l ≤ l.length := by
 unfold runLen
 exact List.Sublist.length_le (List.takeWhile_sublist p)
theorem take_runLen (p : UInt8 → Bool) (l : Bytes) : l.take (runLen p l) = l.takeWhile p := by
 unfold runLen
 induction l with
 | nil => rfl
 | cons c r ih =>
  by_cases h : p c = true
  ·simp [h,ih]
  ·simp [h]

def kwList : List Bytes := [[112,114,111,116,111,99,111,108],[118,101,99,116,111,114],[112,97,116,104],[102,97,105,108,117,114,101,115],[110,111,100,101],[108,105,110,107],[100,101,115,116],[97,116],[99,104,101,99,107],[114,101,97,99,104],[119,105,116,104,105,110],[119,97,121,112,111,105,110,116],[101,113,117,97,108]]
def kwB (l : Bytes) : Bool := decide (l ∈ kwList)
def nameB (l : Bytes) : Bool := ((((!decide (l = [])) && decide (((l.length : Nat) : Int) ≤ 12)) && letterB (l.getD 0 0)) && decide (((runLen partB l : Nat) : Int) = ((l.length : Nat) : Int))) && !kwB l
def numI (l : Bytes) : Int :=
 match Lib.atoiAll l with
 | .ok n => if n < 0 ∨ 65535 < n ∨ Lib.itoa n ≠ l then -1 else n
 | _ => -1

structure Tok where
 kind : Int
 text : Bytes
 n : Int
 at' : Int
 deriving DecidableEq
end Go.Bk
