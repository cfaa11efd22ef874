/-
  PARSE, PLAIN: what ParseForth asks. No program here.
-/
import Derived.Test.YtjhgghpeapmgdaaGreatDoorParInv
import Derived.Test.YtjhgghpeapmgdaaGreatDoorMg8
namespace Go.Proofs.YtjhgghpeapmgdaaGreatDoor
open Go.Bk Go.Proofs
theorem forth_law (l : Bytes) : ((parseT l).2.1 = 0 ∧ RightP (parseT l).1 ∧ (parseT l).2.2 = 0) ∨ ((parseT l).2.1 ≠ 0 ∧ (parseT l).1 = noPlan ∧ 0 ≤ (parseT l).2.2 ∧ (parseT l).2.2 ≤ ((l.length : Nat) : Int)) := by
 by_cases h : (parseT l).2.1 = 0
 ·obtain ⟨h1,h2⟩ := parse_right h (fun e he => parse_code he)
  exact .inl ⟨h,h1,h2⟩
 ·refine .inr ⟨h,?_,parse_place l⟩
  unfold parseT parseToks at h ⊢
  split
  ·rename_i hl
   rw [if_pos hl] at h
   cases he : allS ⟨noPlan,(lexT l).1⟩ with
   | ok s => rw [he] at h; exact absurd rfl h
   | error e => rfl
  ·rfl
end Go.Proofs.YtjhgghpeapmgdaaGreatDoor
