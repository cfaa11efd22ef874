/-
  PARSE, PLAIN: what is scanned has an end, and short texts. No program here.
-/
import Derived.Test.YtjhgghpeapmgdaaGreatDoorLexJoin
import Derived.Test.YtjhgghpeapmgdaaGreatDoorParSpec
namespace Go.Bk
open Go

theorem lexR_fin : ∀ (f : Nat) (r : Bytes) (a : Nat), (lexR f r a).2.1 = 0 → ∃ t ∈ (lexR f r a).1, t.kind = 4
  | 0, _, _, h => by cases h
  | f + 1, r, a, h => by
    simp only [lexR] at h ⊢
    split at h
    · cases h
    · rename_i h1
      rw [if_neg h1]
      split at h
      · rename_i h2
        rw [if_pos h2]
        exact ⟨_, List.mem_singleton.2 rfl, h2⟩
      · rename_i h2
        rw [if_neg h2]
        split at h
        · rename_i h3
          rw [if_pos h3]
          obtain ⟨t, ht, hk⟩ := lexR_fin f _ _ h3
          exact ⟨t, List.mem_cons_of_mem _ ht, hk⟩
        · rename_i h3
          exact absurd h h3
theorem lexR_txt : ∀ (f : Nat) (r : Bytes) (a : Nat), ∀ t ∈ (lexR f r a).1, t.text.length ≤ r.length
  | 0, r, a, t, h => by simp [lexR] at h
  | f + 1, r, a, t, h => by
    have hs := skipL_le r
    have ht := firstT_text (l := skipL r)
    simp only [lexR] at h
    split at h
    · simp at h
    · split at h
      · simp only [List.mem_singleton] at h
        subst h
        simp only
        omega
      · split at h
        · rcases List.mem_cons.1 h with h | h
          · subst h
            simp only
            omega
          · have := lexR_txt f _ _ t h
            rw [List.length_drop] at this
            omega
        · simp at h
theorem lexT_in {l : Bytes} (h : (lexT l).2.1 = 0) : PIn ⟨noPlan, (lexT l).1⟩ := by
  refine ⟨?_, lexT_len l, fun t ht => ?_, Nat.zero_le _, Nat.zero_le _, Nat.zero_le _, Nat.zero_le _, fun x hx => by simp [namesL, noPlan] at hx, fun d hd => by simp [noPlan] at hd⟩
  · unfold lexT at h ⊢
    split at h
    · cases h
    · rename_i hn
      simp only [if_neg hn]
      exact lexR_fin _ _ _ h
  · unfold lexT at ht
    simp only at ht
    split at ht
    · simp at ht
    · have := lexR_txt _ _ _ t ht
      omega
end Go.Bk
