/-
  APPEND OF ONE ROW TO ANOTHER.
-/
import Derived.Test.YtedojnihfnkmmaaDoorPlanSt
import Derived.Laws.OwnMore
namespace Go.Bk
open Go

section
variable {P : Program} {w : World}
theorem runs_appR {t ty e : TypeId} {B B2 : Nat} {size bytes : Nat} {cs : Array Bool} (h : appInfo P t = some (e, size, bytes)) {v : Value} {n : Nat} {xs : List Value} (hown : w.ownsRow B e size v n xs) {a : Option Addr} {m c : Nat} {news : List Value}
    (hsrc : w.ownsRow B2 e size (.slice a m c) m news) (h1 : ∀ u ∈ news, u.oneCell' = true) (h63 : n + m ≤ 9223372036854775807) (hbytes : (n + m) * bytes ≤ 140737488355328) (hbase : B ≤ w.heap.size) :
    Runs P w (.builtin .append #[t, t] ty cs [v, .slice a m c]) fun v' w' => w'.ownsRow B e size v' (n + m) (xs ++ news) ∧ w.grownBy w' v.ownBlock ∧ (v'.ownBlock = v.ownBlock ∨ v'.ownBlock = some w.heap.size) := by
  unfold appInfo at h
  split at h
  · rename_i e0 hu
    split at h
    · rename_i i hi
      split at h
      · rename_i z hz
        cases hc : (Nat.beq z.cells.size i.size && Nat.blt 0 i.size) with
        | false => rw [hc] at h; cases h
        | true =>
          rw [hc] at h
          simp only [cond_true, Option.some.injEq, Prod.mk.injEq] at h
          obtain ⟨rfl, rfl, rfl⟩ := h
          simp only [Bool.and_eq_true] at hc
          have hzs : z.cells.size = i.size := Nat.eq_of_beq_eq_true hc.1
          have hsz : 0 < i.size := by simpa [Nat.blt_eq] using hc.2
          rcases hsrc.2 with ⟨hv, hm⟩ | ⟨g, cap', cur, hv, _⟩
          · subst hm
            have hn : news = [] := List.eq_nil_of_length_eq_zero (by rw [hsrc.1]; simp)
            subst hn
            have hr := run_append_owned_none (P := P) w B t ty e0 i i.size hu hi v n xs hown
            refine runs_value (s := Builtin.append_ #[t, t] ty #[v, .slice a 0 c]) (v := v) (w' := w) rfl (by rw [hv]; exact hr) ⟨by simpa using hown, ⟨rfl, rfl, rfl, Nat.le_refl _, fun _ _ _ => rfl⟩, .inl rfl⟩
          · simp only [Value.slice.injEq, true_and] at hv
            obtain ⟨rfl, _⟩ := hv
            obtain ⟨v', w', hr, a1, a2, _, a4⟩ := run_append_own_at (P := P) w B t ty e0 i z i.size i.bytes hu hi hz rfl rfl hzs hsz v n xs hown ⟨g, 0, none⟩ m c news hsrc.1 (fun j u hj => by
              rw [addr_add, Nat.zero_add] at *
              have hj2 := (List.getElem?_eq_some_iff.1 hj).1
              rw [hsrc.1] at hj2
              rw [hsrc.cellAt j hj2]; exact hj) h1 (by simpa [maxLen] using h63) hbytes hbase
            exact runs_value (s := Builtin.append_ #[t, t] ty #[v, .slice (some ⟨g, 0, none⟩) m c]) rfl hr ⟨a1, a2, a4⟩
      · cases h
    · cases h
  · cases h
end
end Go.Bk
