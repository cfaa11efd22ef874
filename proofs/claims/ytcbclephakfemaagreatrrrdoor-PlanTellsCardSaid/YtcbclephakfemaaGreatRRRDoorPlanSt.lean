/-
  STORES INTO A ROW OF ONE'S OWN, ELEMENT BY ELEMENT.
-/
import Derived.Test.YtcbclephakfemaaGreatRRRDoorPlanMut
import Derived.Test.YtcbclephakfemaaGreatRRRDoorMore
namespace Go.Bk
open Go

theorem setAt_left {A R vs : List Value} {j : Nat} (h : j + vs.length ≤ A.length) : setAt (A ++ R) j vs = setAt A j vs ++ R := by
 unfold setAt
 rw [List.take_append_of_le_length (by omega),List.drop_append_of_le_length h,List.append_assoc,List.append_assoc,List.append_assoc]
theorem setAt_right {A R vs : List Value} {o : Nat} : setAt (A ++ R) (A.length + o) vs = A ++ setAt R o vs := by
 unfold setAt
 rw [List.take_append,List.drop_append,List.take_of_length_le (by omega),Nat.add_sub_cancel_left,show A.length + o + vs.length - A.length = o + vs.length by omega,List.drop_eq_nil_of_le (by omega)]
 simp
theorem setAt_flat {α : Type} {enc : α → List Value} {sz : Nat} (hsz : ∀ x,(enc x).length = sz) : ∀ (xs : List α) (i j : Nat) (vs : List Value) (y : α),i < xs.length → j + vs.length ≤ sz → (∀ x,xs[i]? = some x → setAt (enc x) j vs = enc y) →
  setAt (xs.flatMap enc) (i * sz + j) vs = (xs.set i y).flatMap enc
 | [],i,_,_,_,h,_,_ => by simp at h
 | x :: r,0,j,vs,y,_,hj,hx => by
  rw [List.flatMap_cons,List.set_cons_zero,List.flatMap_cons,Nat.zero_mul,Nat.zero_add,setAt_left (by rw [hsz]; exact hj),hx x rfl]
 | x :: r,i + 1,j,vs,y,h,hj,hx => by
  rw [List.flatMap_cons,List.set_cons_succ,List.flatMap_cons,show (i + 1) * sz + j = (enc x).length + (i * sz + j) by rw [hsz,Nat.add_mul]; omega,setAt_right]
  congr 1
  exact setAt_flat hsz r i j vs y (by simpa using h) hj fun z hz => hx z (by simpa using hz)
section
variable {P : Program} {w : World}
theorem runs_store_rowA {t e : TypeId} {s size B n cap o : Nat} {a : Option Addr} {v : Value} {xs : List Value} (hs : (tabOf P).siz t = some s) (hown : w.ownsRow B e size (.slice a n cap) n xs) (hv : v.cells.size = s) (hpos : 0 < n) (hfit : o + s ≤ n * size)
  (h1 : ∀ u ∈ v.cells.toList,u.oneCell' = true) : Runs P w (.store t (.pointer (some ⟨slB a,slO a + o,none⟩)) v) fun _ w' => ∃ ob,Chg w w' (slB a) ob ∧ (Value.slice a n cap).ownBlock = some (slB a) ∧ w'.ownsRow B e size (.slice a n cap) n (setAt xs o v.cells.toList) := by
 have hx : ∃ g,a = some ⟨g,0,none⟩ := by
  rcases hown.2 with ⟨_,h0⟩ | ⟨g,cap',cur,hv',_⟩
  ·omega
  ·simp only [Value.slice.injEq] at hv'
   exact ⟨g,hv'.1⟩
 obtain ⟨g,rfl⟩ := hx
 have h := runs_store_row (P := P) hs hown hv hfit h1
 simp only [slB,slO,Nat.zero_add]
 exact h.mono fun _ w' ⟨⟨ob,hC⟩,hr⟩ => ⟨ob,hC,rfl,hr⟩
end
end Go.Bk
