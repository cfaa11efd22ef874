/-
  CALLS THAT MAY PANIC: contracts of two ends; deferred calls that recover.
-/
import Derived.Test.YtcbclephakfemaaGreatRRRDoorMore
import Derived.Recover
namespace Go.Bk
open Go

def Out (Φ Χ : Value → World → Prop) (e : Ending) (w : World) : Prop :=
 (∃ v,e = .returned v ∧ Φ v w) ∨ ∃ x,e = .panicked [{ v := x,recovered := false }] ∧ Χ x w
def DoesP (P : Program) (f : FuncId) (args : List Value) (w : World) (Φ Χ : Value → World → Prop) : Prop := Calls P f args.toArray w (Out Φ Χ)
theorem DoesP.mono {P : Program} {f : FuncId} {args : List Value} {w : World} {Φ Χ Φ' Χ' : Value → World → Prop} (h : DoesP P f args w Φ Χ) (hi : ∀ v w',Φ v w' → Φ' v w') (hx : ∀ v w',Χ v w' → Χ' v w') : DoesP P f args w Φ' Χ' :=
 Calls.mono h fun _ _ h => h.elim (fun ⟨v,he,hv⟩ => .inl ⟨v,he,hi _ _ hv⟩) fun ⟨x,he,hv⟩ => .inr ⟨x,he,hx _ _ hv⟩
section
variable {P : Program} {n : Nat} {ds : List Deferred} {Q : Exit → Act → World → Prop} {w : World}
end
section
variable {P : Program} {n : Nat}
end
section
variable {P : Program} {n : Nat} {w : World}
end
theorem Hold.join {w1 w2 : World} {B : Nat} {L1 L2 : List Res} (h1 : Hold w1 B L1) (hE : Ext w1 w2) (h2 : Hold w2 w1.heap.size L2) : Hold w2 B (L1 ++ L2) := by
 have h1' := h1.ext hE
 have low : ∀ (r : Res),r.At w2 w1.heap.size → r.At w2 B := by
  intro r hr
  have hb := h1.base
  cases r with
  | blk b cs t => exact ⟨Nat.le_trans hb hr.1,hr.2⟩
  | row v e size n xs => exact ownsRow_base hr hb
  | map b ks => exact ⟨Nat.le_trans hb hr.1,hr.2⟩
 have lt1 : ∀ (i : Nat) (r : Res),L1[i]? = some r → ∀ b,r.own = some b → b < w1.heap.size := fun i r hi b hb => (Res.lt (h1.all i r hi) hb).2
 have ge2 : ∀ (i : Nat) (r : Res),L2[i]? = some r → ∀ b,r.own = some b → w1.heap.size ≤ b := fun i r hi b hb => (Res.lt (h2.all i r hi) hb).1
 have at' : ∀ (i : Nat) (r : Res),(L1 ++ L2)[i]? = some r → (i < L1.length ∧ L1[i]? = some r) ∨ (L1.length ≤ i ∧ L2[i - L1.length]? = some r) := by
  intro i r hi
  rw [List.getElem?_append] at hi
  split at hi
  ·exact .inl ⟨by assumption,hi⟩
  ·exact .inr ⟨by omega,hi⟩
 refine ⟨h1'.base,fun i r hi => ?_,fun i j r r' hi hj hne => ?_⟩
 ·rcases at' i r hi with ⟨_,hi⟩ | ⟨_,hi⟩
  ·exact h1'.all i r hi
  ·exact low r (h2.all _ r hi)
 ·rcases at' i r hi with ⟨li,hi⟩ | ⟨li,hi⟩
  ·rcases at' j r' hj with ⟨lj,hj⟩ | ⟨lj,hj⟩
   ·exact h1'.apart i j r r' hi hj hne
   ·rintro b ⟨e1,e2⟩
    have := lt1 _ r hi b e1
    have := ge2 _ r' hj b e2
    omega
  ·rcases at' j r' hj with ⟨lj,hj⟩ | ⟨lj,hj⟩
   ·rintro b ⟨e1,e2⟩
    have := ge2 _ r hi b e1
    have := lt1 _ r' hj b e2
    omega
   ·exact h2.apart _ _ r r' hi hj (by omega)
section
variable {P : Program} {n : Nat} {w : World}
end
end Go.Bk
