/-
  PLAN: a network of one's own reads as a network; all is found at its place.
-/
import Derived.Test.YtcbclephakfemaaGreatRRRDoorPlanK
import Derived.Test.YtcbclephakfemaaGreatRRRDoorPlanNet
namespace Go.Proofs.YtcbclephakfemaaGreatRRRDoor
open Go.Bk Go.Proofs

theorem row_at {w : World} {B : Nat} {e : TypeId} {size n c : Nat} {a : Option Addr} {xs : List Value} (h : w.ownsRow B e size (.slice a n c) n xs) : Cells w a xs ∧ n ≤ c := by
  obtain ⟨a',c',hv,hc⟩ := SlV.of_owns h
  simp only [Value.slice.injEq] at hv
  refine ⟨by rw [hv.1]; exact hc,?_⟩
  rcases h.2 with ⟨_,h0⟩ | ⟨g,cap,cur,hv2,_,_,hle,_⟩
  · omega
  · simp only [Value.slice.injEq] at hv2
    omega
theorem origR_row {w : World} {B : Nat} {A' : List Res} {ds : List DA} (h : Hold w B (A' ++ origR ds)) {i : Nat} (hi : i < ds.length) : w.ownsRow B 3 1 (.slice (ds[i]).a (ds[i]).d.origins.length (ds[i]).c) (ds[i]).d.origins.length ((ds[i]).d.origins.flatMap intCells) :=
  h.tail.row i (by unfold origR; rw [List.getElem?_map,List.getElem?_eq_getElem hi]; rfl)
theorem NetAt.plan {w : World} {B : Nat} {p : PPlan} {q : PAd} (h : NetAt w B p q) (hR : RightP p) : PlanAt w p q := by
  have h1 := row_at (h.hold.row 0 rfl)
  have h2 := row_at (h.hold.row 1 rfl)
  have h3 := row_at (h.hold.row 2 rfl)
  have h4 := row_at (h.hold.row 3 rfl)
  have hd : q.ds.length = p.dests.length := by rw [← h.deq,List.length_map]
  have := hR.n1
  have := hR.l1
  have := hR.d1
  have := hR.c1
  refine ⟨h1.1,h2.1,h3.1,h.deq,fun x hx => ?_,h4.1,⟨h1.2,by omega⟩,⟨h2.2,by omega⟩,⟨by rw [← hd]; exact h3.2,by omega⟩,⟨h4.2,by omega⟩,fun x hx => by have := nameB_len (hR.names x hx); omega⟩
  obtain ⟨i,hi,rfl⟩ := List.getElem_of_mem hx
  have ho := row_at (origR_row h.hold hi)
  have hm : (q.ds[i]).d ∈ p.dests := by rw [← h.deq]; exact List.mem_map_of_mem (List.getElem_mem hi)
  have := orig_count (hR.dest _ hm).1
  exact ⟨ho.1,ho.2,by omega⟩
theorem NetAt.ext {w w' : World} {B : Nat} {p : PPlan} {q : PAd} (h : NetAt w B p q) (hE : Ext w w') : NetAt w' B p q := ⟨h.hold.ext hE,h.deq⟩
namespace RightP
variable {p : PPlan} (hR : RightP p)
include hR
end RightP

end Go.Proofs.YtcbclephakfemaaGreatRRRDoor
