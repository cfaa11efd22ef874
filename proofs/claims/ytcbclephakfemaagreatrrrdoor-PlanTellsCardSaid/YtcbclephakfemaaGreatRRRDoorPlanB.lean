/-
  PLAN: contracts of the small functions of plan.
-/
import Derived.Test.YtcbclephakfemaaGreatRRRDoorPlanA
import Derived.Test.YtcbclephakfemaaGreatRRRDoorPlanSpec
import Derived.Test.YtcbclephakfemaaGreatRRRDoorLz
import Derived.Test.YtcbclephakfemaaGreatRRRDoorFns
namespace Go.Proofs.YtcbclephakfemaaGreatRRRDoor
open Go.Bk Go.Proofs

theorem E29 : Proofs.Enters Tryz.prog 29 := Proofs.enters_of Tryz.func29 (by kernel_rfl) rfl

theorem E53 : Proofs.Enters Tryz.prog 53 := Proofs.enters_of Tryz.func53 (by kernel_rfl) rfl

theorem E28 : Proofs.Enters Tryz.prog 28 := Proofs.enters_of Tryz.func28 (by kernel_rfl) rfl

set_option maxRecDepth 20000 in
theorem within_any (n l m : Int) (w : World)  :
    Does Tryz.prog 29 [iv n,iv l,iv m] w (fun v w' => v = .bool (withinB n l m) ∧ w = w') := by
 refine startZ (c := Y29) Tryz.func29 rfl (by kernel_rfl) ?_
 show H _ 15 [] _ (kAt Y29 [] []) (stz [(0,iv n),(1,iv l),(2,iv m)]) w
 refine Zi 16 [.gn 0,.gn 0,.gn 0,.y,.y,.y] [] trivial [decide ((l : Int) ≤ n)] trivial ?_
 exact Z1 0 (.bool ((decide ((l : Int) ≤ n)) && (decide ((n : Int) ≤ m)))) (⟨rfl,rfl⟩)

set_option maxRecDepth 20000 in
theorem place_any (k m : Int) (w : World)  :
    Does Tryz.prog 53 [iv k,iv m] w (fun v w' => v = .bool (placeB k m) ∧ w = w') := by
 refine startZ (c := Y53) Tryz.func53 rfl (by kernel_rfl) ?_
 show H _ 12 [] _ (kAt Y53 [] []) (stz [(0,iv k),(1,iv m)]) w
 refine Zi 15 [.gn 0,.gn 0,.gn 0,.y,.y,.y] [] trivial [decide ((0 : Int) ≤ k)] trivial ?_
 exact Z1 0 (.bool ((decide ((0 : Int) ≤ k)) && (decide ((k : Int) < m)))) (⟨rfl,rfl⟩)

set_option maxRecDepth 20000 in
theorem routing_any (p : PPlan) (q : PAd) (w : World)  :
    Does Tryz.prog 28 [(pv p q)] w (fun v w' => v = .bool (routingB p) ∧ Ext w w') := by
 refine startZ (c := Y28) Tryz.func28 rfl (by kernel_rfl) ?_
 show H _ 15 [] _ (kAt Y28 [] []) (stz [(0,(pv p q))]) w
 have hE1 : Ext w w := Ext.refl w
 have hM2 : Hold w w.heap.size [] := Hold.nil hE1.le
 refine Zb 2 29 (pv p q) (pc p q) hE1 hM2 ?_
 intro b1 w1 hE4 hM5
 refine Zh 14 [.c 0 0] hM5 trivial ?_
 refine Zq 0 ((p.proto : Int) = (1 : Int)) (fun h1 => ?_) (fun h1 => ?_)
 ·refine Zh 7 [.c 0 1] hM5 trivial ?_
  exact Z1 0 (.bool (decide ((p.cap : Int) = (0 : Int)))) (⟨by unfold routingB; rw [if_pos h1],hE4⟩)
 refine Zq 5 ((p.proto : Int) = (2 : Int)) (fun h2 => ?_) (fun h2 => ?_)
 ·refine Zh 4 [.c 0 1] hM5 trivial ?_
  refine Zl 0 E29 (within_any p.cap 1 12 w1) ?_
  rintro _ _ ⟨rfl,rfl⟩
  exact Z1 2 (.bool (withinB p.cap 1 12)) (⟨by unfold routingB; rw [if_neg h1,if_pos h2],hE4⟩)
 exact Z1 6 (.bool false) (⟨by unfold routingB; rw [if_neg h1,if_neg h2],hE4⟩)

theorem E25 : Proofs.Enters Tryz.prog 25 := Proofs.enters_of Tryz.func25 (by kernel_rfl) rfl

def destLp (d : PDest) (a : Option Addr) (c : Nat) (m : Int) (b1 : Nat) (w : World) : Lp Nat where
  S := fun k => [(1,none,iv m),(2,none,pt b1 0),(8,none,.slice a d.origins.length c),(9,none,iv (d.origins.length:Int)),(10,none,iv (k:Int))]
  J := fun k w' => Ext w w' ∧ Hold w' w.heap.size [.blk b1 ([sv d.name,.slice a d.origins.length c]) 49] ∧ k ≤ d.origins.length ∧ OrigOk d.origins m k
  M := fun k => d.origins.length - k
set_option maxRecDepth 20000 in
theorem dest_any (d : PDest) (a : Option Addr) (c : Nat) (m : Int) (w : World) (hc : Cells w a (d.origins.flatMap intCells)) (hl : d.origins.length ≤ 140737488355328) :
    Does Tryz.prog 25 [.agg #[sv d.name,.slice a d.origins.length c],iv m] w (fun v w' => v = .bool (destB d m) ∧ Ext w w') := by
 refine startZ (c := Y25) Tryz.func25 rfl (by kernel_rfl) ?_
 show H _ 38 [] _ (kAt Y25 [] []) (stz [(0,.agg #[sv d.name,.slice a d.origins.length c]),(1,iv m)]) w
 have hE1 : Ext w w := Ext.refl w
 have hM2 : Hold w w.heap.size [] := Hold.nil hE1.le
 refine Zb 2 49 (.agg #[sv d.name,.slice a d.origins.length c]) [sv d.name,.slice a d.origins.length c] hE1 hM2 ?_
 intro b1 w1 hE4 hM5
 refine Zh 11 [.c 0 1] hM5 trivial ?_
 refine ZLoop (destLp d a c m b1 w) (k' := (kEnd Y25 [1,0,1,0] [])) (body := (cAt Y25 [1,0,1,0,0])) (by kernel_rfl) 0 [1,2,8,9,10] (by kernel_rfl) (⟨hE4,hM5,by omega,fun i h => by omega⟩) ?_
 rintro k w0 ⟨K1,KM,hk,ho⟩
 refine Zq 5 ((k:Int) < (d.origins.length:Int)) (fun h1 => ?_) (fun h1 => ?_)
 ·have hk2 : k < d.origins.length := by omega
  have ha := hc.addrE intCells_len (by decide) hk2
  refine Zs 15 [.ld (iv (d.origins.getD k 0))] [(0 ≤ (k:Int) ∧ (k:Int) < (d.origins.length:Int)),(a : Option Addr) = some ⟨(slB a),slO a,none⟩,cl w0 (slB a) (slO a + k * 1) (iv (d.origins.getD k 0))] (AC (by omega) (AC (by assumption) (A1 (K1.cell (int_cell hc hk2))))) ?_
  refine Zl 0 E53 (place_any (d.origins.getD k 0) m w0) ?_
  rintro _ _ ⟨rfl,rfl⟩
  by_cases hpl : (placeB (d.origins.getD k 0) m) = true
  ·refine Zw 0 17 (.bool (placeB (d.origins.getD k 0) m)) (.bool true) (by rw [show (placeB (d.origins.getD k 0) m) = true from hpl] <;> rfl) ?_
   by_cases hk0 : (0 : Int) < (k:Int)
   ·refine Zf 16 [.xf,.xf,.xf,.xg 0,.xg 0,.c 0 1,.xg 0,.xg 0,.p (fun _ => I64 ((k:Int) - (1 : Int))),.xg 0,.p (fun _ => (0 ≤ ((k:Int) - (1 : Int)) ∧ ((k:Int) - (1 : Int)) < (d.origins.length:Int))),.p (fun _ => (a : Option Addr) = some ⟨(slB a),slO a,none⟩),.xg 0,.p (fun _ => w0.cell? ⟨(slB a),slO a + ((((k:Int) - (1 : Int))).toNat) * 1,none⟩ = some (iv (d.origins.getD (k - 1) 0))),.v (iv (d.origins.getD (k - 1) 0)),.xg 0,.xg 0,.xf] KM [(decide ((0 : Int) < (k:Int))) = true] (A1 (decide_eq_true hk0)) [] (AC (i64 (by omega)) (AC (by omega) (AC (by assumption) (A1 (by rw [show ((k:Int) - (1 : Int)).toNat = k - 1 by omega]; exact K1.cell (int_cell hc (by omega))))))) ?_
    refine Zr 0 _ (((0 : Int) < (k:Int)) ∧ ((d.origins.getD k 0 : Int) ≤ d.origins.getD (k - 1) 0)) ((iffAnd iffDec iffDec)) (fun h2 => ?_) (fun h2 => ?_)
    ·exact Z1 4 (.bool false) (⟨by unfold destB; rw [decide_eq_false (OrigOk.not hk2 (fun e => by have h3 := h2.2; have := e.2 (by omega); omega))]; rfl,K1⟩)
    refine Zs 6 [] [I64 ((k + 1:Nat):Int)] (A1 (i64 (by omega))) ?_
    exact ZA 0 (destLp d a c m b1 w) k (k + 1) [1,2,8,9,10] (⟨K1,KM,by omega,ho.step hpl (by intro _; apply Classical.byContradiction; intro hn; exact h2 ⟨by omega,by omega⟩)⟩) (show d.origins.length - (k + 1) < d.origins.length - k by omega)
   refine Zi 23 [.xf,.xf,.xf,.sg 0,.sg 0,.sg 0,.sg 0,.sg 0,.sg 0,.sg 0,.sg 0,.xf,.p (fun _ => (decide ((0 : Int) < (k:Int))) = false),.sf,.p (fun _ => I64 ((k + 1:Nat):Int))] [(decide ((0 : Int) < (k:Int))) = (!true)] (A1 (decide_eq_false hk0)) [] (AC (decide_eq_false hk0) (A1 (i64 (by omega)))) ?_
   exact ZA 0 (destLp d a c m b1 w) k (k + 1) [1,2,8,9,10] (⟨K1,KM,by omega,ho.step hpl (by intro h; omega)⟩) (show d.origins.length - (k + 1) < d.origins.length - k by omega)
  refine Zw 0 17 (.bool (placeB (d.origins.getD k 0) m)) (.bool false) (by rw [show (placeB (d.origins.getD k 0) m) = false from Bool.eq_false_iff.2 hpl] <;> rfl) ?_
  refine Zi 21 [.st,.st,.st,.st,.st,.st,.s,.s,.s,.s,.s,.s,.x] [] trivial [] trivial ?_
  exact Z1 0 (.bool false) (⟨by unfold destB; rw [decide_eq_false (OrigOk.not hk2 (fun e => hpl e.1))]; rfl,K1⟩)
 have hkl : k = d.origins.length := by omega
 have ho2 : OrigOk d.origins m d.origins.length := by rw [← hkl]; exact ho
 refine Zh 9 [.c 0 1] KM trivial ?_
 exact Z1 0 (.bool (decide ((0 : Int) < (d.origins.length:Int)))) (⟨by unfold destB; rw [decide_eq_true ho2,Bool.true_and]; congr 1; exact decide_eq_decide.2 (by omega),K1⟩)

end Go.Proofs.YtcbclephakfemaaGreatRRRDoor
