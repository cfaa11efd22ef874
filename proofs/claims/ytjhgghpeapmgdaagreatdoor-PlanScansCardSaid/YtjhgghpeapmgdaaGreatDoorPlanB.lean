/-
  PLAN: contracts of the small functions of plan.
-/
import Derived.Test.YtjhgghpeapmgdaaGreatDoorPlanA
import Derived.Test.YtjhgghpeapmgdaaGreatDoorPlanSpec
namespace Go.Proofs.YtjhgghpeapmgdaaGreatDoor
open Go.Bk Go.Proofs

theorem E42 : Proofs.Enters Tryz.prog 42 := Proofs.enters_of Tryz.func42 (by kernel_rfl) rfl

theorem E74 : Proofs.Enters Tryz.prog 74 := Proofs.enters_of Tryz.func74 (by kernel_rfl) rfl

theorem E41 : Proofs.Enters Tryz.prog 41 := Proofs.enters_of Tryz.func41 (by kernel_rfl) rfl

set_option maxRecDepth 20000 in
theorem within_any (n l m : Int) (w : World)  :
    Does Tryz.prog 42 [iv n,iv l,iv m] w (fun v w' => v = .bool (withinB n l m) ∧ w = w') := by
 refine startD (c := (bodyOf Tryz.f42)) Tryz.func42 rfl (by kernel_rfl) ?_
 show G _ 15 [] _ (kAt (bodyOf Tryz.f42) [] []) (stz [(0,iv n),(1,iv l),(2,iv m)]) w
 refine sgz 16 [.sym,.sym,.sym] (kAt (bodyOf Tryz.f42) [1,1] []) [(6,.bool ((decide ((l : Int) ≤ n)) && (decide ((n : Int) ≤ m))))] [(decide ((l : Int) ≤ n)) = true → (decide ((l : Int) ≤ n)) = true,(decide ((l : Int) ≤ n)) = true → (decide ((l : Int) ≤ n)) = true,(decide ((l : Int) ≤ n)) = true → (decide ((l : Int) ≤ n)) = true] (AC (fun h => h) (AC (fun h => h) (A1 (fun h => h)))) ?_
 exact retD (hs := []) (vs := [.bool ((decide ((l : Int) ≤ n)) && (decide ((n : Int) ≤ m)))]) (ps := []) (by kernel_rfl) trivial (v := .bool ((decide ((l : Int) ≤ n)) && (decide ((n : Int) ≤ m)))) rfl (⟨rfl,rfl⟩)

set_option maxRecDepth 20000 in
theorem place_any (k m : Int) (w : World)  :
    Does Tryz.prog 74 [iv k,iv m] w (fun v w' => v = .bool (placeB k m) ∧ w = w') := by
 refine startD (c := (bodyOf Tryz.f74)) Tryz.func74 rfl (by kernel_rfl) ?_
 show G _ 12 [] _ (kAt (bodyOf Tryz.f74) [] []) (stz [(0,iv k),(1,iv m)]) w
 refine sgz 15 [.sym,.sym,.sym] (kAt (bodyOf Tryz.f74) [1,1] []) [(4,.bool ((decide ((0 : Int) ≤ k)) && (decide ((k : Int) < m))))] [(decide ((0 : Int) ≤ k)) = true → (decide ((0 : Int) ≤ k)) = true,(decide ((0 : Int) ≤ k)) = true → (decide ((0 : Int) ≤ k)) = true,(decide ((0 : Int) ≤ k)) = true → (decide ((0 : Int) ≤ k)) = true] (AC (fun h => h) (AC (fun h => h) (A1 (fun h => h)))) ?_
 exact retD (hs := []) (vs := [.bool ((decide ((0 : Int) ≤ k)) && (decide ((k : Int) < m)))]) (ps := []) (by kernel_rfl) trivial (v := .bool ((decide ((0 : Int) ≤ k)) && (decide ((k : Int) < m)))) rfl (⟨rfl,rfl⟩)

set_option maxRecDepth 20000 in
theorem routing_any (p : PPlan) (q : PAd) (w : World)  :
    Does Tryz.prog 41 [.agg #[iv p.proto,iv p.cap,iv p.k,.slice q.a1 p.nodes.length q.c1,.slice q.a2 p.links.length q.c2,.slice q.a3 p.dests.length q.c3,.slice q.a4 p.checks.length q.c4]] w (fun v w' => v = .bool (routingB p) ∧ Ext w w') := by
 refine startD (c := (bodyOf Tryz.f41)) Tryz.func41 rfl (by kernel_rfl) ?_
 show G _ 15 [] _ (kAt (bodyOf Tryz.f41) [] []) (stz [(0,.agg #[iv p.proto,iv p.cap,iv p.k,.slice q.a1 p.nodes.length q.c1,.slice q.a2 p.links.length q.c2,.slice q.a3 p.dests.length q.c3,.slice q.a4 p.checks.length q.c4])]) w
 have hE1 : Ext w w := Ext.refl w
 have hM2 : Hold w w.heap.size [] := Hold.nil hE1.le
 refine sgz 2 [] (kOp (bodyOf Tryz.f41) [0] 0 []) [(0,.agg #[iv p.proto,iv p.cap,iv p.k,.slice q.a1 p.nodes.length q.c1,.slice q.a2 p.links.length q.c2,.slice q.a3 p.dests.length q.c3,.slice q.a4 p.checks.length q.c4])] [] trivial ?_
 refine oss [] (.box 29 (.agg #[iv p.proto,iv p.cap,iv p.k,.slice q.a1 p.nodes.length q.c1,.slice q.a2 p.links.length q.c2,.slice q.a3 p.dests.length q.c3,.slice q.a4 p.checks.length q.c4])) (some 1) (kOp (bodyOf Tryz.f41) [0] 1 []) [] trivial (runs_box _ _) ?_
 rintro _ w1 ⟨b1,rfl,hN3⟩
 have hE4 := hE1.trans hN3.ext
 have hM5 := hM2.new hN3
 refine sgz 14 [.ld (iv p.proto)] (kAt (bodyOf Tryz.f41) [1,0,1,0,1] []) [(1,pt b1 0),(2,.bool false),(4,iv p.proto),(5,.bool (decide ((p.proto : Int) = (1 : Int))))] [w1.cell? ⟨b1,0,none⟩ = some (iv p.proto)] (A1 (cell_of (hM5.blk 0 rfl) rfl)) ?_
 refine brs (decide ((p.proto : Int) = (1 : Int))) (kAt (bodyOf Tryz.f41) [1,0,1,0,1,0] []) (kAt (bodyOf Tryz.f41) [1,0,1,0,1,1] []) ((p.proto : Int) = (1 : Int)) (iffDec) (fun h1 => ?_) (fun h1 => ?_)
 · refine sgz 7 [.ld (iv p.cap)] (kAt (bodyOf Tryz.f41) [1,0,1,0,1,0,1] []) [(2,.bool (decide ((p.cap : Int) = (0 : Int))))] [w1.cell? ⟨b1,1,none⟩ = some (iv p.cap)] (A1 (cell_of (hM5.blk 0 rfl) rfl)) ?_
   exact retD (hs := []) (vs := [.bool (decide ((p.cap : Int) = (0 : Int)))]) (ps := []) (by kernel_rfl) trivial (v := .bool (decide ((p.cap : Int) = (0 : Int)))) rfl (⟨by unfold routingB; rw [if_pos h1],hE4⟩)
 · refine sgz 5 [] (kAt (bodyOf Tryz.f41) [1,0,1,0,1,1,1] []) [(1,pt b1 0),(2,.bool false),(10,.bool (decide ((p.proto : Int) = (2 : Int))))] [] trivial ?_
   refine brs (decide ((p.proto : Int) = (2 : Int))) (kAt (bodyOf Tryz.f41) [1,0,1,0,1,1,1,0] []) (kAt (bodyOf Tryz.f41) [1,0,1,0,1,1,1,1] []) ((p.proto : Int) = (2 : Int)) (iffDec) (fun h2 => ?_) (fun h2 => ?_)
   · refine sgz 4 [.ld (iv p.cap)] (kOp (bodyOf Tryz.f41) [1,0,1,0,1,1,1,0,0] 2 []) [(2,.bool false),(13,iv p.cap)] [w1.cell? ⟨b1,1,none⟩ = some (iv p.cap)] (A1 (cell_of (hM5.blk 0 rfl) rfl)) ?_
     refine oss [] (.call 42 [iv p.cap,iv (1 : Int),iv (12 : Int)]) (some 14) (kOp (bodyOf Tryz.f41) [1,0,1,0,1,1,1,0,0] 3 []) [] trivial (runs_call E42 (within_any p.cap 1 12 w1)) ?_
     rintro _ _ ⟨rfl,rfl⟩
     refine sgz 2 [] (kAt (bodyOf Tryz.f41) [1,0,1,0,1,1,1,0,1] []) [(2,.bool (withinB p.cap 1 12))] [] trivial ?_
     exact retD (hs := []) (vs := [.bool (withinB p.cap 1 12)]) (ps := []) (by kernel_rfl) trivial (v := .bool (withinB p.cap 1 12)) rfl (⟨by unfold routingB; rw [if_neg h1,if_pos h2],hE4⟩)
   · refine sgz 6 [] (kAt (bodyOf Tryz.f41) [1,1,1] []) [(2,.bool false)] [] trivial ?_
     exact retD (hs := []) (vs := [.bool false]) (ps := []) (by kernel_rfl) trivial (v := .bool false) rfl (⟨by unfold routingB; rw [if_neg h1,if_neg h2],hE4⟩)

theorem E38 : Proofs.Enters Tryz.prog 38 := Proofs.enters_of Tryz.func38 (by kernel_rfl) rfl

def destLp (d : PDest) (a : Option Addr) (c : Nat) (m : Int) (b1 : Nat) (w : World) : Lp Nat where
  S := fun k => [(1,none,iv m),(2,none,pt b1 0),(8,none,.slice a d.origins.length c),(9,none,iv ((d.origins.length:Nat):Int)),(10,none,iv ((k:Nat):Int))]
  J := fun k w' => Ext w w' ∧ Hold w' w.heap.size [.blk b1 ([sv d.name,.slice a d.origins.length c]) 54] ∧ k ≤ d.origins.length ∧ OrigOk d.origins m k
  M := fun k => d.origins.length - k
set_option maxRecDepth 20000 in
theorem dest_any (d : PDest) (a : Option Addr) (c : Nat) (m : Int) (w : World) (hc : Cells w a (d.origins.flatMap intCells)) (hl : d.origins.length ≤ 140737488355328) :
    Does Tryz.prog 38 [.agg #[sv d.name,.slice a d.origins.length c],iv m] w (fun v w' => v = .bool (destB d m) ∧ Ext w w') := by
 refine startD (c := (bodyOf Tryz.f38)) Tryz.func38 rfl (by kernel_rfl) ?_
 show G _ 38 [] _ (kAt (bodyOf Tryz.f38) [] []) (stz [(0,.agg #[sv d.name,.slice a d.origins.length c]),(1,iv m)]) w
 have hE1 : Ext w w := Ext.refl w
 have hM2 : Hold w w.heap.size [] := Hold.nil hE1.le
 refine sgz 2 [] (kOp (bodyOf Tryz.f38) [0] 0 []) [(0,.agg #[sv d.name,.slice a d.origins.length c]),(1,iv m)] [] trivial ?_
 refine oss [] (.box 54 (.agg #[sv d.name,.slice a d.origins.length c])) (some 2) (kOp (bodyOf Tryz.f38) [0] 1 []) [] trivial (runs_box _ _) ?_
 rintro _ w1 ⟨b1,rfl,hN3⟩
 have hE4 := hE1.trans hN3.ext
 have hM5 := hM2.new hN3
 refine sgz 11 [.ld (.slice a d.origins.length c)] (kAt (bodyOf Tryz.f38) [1,0,1,0] []) [(1,iv m),(2,pt b1 0),(4,.bool false),(8,.slice a d.origins.length c),(9,iv ((d.origins.length:Nat):Int)),(10,iv (0 : Int))] [w1.cell? ⟨b1,1,none⟩ = some (.slice a d.origins.length c)] (A1 (cell_of (hM5.blk 0 rfl) rfl)) ?_
 refine loopR (destLp d a c m b1 w) (k' := (kEnd (bodyOf Tryz.f38) [1,0,1,0] [])) (body := (cAt (bodyOf Tryz.f38) [1,0,1,0,0])) (by kernel_rfl) 0 [1,2,8,9,10] (by kernel_rfl) (⟨hE4,hM5,by omega,fun i h => by omega⟩) ?_
 rintro k w0 ⟨K1,KM,hk,ho⟩
 refine sgz 5 [] (kAt (cAt (bodyOf Tryz.f38) [1,0,1,0,0]) [1,0] (.inv (LI 38 [] (destLp d a c m b1 w) k) :: (kEnd (bodyOf Tryz.f38) [1,0,1,0] []))) [(1,iv m),(2,pt b1 0),(8,.slice a d.origins.length c),(9,iv ((d.origins.length:Nat):Int)),(10,iv ((k:Nat):Int)),(11,.bool (decide (((k:Nat):Int) < ((d.origins.length:Nat):Int))))] [] trivial ?_
 refine brs (decide (((k:Nat):Int) < ((d.origins.length:Nat):Int))) (kAt (cAt (bodyOf Tryz.f38) [1,0,1,0,0]) [1,0,0] (.inv (LI 38 [] (destLp d a c m b1 w) k) :: (kEnd (bodyOf Tryz.f38) [1,0,1,0] []))) (kAt (cAt (bodyOf Tryz.f38) [1,0,1,0,0]) [1,0,1] (.inv (LI 38 [] (destLp d a c m b1 w) k) :: (kEnd (bodyOf Tryz.f38) [1,0,1,0] []))) (((k:Nat):Int) < ((d.origins.length:Nat):Int)) (iffDec) (fun h1 => ?_) (fun h1 => ?_)
 · have hk2 : k < d.origins.length := by omega
   have ha := hc.addrE intCells_len (by decide) hk2
   refine sgz 15 [.ld (iv (d.origins.getD k 0))] (kOp (cAt (bodyOf Tryz.f38) [1,0,1,0,0]) [1,1,0,0,1,0] 2 (.inv (LI 38 [] (destLp d a c m b1 w) k) :: (kEnd (bodyOf Tryz.f38) [1,0,1,0] []))) [(1,iv m),(2,pt b1 0),(5,iv ((k:Nat):Int)),(6,iv (d.origins.getD k 0)),(8,.slice a d.origins.length c),(9,iv ((d.origins.length:Nat):Int)),(10,iv ((k:Nat):Int)),(15,iv (d.origins.getD k 0)),(16,iv m)] [(0 ≤ ((k:Nat):Int) ∧ ((k:Nat):Int) < ((d.origins.length:Nat):Int)),(a : Option Addr) = some ⟨(slB a),slO a,none⟩,w0.cell? ⟨(slB a),slO a + k * 1,none⟩ = some (iv (d.origins.getD k 0))] (AC (by omega) (AC (by assumption) (A1 (K1.cell (int_cell hc hk2))))) ?_
   refine oss [] (.call 74 [iv (d.origins.getD k 0),iv m]) (some 17) (kOp (cAt (bodyOf Tryz.f38) [1,0,1,0,0]) [1,1,0,0,1,0] 3 (.inv (LI 38 [] (destLp d a c m b1 w) k) :: (kEnd (bodyOf Tryz.f38) [1,0,1,0] []))) [] trivial (runs_call E74 (place_any (d.origins.getD k 0) m w0)) ?_
   rintro _ _ ⟨rfl,rfl⟩
   by_cases hpl : (placeB (d.origins.getD k 0) m) = true
   · refine stEq (st' := (stz [(1,iv m),(2,pt b1 0),(5,iv ((k:Nat):Int)),(6,iv (d.origins.getD k 0)),(8,.slice a d.origins.length c),(9,iv ((d.origins.length:Nat):Int)),(10,iv ((k:Nat):Int)),(15,iv (d.origins.getD k 0)),(16,iv m),(17,.bool true)])) (by rw [show (placeB (d.origins.getD k 0) m) = true from hpl] <;> rfl) ?_
     by_cases hk0 : (0 : Int) < ((k:Nat):Int)
     · refine sgz 16 [.exec,.exec,.exec,.exec,.exec,.ld (.slice a d.origins.length c),.exec,.exec,.exec,.exec,.ld (iv (d.origins.getD (k - 1) 0)),.exec,.exec,.exec] (kAt (cAt (bodyOf Tryz.f38) [1,0,1,0,0]) [1,1,0,0,1,1] (.inv (LI 38 [] (destLp d a c m b1 w) k) :: (kEnd (bodyOf Tryz.f38) [1,0,1,0] []))) [(1,iv m),(2,pt b1 0),(8,.slice a d.origins.length c),(9,iv ((d.origins.length:Nat):Int)),(10,iv ((k:Nat):Int)),(32,.bool ((decide ((0 : Int) < ((k:Nat):Int))) && (decide ((d.origins.getD k 0 : Int) ≤ d.origins.getD (k - 1) 0))))] [false = false,false = false,false = false,(decide ((0 : Int) < ((k:Nat):Int))) = true,(decide ((0 : Int) < ((k:Nat):Int))) = true,w0.cell? ⟨b1,1,none⟩ = some (.slice a d.origins.length c),(decide ((0 : Int) < ((k:Nat):Int))) = true,(decide ((0 : Int) < ((k:Nat):Int))) = true,I64 (((k:Nat):Int) - (1 : Int)),(decide ((0 : Int) < ((k:Nat):Int))) = true,(0 ≤ (((k:Nat):Int) - (1 : Int)) ∧ (((k:Nat):Int) - (1 : Int)) < ((d.origins.length:Nat):Int)),(a : Option Addr) = some ⟨(slB a),slO a,none⟩,(decide ((0 : Int) < ((k:Nat):Int))) = true,w0.cell? ⟨(slB a),slO a + (((((k:Nat):Int) - (1 : Int))).toNat) * 1,none⟩ = some (iv (d.origins.getD (k - 1) 0)),(decide ((0 : Int) < ((k:Nat):Int))) = true,(decide ((0 : Int) < ((k:Nat):Int))) = true,false = false] (AC rfl (AC rfl (AC rfl (AC (decide_eq_true hk0) (AC (decide_eq_true hk0) (AC (cell_of (KM.blk 0 rfl) rfl) (AC (decide_eq_true hk0) (AC (decide_eq_true hk0) (AC (i64 (by omega)) (AC (decide_eq_true hk0) (AC (by omega) (AC (by assumption) (AC (decide_eq_true hk0) (AC (by rw [show (((k:Nat):Int) - (1 : Int)).toNat = k - 1 by omega]; exact K1.cell (int_cell hc (by omega))) (AC (decide_eq_true hk0) (AC (decide_eq_true hk0) (A1 rfl))))))))))))))))) ?_
       refine brs ((decide ((0 : Int) < ((k:Nat):Int))) && (decide ((d.origins.getD k 0 : Int) ≤ d.origins.getD (k - 1) 0))) (kAt (cAt (bodyOf Tryz.f38) [1,0,1,0,0]) [1,1,0,0,1,1,0] (.inv (LI 38 [] (destLp d a c m b1 w) k) :: (kEnd (bodyOf Tryz.f38) [1,0,1,0] []))) (kAt (cAt (bodyOf Tryz.f38) [1,0,1,0,0]) [1,1,0,0,1,1,1] (.inv (LI 38 [] (destLp d a c m b1 w) k) :: (kEnd (bodyOf Tryz.f38) [1,0,1,0] []))) (((0 : Int) < ((k:Nat):Int)) ∧ ((d.origins.getD k 0 : Int) ≤ d.origins.getD (k - 1) 0)) ((iffAnd iffDec iffDec)) (fun h2 => ?_) (fun h2 => ?_)
       · refine sgz 4 [] (kAt (cAt (bodyOf Tryz.f38) [1,0,1,0,0]) [1,1,0,0,1,1,0,1] (.inv (LI 38 [] (destLp d a c m b1 w) k) :: (kEnd (bodyOf Tryz.f38) [1,0,1,0] []))) [(1,iv m),(2,pt b1 0),(4,.bool false),(8,.slice a d.origins.length c),(9,iv ((d.origins.length:Nat):Int)),(10,iv ((k:Nat):Int))] [] trivial ?_
         exact retD (hs := []) (vs := [.bool false]) (ps := []) (by kernel_rfl) trivial (v := .bool false) rfl (⟨by unfold destB; rw [decide_eq_false (OrigOk.not hk2 (fun e => by have h3 := h2.2; have := e.2 (by omega); omega))]; rfl,K1⟩)
       · refine sgz 6 [] (.inv (LI 38 [] (destLp d a c m b1 w) k) :: (kEnd (bodyOf Tryz.f38) [1,0,1,0] [])) [(1,iv m),(2,pt b1 0),(8,.slice a d.origins.length c),(9,iv ((d.origins.length:Nat):Int)),(10,iv ((k + 1:Nat):Int))] [I64 ((k + 1:Nat):Int)] (A1 (i64 (by omega))) ?_
         exact again (k + 1) [1,2,8,9,10] (by kernel_rfl) (⟨K1,KM,by omega,ho.step hpl (by intro _; apply Classical.byContradiction; intro hn; exact h2 ⟨by omega,by omega⟩)⟩) (show d.origins.length - (k + 1) < d.origins.length - k by omega)
     · refine sgz 23 [.exec,.exec,.exec,.skip,.skip,.skip,.skip,.skip,.skip,.skip,.skip,.exec,.skip] (.inv (LI 38 [] (destLp d a c m b1 w) k) :: (kEnd (bodyOf Tryz.f38) [1,0,1,0] [])) [(1,iv m),(2,pt b1 0),(8,.slice a d.origins.length c),(9,iv ((d.origins.length:Nat):Int)),(10,iv ((k + 1:Nat):Int))] [false = false,false = false,false = false,(decide ((0 : Int) < ((k:Nat):Int))) = (!true),(decide ((0 : Int) < ((k:Nat):Int))) = (!true),(decide ((0 : Int) < ((k:Nat):Int))) = (!true),(decide ((0 : Int) < ((k:Nat):Int))) = (!true),(decide ((0 : Int) < ((k:Nat):Int))) = (!true),(decide ((0 : Int) < ((k:Nat):Int))) = (!true),(decide ((0 : Int) < ((k:Nat):Int))) = (!true),(decide ((0 : Int) < ((k:Nat):Int))) = (!true),false = false,(decide ((0 : Int) < ((k:Nat):Int))) = false,false = false,I64 ((k + 1:Nat):Int)] (AC rfl (AC rfl (AC rfl (AC (decide_eq_false hk0) (AC (decide_eq_false hk0) (AC (decide_eq_false hk0) (AC (decide_eq_false hk0) (AC (decide_eq_false hk0) (AC (decide_eq_false hk0) (AC (decide_eq_false hk0) (AC (decide_eq_false hk0) (AC rfl (AC (decide_eq_false hk0) (AC rfl (A1 (i64 (by omega))))))))))))))))) ?_
       exact again (k + 1) [1,2,8,9,10] (by kernel_rfl) (⟨K1,KM,by omega,ho.step hpl (by intro h; omega)⟩) (show d.origins.length - (k + 1) < d.origins.length - k by omega)
   · refine stEq (st' := (stz [(1,iv m),(2,pt b1 0),(5,iv ((k:Nat):Int)),(6,iv (d.origins.getD k 0)),(8,.slice a d.origins.length c),(9,iv ((d.origins.length:Nat):Int)),(10,iv ((k:Nat):Int)),(15,iv (d.origins.getD k 0)),(16,iv m),(17,.bool false)])) (by rw [show (placeB (d.origins.getD k 0) m) = false from Bool.eq_false_iff.2 hpl] <;> rfl) ?_
     refine sgz 21 [.skip,.skip,.skip,.skip,.skip,.skip,.skip,.skip,.skip,.skip,.skip,.skip,.exec] (kAt (cAt (bodyOf Tryz.f38) [1,0,1,0,0]) [1,1,0,0,1,1,0,1] (.inv (LI 38 [] (destLp d a c m b1 w) k) :: (kEnd (bodyOf Tryz.f38) [1,0,1,0] []))) [(1,iv m),(2,pt b1 0),(4,.bool false),(8,.slice a d.origins.length c),(9,iv ((d.origins.length:Nat):Int)),(10,iv ((k:Nat):Int))] [true = (!false),true = (!false),true = (!false),true = (!false),true = true,true = true] (AC rfl (AC rfl (AC rfl (AC rfl (AC rfl (A1 rfl)))))) ?_
     exact retD (hs := []) (vs := [.bool false]) (ps := []) (by kernel_rfl) trivial (v := .bool false) rfl (⟨by unfold destB; rw [decide_eq_false (OrigOk.not hk2 (fun e => hpl e.1))]; rfl,K1⟩)
 · have hkl : k = d.origins.length := by omega
   have ho2 : OrigOk d.origins m d.origins.length := by rw [← hkl]; exact ho
   refine sgz 9 [.ld (.slice a d.origins.length c)] (kAt (bodyOf Tryz.f38) [1,1,1] []) [(4,.bool (decide ((0 : Int) < ((d.origins.length:Nat):Int))))] [w0.cell? ⟨b1,1,none⟩ = some (.slice a d.origins.length c)] (A1 (cell_of (KM.blk 0 rfl) rfl)) ?_
   exact retD (hs := []) (vs := [.bool (decide ((0 : Int) < ((d.origins.length:Nat):Int)))]) (ps := []) (by kernel_rfl) trivial (v := .bool (decide ((0 : Int) < ((d.origins.length:Nat):Int)))) rfl (⟨by unfold destB; rw [decide_eq_true ho2,Bool.true_and]; congr 1; exact decide_eq_decide.2 (by omega),K1⟩)

end Go.Proofs.YtjhgghpeapmgdaaGreatDoor
