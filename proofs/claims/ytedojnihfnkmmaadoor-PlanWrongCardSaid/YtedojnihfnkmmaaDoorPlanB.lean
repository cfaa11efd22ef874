/-
  PLAN: contracts of the small functions of plan.
-/
import Derived.Test.YtedojnihfnkmmaaDoorPlanA
import Derived.Test.YtedojnihfnkmmaaDoorPlanSpec
namespace Go.Proofs.YtedojnihfnkmmaaDoor
open Go.Bk Go.Proofs

theorem E38 : Proofs.Enters Tryd.prog 38 := Proofs.enters_of Tryd.func38 (by kernel_rfl) rfl

theorem E47 : Proofs.Enters Tryd.prog 47 := Proofs.enters_of Tryd.func47 (by kernel_rfl) rfl

theorem E37 : Proofs.Enters Tryd.prog 37 := Proofs.enters_of Tryd.func37 (by kernel_rfl) rfl

set_option maxRecDepth 20000 in
theorem within_any (n l m : Int) (w : World)  :
    Does Tryd.prog 38 [.int .i64 n, .int .i64 l, .int .i64 m] w (fun v w' => v = .bool (withinB n l m) ∧ w = w') := by
 refine startD (c := (bodyOf Tryd.f38)) Tryd.func38 rfl (by kernel_rfl) ?_
 show G _ 15 [] _ (kAt (bodyOf Tryd.f38) [] []) [(0, none, .int .i64 n), (1, none, .int .i64 l), (2, none, .int .i64 m)] w
 refine sgs 16 [.sym, .sym, .sym] [6] (kAt (bodyOf Tryd.f38) [1, 1] []) [(6, none, .bool ((decide ((l : Int) ≤ n)) && (decide ((n : Int) ≤ m))))] [(decide ((l : Int) ≤ n)) = true → (decide ((l : Int) ≤ n)) = true, (decide ((l : Int) ≤ n)) = true → (decide ((l : Int) ≤ n)) = true, (decide ((l : Int) ≤ n)) = true → (decide ((l : Int) ≤ n)) = true] ⟨(fun h => h), (fun h => h), (show (decide ((l : Int) ≤ n)) = true → (decide ((l : Int) ≤ n)) = true from fun h => h)⟩ ?_
 exact retD (hs := []) (vs := [.bool ((decide ((l : Int) ≤ n)) && (decide ((n : Int) ≤ m)))]) (ps := []) (by kernel_rfl) trivial (v := .bool ((decide ((l : Int) ≤ n)) && (decide ((n : Int) ≤ m)))) rfl (⟨rfl, rfl⟩)

set_option maxRecDepth 20000 in
theorem place_any (k m : Int) (w : World)  :
    Does Tryd.prog 47 [.int .i64 k, .int .i64 m] w (fun v w' => v = .bool (placeB k m) ∧ w = w') := by
 refine startD (c := (bodyOf Tryd.f47)) Tryd.func47 rfl (by kernel_rfl) ?_
 show G _ 12 [] _ (kAt (bodyOf Tryd.f47) [] []) [(0, none, .int .i64 k), (1, none, .int .i64 m)] w
 refine sgs 15 [.sym, .sym, .sym] [4] (kAt (bodyOf Tryd.f47) [1, 1] []) [(4, none, .bool ((decide ((0 : Int) ≤ k)) && (decide ((k : Int) < m))))] [(decide ((0 : Int) ≤ k)) = true → (decide ((0 : Int) ≤ k)) = true, (decide ((0 : Int) ≤ k)) = true → (decide ((0 : Int) ≤ k)) = true, (decide ((0 : Int) ≤ k)) = true → (decide ((0 : Int) ≤ k)) = true] ⟨(fun h => h), (fun h => h), (show (decide ((0 : Int) ≤ k)) = true → (decide ((0 : Int) ≤ k)) = true from fun h => h)⟩ ?_
 exact retD (hs := []) (vs := [.bool ((decide ((0 : Int) ≤ k)) && (decide ((k : Int) < m)))]) (ps := []) (by kernel_rfl) trivial (v := .bool ((decide ((0 : Int) ≤ k)) && (decide ((k : Int) < m)))) rfl (⟨rfl, rfl⟩)

set_option maxRecDepth 20000 in
theorem routing_any (p : PPlan) (q : PAd) (w : World)  :
    Does Tryd.prog 37 [.agg #[.int .i64 p.proto, .int .i64 p.cap, .int .i64 p.k, .slice q.a1 p.nodes.length q.c1, .slice q.a2 p.links.length q.c2, .slice q.a3 p.dests.length q.c3, .slice q.a4 p.checks.length q.c4]] w (fun v w' => v = .bool (routingB p) ∧ Ext w w') := by
 refine startD (c := (bodyOf Tryd.f37)) Tryd.func37 rfl (by kernel_rfl) ?_
 show G _ 15 [] _ (kAt (bodyOf Tryd.f37) [] []) [(0, none, .agg #[.int .i64 p.proto, .int .i64 p.cap, .int .i64 p.k, .slice q.a1 p.nodes.length q.c1, .slice q.a2 p.links.length q.c2, .slice q.a3 p.dests.length q.c3, .slice q.a4 p.checks.length q.c4])] w
 have hE1 : Ext w w := Ext.refl w
 have hM2 : Hold w w.heap.size [] := Hold.nil hE1.le
 refine sgs 2 [] [0] (kOp (bodyOf Tryd.f37) [0] 0 []) [(0, none, .agg #[.int .i64 p.proto, .int .i64 p.cap, .int .i64 p.k, .slice q.a1 p.nodes.length q.c1, .slice q.a2 p.links.length q.c2, .slice q.a3 p.dests.length q.c3, .slice q.a4 p.checks.length q.c4])] [] trivial ?_
 refine oss [] (.box 29 (.agg #[.int .i64 p.proto, .int .i64 p.cap, .int .i64 p.k, .slice q.a1 p.nodes.length q.c1, .slice q.a2 p.links.length q.c2, .slice q.a3 p.dests.length q.c3, .slice q.a4 p.checks.length q.c4])) (some 1) (kOp (bodyOf Tryd.f37) [0] 1 []) [] trivial (runs_box _ _) ?_
 rintro _ w1 ⟨b1, rfl, hN3⟩
 have hE4 := hE1.trans hN3.ext
 have hM5 := hM2.new hN3
 refine sgs 14 [.ld (.int .i64 p.proto)] [1, 2, 4, 5] (kAt (bodyOf Tryd.f37) [1, 0, 1, 0, 1] []) [(1, none, .pointer (some ⟨b1, 0, none⟩)), (2, none, .bool false), (4, none, .int .i64 p.proto), (5, none, .bool (decide ((p.proto : Int) = (1 : Int))))] [w1.cell? ⟨b1, 0, none⟩ = some (.int .i64 p.proto)] (show w1.cell? ⟨b1, 0, none⟩ = some (.int .i64 p.proto) from cell_of (hM5.blk 0 rfl) rfl) ?_
 refine brs (decide ((p.proto : Int) = (1 : Int))) (kAt (bodyOf Tryd.f37) [1, 0, 1, 0, 1, 0] []) (kAt (bodyOf Tryd.f37) [1, 0, 1, 0, 1, 1] []) ((p.proto : Int) = (1 : Int)) (iffDec) (fun h1 => ?_) (fun h1 => ?_)
 · refine sgs 7 [.ld (.int .i64 p.cap)] [2] (kAt (bodyOf Tryd.f37) [1, 0, 1, 0, 1, 0, 1] []) [(2, none, .bool (decide ((p.cap : Int) = (0 : Int))))] [w1.cell? ⟨b1, 1, none⟩ = some (.int .i64 p.cap)] (show w1.cell? ⟨b1, 1, none⟩ = some (.int .i64 p.cap) from cell_of (hM5.blk 0 rfl) rfl) ?_
   exact retD (hs := []) (vs := [.bool (decide ((p.cap : Int) = (0 : Int)))]) (ps := []) (by kernel_rfl) trivial (v := .bool (decide ((p.cap : Int) = (0 : Int)))) rfl (⟨by unfold routingB; rw [if_pos h1], hE4⟩)
 · refine sgs 5 [] [1, 2, 10] (kAt (bodyOf Tryd.f37) [1, 0, 1, 0, 1, 1, 1] []) [(1, none, .pointer (some ⟨b1, 0, none⟩)), (2, none, .bool false), (10, none, .bool (decide ((p.proto : Int) = (2 : Int))))] [] trivial ?_
   refine brs (decide ((p.proto : Int) = (2 : Int))) (kAt (bodyOf Tryd.f37) [1, 0, 1, 0, 1, 1, 1, 0] []) (kAt (bodyOf Tryd.f37) [1, 0, 1, 0, 1, 1, 1, 1] []) ((p.proto : Int) = (2 : Int)) (iffDec) (fun h2 => ?_) (fun h2 => ?_)
   · refine sgs 4 [.ld (.int .i64 p.cap)] [2, 13] (kOp (bodyOf Tryd.f37) [1, 0, 1, 0, 1, 1, 1, 0, 0] 2 []) [(2, none, .bool false), (13, none, .int .i64 p.cap)] [w1.cell? ⟨b1, 1, none⟩ = some (.int .i64 p.cap)] (show w1.cell? ⟨b1, 1, none⟩ = some (.int .i64 p.cap) from cell_of (hM5.blk 0 rfl) rfl) ?_
     refine oss [] (.call 38 [.int .i64 p.cap, .int .i64 (1 : Int), .int .i64 (12 : Int)]) (some 14) (kOp (bodyOf Tryd.f37) [1, 0, 1, 0, 1, 1, 1, 0, 0] 3 []) [] trivial (runs_call E38 (within_any p.cap 1 12 w1)) ?_
     rintro _ _ ⟨rfl, rfl⟩
     refine sgs 2 [] [2] (kAt (bodyOf Tryd.f37) [1, 0, 1, 0, 1, 1, 1, 0, 1] []) [(2, none, .bool (withinB p.cap 1 12))] [] trivial ?_
     exact retD (hs := []) (vs := [.bool (withinB p.cap 1 12)]) (ps := []) (by kernel_rfl) trivial (v := .bool (withinB p.cap 1 12)) rfl (⟨by unfold routingB; rw [if_neg h1, if_pos h2], hE4⟩)
   · refine sgs 6 [] [2] (kAt (bodyOf Tryd.f37) [1, 1, 1] []) [(2, none, .bool false)] [] trivial ?_
     exact retD (hs := []) (vs := [.bool false]) (ps := []) (by kernel_rfl) trivial (v := .bool false) rfl (⟨by unfold routingB; rw [if_neg h1, if_neg h2], hE4⟩)

theorem E34 : Proofs.Enters Tryd.prog 34 := Proofs.enters_of Tryd.func34 (by kernel_rfl) rfl

def destLp (d : PDest) (a : Option Addr) (c : Nat) (m : Int) (b1 : Nat) (w : World) : Lp Nat where
  S := fun k => [(1, none, .int .i64 m), (2, none, .pointer (some ⟨b1, 0, none⟩)), (8, none, .slice a d.origins.length c), (9, none, .int .i64 ((d.origins.length : Nat) : Int)), (10, none, .int .i64 ((k : Nat) : Int))]
  J := fun k w' => Ext w w' ∧ Hold w' w.heap.size [.blk b1 ([.string (bs d.name), .slice a d.origins.length c]) 40] ∧ k ≤ d.origins.length ∧ OrigOk d.origins m k
  M := fun k => d.origins.length - k
set_option maxRecDepth 20000 in
theorem dest_any (d : PDest) (a : Option Addr) (c : Nat) (m : Int) (w : World) (hc : Cells w a (d.origins.flatMap intCells)) (hl : d.origins.length ≤ 140737488355328) :
    Does Tryd.prog 34 [.agg #[.string (bs d.name), .slice a d.origins.length c], .int .i64 m] w (fun v w' => v = .bool (destB d m) ∧ Ext w w') := by
 refine startD (c := (bodyOf Tryd.f34)) Tryd.func34 rfl (by kernel_rfl) ?_
 show G _ 38 [] _ (kAt (bodyOf Tryd.f34) [] []) [(0, none, .agg #[.string (bs d.name), .slice a d.origins.length c]), (1, none, .int .i64 m)] w
 have hE1 : Ext w w := Ext.refl w
 have hM2 : Hold w w.heap.size [] := Hold.nil hE1.le
 refine sgs 2 [] [0, 1] (kOp (bodyOf Tryd.f34) [0] 0 []) [(0, none, .agg #[.string (bs d.name), .slice a d.origins.length c]), (1, none, .int .i64 m)] [] trivial ?_
 refine oss [] (.box 40 (.agg #[.string (bs d.name), .slice a d.origins.length c])) (some 2) (kOp (bodyOf Tryd.f34) [0] 1 []) [] trivial (runs_box _ _) ?_
 rintro _ w1 ⟨b1, rfl, hN3⟩
 have hE4 := hE1.trans hN3.ext
 have hM5 := hM2.new hN3
 refine sgs 11 [.ld (.slice a d.origins.length c)] [1, 2, 4, 8, 9, 10] (kAt (bodyOf Tryd.f34) [1, 0, 1, 0] []) [(1, none, .int .i64 m), (2, none, .pointer (some ⟨b1, 0, none⟩)), (4, none, .bool false), (8, none, .slice a d.origins.length c), (9, none, .int .i64 ((d.origins.length : Nat) : Int)), (10, none, .int .i64 (0 : Int))] [w1.cell? ⟨b1, 1, none⟩ = some (.slice a d.origins.length c)] (show w1.cell? ⟨b1, 1, none⟩ = some (.slice a d.origins.length c) from cell_of (hM5.blk 0 rfl) rfl) ?_
 refine loopR (destLp d a c m b1 w) (k' := (kEnd (bodyOf Tryd.f34) [1, 0, 1, 0] [])) (body := (cAt (bodyOf Tryd.f34) [1, 0, 1, 0, 0])) (by kernel_rfl) 0 [1, 2, 8, 9, 10] (by kernel_rfl) (⟨hE4, hM5, by omega, fun i h => by omega⟩) ?_
 rintro k w0 ⟨K1, KM, hk, ho⟩
 refine sgs 5 [] [1, 2, 8, 9, 10, 11] (kAt (cAt (bodyOf Tryd.f34) [1, 0, 1, 0, 0]) [1, 0] (.inv (LI 38 [] (destLp d a c m b1 w) k) :: (kEnd (bodyOf Tryd.f34) [1, 0, 1, 0] []))) [(1, none, .int .i64 m), (2, none, .pointer (some ⟨b1, 0, none⟩)), (8, none, .slice a d.origins.length c), (9, none, .int .i64 ((d.origins.length : Nat) : Int)), (10, none, .int .i64 ((k : Nat) : Int)), (11, none, .bool (decide (((k : Nat) : Int) < ((d.origins.length : Nat) : Int))))] [] trivial ?_
 refine brs (decide (((k : Nat) : Int) < ((d.origins.length : Nat) : Int))) (kAt (cAt (bodyOf Tryd.f34) [1, 0, 1, 0, 0]) [1, 0, 0] (.inv (LI 38 [] (destLp d a c m b1 w) k) :: (kEnd (bodyOf Tryd.f34) [1, 0, 1, 0] []))) (kAt (cAt (bodyOf Tryd.f34) [1, 0, 1, 0, 0]) [1, 0, 1] (.inv (LI 38 [] (destLp d a c m b1 w) k) :: (kEnd (bodyOf Tryd.f34) [1, 0, 1, 0] []))) (((k : Nat) : Int) < ((d.origins.length : Nat) : Int)) (iffDec) (fun h1 => ?_) (fun h1 => ?_)
 · have hk2 : k < d.origins.length := by omega
   have ha := hc.addrE intCells_len (by decide) hk2
   refine sgs 15 [.ld (.int .i64 (d.origins.getD k 0))] [1, 2, 5, 6, 8, 9, 10, 15, 16] (kOp (cAt (bodyOf Tryd.f34) [1, 0, 1, 0, 0]) [1, 1, 0, 0, 1, 0] 2 (.inv (LI 38 [] (destLp d a c m b1 w) k) :: (kEnd (bodyOf Tryd.f34) [1, 0, 1, 0] []))) [(1, none, .int .i64 m), (2, none, .pointer (some ⟨b1, 0, none⟩)), (5, none, .int .i64 ((k : Nat) : Int)), (6, none, .int .i64 (d.origins.getD k 0)), (8, none, .slice a d.origins.length c), (9, none, .int .i64 ((d.origins.length : Nat) : Int)), (10, none, .int .i64 ((k : Nat) : Int)), (15, none, .int .i64 (d.origins.getD k 0)), (16, none, .int .i64 m)] [(0 ≤ ((k : Nat) : Int) ∧ ((k : Nat) : Int) < ((d.origins.length : Nat) : Int)), (a : Option Addr) = some ⟨(slB a), slO a, none⟩, w0.cell? ⟨(slB a), slO a + k * 1, none⟩ = some (.int .i64 (d.origins.getD k 0))] ⟨(by omega), (by assumption), (show w0.cell? ⟨(slB a), slO a + k * 1, none⟩ = some (.int .i64 (d.origins.getD k 0)) from K1.cell (int_cell hc hk2))⟩ ?_
   refine oss [] (.call 47 [.int .i64 (d.origins.getD k 0), .int .i64 m]) (some 17) (kOp (cAt (bodyOf Tryd.f34) [1, 0, 1, 0, 0]) [1, 1, 0, 0, 1, 0] 3 (.inv (LI 38 [] (destLp d a c m b1 w) k) :: (kEnd (bodyOf Tryd.f34) [1, 0, 1, 0] []))) [] trivial (runs_call E47 (place_any (d.origins.getD k 0) m w0)) ?_
   rintro _ _ ⟨rfl, rfl⟩
   by_cases hpl : (placeB (d.origins.getD k 0) m) = true
   · refine stEq (st' := [(1, none, .int .i64 m), (2, none, .pointer (some ⟨b1, 0, none⟩)), (5, none, .int .i64 ((k : Nat) : Int)), (6, none, .int .i64 (d.origins.getD k 0)), (8, none, .slice a d.origins.length c), (9, none, .int .i64 ((d.origins.length : Nat) : Int)), (10, none, .int .i64 ((k : Nat) : Int)), (15, none, .int .i64 (d.origins.getD k 0)), (16, none, .int .i64 m), (17, none, .bool true)]) (by rw [show (placeB (d.origins.getD k 0) m) = true from hpl] <;> rfl) ?_
     by_cases hk0 : (0 : Int) < ((k : Nat) : Int)
     · refine sgs 16 [.exec, .exec, .exec, .exec, .exec, .ld (.slice a d.origins.length c), .exec, .exec, .exec, .exec, .ld (.int .i64 (d.origins.getD (k - 1) 0)), .exec, .exec, .exec] [1, 2, 8, 9, 10, 32] (kAt (cAt (bodyOf Tryd.f34) [1, 0, 1, 0, 0]) [1, 1, 0, 0, 1, 1] (.inv (LI 38 [] (destLp d a c m b1 w) k) :: (kEnd (bodyOf Tryd.f34) [1, 0, 1, 0] []))) [(1, none, .int .i64 m), (2, none, .pointer (some ⟨b1, 0, none⟩)), (8, none, .slice a d.origins.length c), (9, none, .int .i64 ((d.origins.length : Nat) : Int)), (10, none, .int .i64 ((k : Nat) : Int)), (32, none, .bool ((decide ((0 : Int) < ((k : Nat) : Int))) && (decide ((d.origins.getD k 0 : Int) ≤ d.origins.getD (k - 1) 0))))] [false = false, false = false, false = false, (decide ((0 : Int) < ((k : Nat) : Int))) = true, (decide ((0 : Int) < ((k : Nat) : Int))) = true, w0.cell? ⟨b1, 1, none⟩ = some (.slice a d.origins.length c), (decide ((0 : Int) < ((k : Nat) : Int))) = true, (decide ((0 : Int) < ((k : Nat) : Int))) = true, (-9223372036854775808 ≤ (((k : Nat) : Int) - (1 : Int)) ∧ (((k : Nat) : Int) - (1 : Int)) ≤ 9223372036854775807), (decide ((0 : Int) < ((k : Nat) : Int))) = true, (0 ≤ (((k : Nat) : Int) - (1 : Int)) ∧ (((k : Nat) : Int) - (1 : Int)) < ((d.origins.length : Nat) : Int)), (a : Option Addr) = some ⟨(slB a), slO a, none⟩, (decide ((0 : Int) < ((k : Nat) : Int))) = true, w0.cell? ⟨(slB a), slO a + (((((k : Nat) : Int) - (1 : Int))).toNat) * 1, none⟩ = some (.int .i64 (d.origins.getD (k - 1) 0)), (decide ((0 : Int) < ((k : Nat) : Int))) = true, (decide ((0 : Int) < ((k : Nat) : Int))) = true, false = false] ⟨(rfl), (rfl), (rfl), (decide_eq_true hk0), (decide_eq_true hk0), (cell_of (KM.blk 0 rfl) rfl), (decide_eq_true hk0), (decide_eq_true hk0), (by omega), (decide_eq_true hk0), (by omega), (by assumption), (decide_eq_true hk0), (by rw [show (((k : Nat) : Int) - (1 : Int)).toNat = k - 1 by omega]; exact K1.cell (int_cell hc (by omega))), (decide_eq_true hk0), (decide_eq_true hk0), (show false = false from rfl)⟩ ?_
       refine brs ((decide ((0 : Int) < ((k : Nat) : Int))) && (decide ((d.origins.getD k 0 : Int) ≤ d.origins.getD (k - 1) 0))) (kAt (cAt (bodyOf Tryd.f34) [1, 0, 1, 0, 0]) [1, 1, 0, 0, 1, 1, 0] (.inv (LI 38 [] (destLp d a c m b1 w) k) :: (kEnd (bodyOf Tryd.f34) [1, 0, 1, 0] []))) (kAt (cAt (bodyOf Tryd.f34) [1, 0, 1, 0, 0]) [1, 1, 0, 0, 1, 1, 1] (.inv (LI 38 [] (destLp d a c m b1 w) k) :: (kEnd (bodyOf Tryd.f34) [1, 0, 1, 0] []))) (((0 : Int) < ((k : Nat) : Int)) ∧ ((d.origins.getD k 0 : Int) ≤ d.origins.getD (k - 1) 0)) ((iffAnd iffDec iffDec)) (fun h2 => ?_) (fun h2 => ?_)
       · refine sgs 4 [] [1, 2, 4, 8, 9, 10] (kAt (cAt (bodyOf Tryd.f34) [1, 0, 1, 0, 0]) [1, 1, 0, 0, 1, 1, 0, 1] (.inv (LI 38 [] (destLp d a c m b1 w) k) :: (kEnd (bodyOf Tryd.f34) [1, 0, 1, 0] []))) [(1, none, .int .i64 m), (2, none, .pointer (some ⟨b1, 0, none⟩)), (4, none, .bool false), (8, none, .slice a d.origins.length c), (9, none, .int .i64 ((d.origins.length : Nat) : Int)), (10, none, .int .i64 ((k : Nat) : Int))] [] trivial ?_
         exact retD (hs := []) (vs := [.bool false]) (ps := []) (by kernel_rfl) trivial (v := .bool false) rfl (⟨by unfold destB; rw [decide_eq_false (OrigOk.not hk2 (fun e => by have h3 := h2.2; have := e.2 (by omega); omega))]; rfl, K1⟩)
       · refine sgs 6 [] [1, 2, 8, 9, 10] (.inv (LI 38 [] (destLp d a c m b1 w) k) :: (kEnd (bodyOf Tryd.f34) [1, 0, 1, 0] [])) [(1, none, .int .i64 m), (2, none, .pointer (some ⟨b1, 0, none⟩)), (8, none, .slice a d.origins.length c), (9, none, .int .i64 ((d.origins.length : Nat) : Int)), (10, none, .int .i64 ((k + 1 : Nat) : Int))] [(-9223372036854775808 ≤ ((k + 1 : Nat) : Int) ∧ ((k + 1 : Nat) : Int) ≤ 9223372036854775807)] (show (-9223372036854775808 ≤ ((k + 1 : Nat) : Int) ∧ ((k + 1 : Nat) : Int) ≤ 9223372036854775807) from by omega) ?_
         exact again (k + 1) [1, 2, 8, 9, 10] (by kernel_rfl) (⟨K1, KM, by omega, ho.step hpl (by intro _; apply Classical.byContradiction; intro hn; exact h2 ⟨by omega, by omega⟩)⟩) (show d.origins.length - (k + 1) < d.origins.length - k by omega)
     · refine sgs 23 [.exec, .exec, .exec, .skip, .skip, .skip, .skip, .skip, .skip, .skip, .skip, .exec, .skip] [1, 2, 8, 9, 10] (.inv (LI 38 [] (destLp d a c m b1 w) k) :: (kEnd (bodyOf Tryd.f34) [1, 0, 1, 0] [])) [(1, none, .int .i64 m), (2, none, .pointer (some ⟨b1, 0, none⟩)), (8, none, .slice a d.origins.length c), (9, none, .int .i64 ((d.origins.length : Nat) : Int)), (10, none, .int .i64 ((k + 1 : Nat) : Int))] [false = false, false = false, false = false, (decide ((0 : Int) < ((k : Nat) : Int))) = (!true), (decide ((0 : Int) < ((k : Nat) : Int))) = (!true), (decide ((0 : Int) < ((k : Nat) : Int))) = (!true), (decide ((0 : Int) < ((k : Nat) : Int))) = (!true), (decide ((0 : Int) < ((k : Nat) : Int))) = (!true), (decide ((0 : Int) < ((k : Nat) : Int))) = (!true), (decide ((0 : Int) < ((k : Nat) : Int))) = (!true), (decide ((0 : Int) < ((k : Nat) : Int))) = (!true), false = false, (decide ((0 : Int) < ((k : Nat) : Int))) = false, false = false, (-9223372036854775808 ≤ ((k + 1 : Nat) : Int) ∧ ((k + 1 : Nat) : Int) ≤ 9223372036854775807)] ⟨(rfl), (rfl), (rfl), (decide_eq_false hk0), (decide_eq_false hk0), (decide_eq_false hk0), (decide_eq_false hk0), (decide_eq_false hk0), (decide_eq_false hk0), (decide_eq_false hk0), (decide_eq_false hk0), (rfl), (decide_eq_false hk0), (rfl), (show (-9223372036854775808 ≤ ((k + 1 : Nat) : Int) ∧ ((k + 1 : Nat) : Int) ≤ 9223372036854775807) from by omega)⟩ ?_
       exact again (k + 1) [1, 2, 8, 9, 10] (by kernel_rfl) (⟨K1, KM, by omega, ho.step hpl (by intro h; omega)⟩) (show d.origins.length - (k + 1) < d.origins.length - k by omega)
   · refine stEq (st' := [(1, none, .int .i64 m), (2, none, .pointer (some ⟨b1, 0, none⟩)), (5, none, .int .i64 ((k : Nat) : Int)), (6, none, .int .i64 (d.origins.getD k 0)), (8, none, .slice a d.origins.length c), (9, none, .int .i64 ((d.origins.length : Nat) : Int)), (10, none, .int .i64 ((k : Nat) : Int)), (15, none, .int .i64 (d.origins.getD k 0)), (16, none, .int .i64 m), (17, none, .bool false)]) (by rw [show (placeB (d.origins.getD k 0) m) = false from Bool.eq_false_iff.2 hpl] <;> rfl) ?_
     refine sgs 21 [.skip, .skip, .skip, .skip, .skip, .skip, .skip, .skip, .skip, .skip, .skip, .skip, .exec] [1, 2, 4, 8, 9, 10] (kAt (cAt (bodyOf Tryd.f34) [1, 0, 1, 0, 0]) [1, 1, 0, 0, 1, 1, 0, 1] (.inv (LI 38 [] (destLp d a c m b1 w) k) :: (kEnd (bodyOf Tryd.f34) [1, 0, 1, 0] []))) [(1, none, .int .i64 m), (2, none, .pointer (some ⟨b1, 0, none⟩)), (4, none, .bool false), (8, none, .slice a d.origins.length c), (9, none, .int .i64 ((d.origins.length : Nat) : Int)), (10, none, .int .i64 ((k : Nat) : Int))] [true = (!false), true = (!false), true = (!false), true = (!false), true = true, true = true] ⟨(rfl), (rfl), (rfl), (rfl), (rfl), (show true = true from rfl)⟩ ?_
     exact retD (hs := []) (vs := [.bool false]) (ps := []) (by kernel_rfl) trivial (v := .bool false) rfl (⟨by unfold destB; rw [decide_eq_false (OrigOk.not hk2 (fun e => hpl e.1))]; rfl, K1⟩)
 · have hkl : k = d.origins.length := by omega
   have ho2 : OrigOk d.origins m d.origins.length := by rw [← hkl]; exact ho
   refine sgs 9 [.ld (.slice a d.origins.length c)] [4] (kAt (bodyOf Tryd.f34) [1, 1, 1] []) [(4, none, .bool (decide ((0 : Int) < ((d.origins.length : Nat) : Int))))] [w0.cell? ⟨b1, 1, none⟩ = some (.slice a d.origins.length c)] (show w0.cell? ⟨b1, 1, none⟩ = some (.slice a d.origins.length c) from cell_of (KM.blk 0 rfl) rfl) ?_
   exact retD (hs := []) (vs := [.bool (decide ((0 : Int) < ((d.origins.length : Nat) : Int)))]) (ps := []) (by kernel_rfl) trivial (v := .bool (decide ((0 : Int) < ((d.origins.length : Nat) : Int)))) rfl (⟨by unfold destB; rw [decide_eq_true ho2, Bool.true_and]; congr 1; exact decide_eq_decide.2 (by omega), K1⟩)

end Go.Proofs.YtedojnihfnkmmaaDoor
