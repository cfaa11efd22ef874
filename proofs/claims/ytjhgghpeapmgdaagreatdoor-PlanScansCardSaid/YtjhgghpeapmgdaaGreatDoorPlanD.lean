/-
  PLAN: contracts of nodes, check, of the closures, of Node, Dest and Same.
-/
import Derived.Test.YtjhgghpeapmgdaaGreatDoorPlanC
import Derived.Test.YtjhgghpeapmgdaaGreatDoorMore
namespace Go.Proofs.YtjhgghpeapmgdaaGreatDoor
open Go.Bk Go.Proofs

theorem E43 : Proofs.Enters Tryz.prog 43 := Proofs.enters_of Tryz.func43 (by kernel_rfl) rfl

theorem E75 : Proofs.Enters Tryz.prog 75 := Proofs.enters_of Tryz.func75 (by kernel_rfl) rfl

theorem E40 : Proofs.Enters Tryz.prog 40 := Proofs.enters_of Tryz.func40 (by kernel_rfl) rfl

theorem E37 : Proofs.Enters Tryz.prog 37 := Proofs.enters_of Tryz.func37 (by kernel_rfl) rfl

theorem E39 : Proofs.Enters Tryz.prog 39 := Proofs.enters_of Tryz.func39 (by kernel_rfl) rfl

theorem E21 : Proofs.Enters Tryz.prog 21 := Proofs.enters_of Tryz.func21 (by kernel_rfl) rfl

theorem E59 : Proofs.Enters Tryz.prog 59 := Proofs.enters_of Tryz.func59 (by kernel_rfl) rfl

theorem E23 : Proofs.Enters Tryz.prog 23 := Proofs.enters_of Tryz.func23 (by kernel_rfl) rfl

theorem E61 : Proofs.Enters Tryz.prog 61 := Proofs.enters_of Tryz.func61 (by kernel_rfl) rfl

theorem E19 : Proofs.Enters Tryz.prog 19 := Proofs.enters_of Tryz.func19 (by kernel_rfl) rfl

theorem E52 : Proofs.Enters Tryz.prog 52 := Proofs.enters_of Tryz.func52 (by kernel_rfl) rfl

theorem E56 : Proofs.Enters Tryz.prog 56 := Proofs.enters_of Tryz.func56 (by kernel_rfl) rfl

set_option maxRecDepth 20000 in
theorem nodes1_any (x : PNode) (w : World)  :
    Does Tryz.prog 75 [.agg #[sv x.name,iv x.asn]] w (fun v w' => v = .bool (!asB x) ∧ Ext w w') := by
 refine startD (c := (bodyOf Tryz.f75)) Tryz.func75 rfl (by kernel_rfl) ?_
 show G _ 7 [] _ (kAt (bodyOf Tryz.f75) [] []) (stz [(0,.agg #[sv x.name,iv x.asn])]) w
 have hE1 : Ext w w := Ext.refl w
 have hM2 : Hold w w.heap.size [] := Hold.nil hE1.le
 refine sgz 2 [] (kOp (bodyOf Tryz.f75) [0] 0 []) [(0,.agg #[sv x.name,iv x.asn])] [] trivial ?_
 refine oss [] (.box 52 (.agg #[sv x.name,iv x.asn])) (some 1) (kOp (bodyOf Tryz.f75) [0] 1 []) [] trivial (runs_box _ _) ?_
 rintro _ w1 ⟨b1,rfl,hN3⟩
 have hE4 := hE1.trans hN3.ext
 have hM5 := hM2.new hN3
 refine sgz 6 [.ld (iv x.asn)] (kOp (bodyOf Tryz.f75) [1,0] 2 []) [(2,.bool false),(4,iv x.asn)] [w1.cell? ⟨b1,1,none⟩ = some (iv x.asn)] (A1 (cell_of (hM5.blk 0 rfl) rfl)) ?_
 refine oss [] (.call 42 [iv x.asn,iv (1 : Int),iv (65535 : Int)]) (some 5) (kOp (bodyOf Tryz.f75) [1,0] 3 []) [] trivial (runs_call E42 (within_any x.asn 1 65535 w1)) ?_
 rintro _ _ ⟨rfl,rfl⟩
 refine sgz 3 [] (kAt (bodyOf Tryz.f75) [1,1] []) [(2,.bool (!(withinB x.asn 1 65535)))] [] trivial ?_
 exact retD (hs := []) (vs := [.bool (!(withinB x.asn 1 65535))]) (ps := []) (by kernel_rfl) trivial (v := .bool (!(withinB x.asn 1 65535))) rfl (⟨rfl,hE4⟩)

set_option maxRecDepth 20000 in
theorem nodes_any (p : PPlan) (q : PAd) (w : World) (hP : PlanAt w p q) :
    Does Tryz.prog 43 [.agg #[iv p.proto,iv p.cap,iv p.k,.slice q.a1 p.nodes.length q.c1,.slice q.a2 p.links.length q.c2,.slice q.a3 p.dests.length q.c3,.slice q.a4 p.checks.length q.c4]] w (fun v w' => v = .bool (nodesB p) ∧ Ext w w') := by
 refine startD (c := (bodyOf Tryz.f43)) Tryz.func43 rfl (by kernel_rfl) ?_
 show G _ 15 [] _ (kAt (bodyOf Tryz.f43) [] []) (stz [(0,.agg #[iv p.proto,iv p.cap,iv p.k,.slice q.a1 p.nodes.length q.c1,.slice q.a2 p.links.length q.c2,.slice q.a3 p.dests.length q.c3,.slice q.a4 p.checks.length q.c4])]) w
 have hE1 : Ext w w := Ext.refl w
 have hM2 : Hold w w.heap.size [] := Hold.nil hE1.le
 refine sgz 2 [] (kOp (bodyOf Tryz.f43) [0] 0 []) [(0,.agg #[iv p.proto,iv p.cap,iv p.k,.slice q.a1 p.nodes.length q.c1,.slice q.a2 p.links.length q.c2,.slice q.a3 p.dests.length q.c3,.slice q.a4 p.checks.length q.c4])] [] trivial ?_
 refine oss [] (.box 29 (.agg #[iv p.proto,iv p.cap,iv p.k,.slice q.a1 p.nodes.length q.c1,.slice q.a2 p.links.length q.c2,.slice q.a3 p.dests.length q.c3,.slice q.a4 p.checks.length q.c4])) (some 1) (kOp (bodyOf Tryz.f43) [0] 1 []) [] trivial (runs_box _ _) ?_
 rintro _ w1 ⟨b1,rfl,hN3⟩
 have hE4 := hE1.trans hN3.ext
 have hM5 := hM2.new hN3
 refine sgz 11 [.ld (.slice q.a1 p.nodes.length q.c1)] (kOp (bodyOf Tryz.f43) [1,1,0] 3 []) [(1,pt b1 0),(2,.bool false),(3,.func (.func 75) #[] #[]),(6,iv ((p.nodes.length:Nat):Int))] [w1.cell? ⟨b1,3,none⟩ = some (.slice q.a1 p.nodes.length q.c1)] (A1 (cell_of (hM5.blk 0 rfl) rfl)) ?_
 refine oss [] (.call 42 [iv ((p.nodes.length:Nat):Int),iv (1 : Int),iv (12 : Int)]) (some 7) (kOp (bodyOf Tryz.f43) [1,1,0] 4 []) [] trivial (runs_call E42 (within_any p.nodes.length 1 12 w1)) ?_
 rintro _ _ ⟨rfl,rfl⟩
 refine sgs 4 [.sym,.sym,.ld (.slice q.a1 p.nodes.length q.c1),.sym] [2,8,10,11] (kOp (bodyOf Tryz.f43) [1,1,0] 8 []) [(2,none,.bool false),(8,none,.bool (withinB p.nodes.length 1 12)),(10,some (withinB p.nodes.length 1 12),.slice q.a1 p.nodes.length q.c1),(11,some (withinB p.nodes.length 1 12),.func (.func 75) #[] #[])] [(withinB p.nodes.length 1 12) = true → (withinB p.nodes.length 1 12) = true,(withinB p.nodes.length 1 12) = true → w1.cell? ⟨b1,3,none⟩ = some (.slice q.a1 p.nodes.length q.c1)] (AC (fun h => h) (A1 (fun _ => cell_of (hM5.blk 0 rfl) rfl))) ?_
 by_cases h1 : (withinB p.nodes.length 1 12) = true
 · refine oss [.exec] (.call 76 [.slice q.a1 p.nodes.length q.c1,.func (.func 75) #[] #[]]) (some 12) (kOp (bodyOf Tryz.f43) [1,1,0] 9 []) [(withinB p.nodes.length 1 12) = true,(withinB p.nodes.length 1 12) = true,(withinB p.nodes.length 1 12) = true] (AC h1 (AC (by simp_all) (A1 (by simp_all)))) (runs_call E76 (hasNode0 p.nodes q.a1 q.c1 75 (fun x => !asB x) w1 E75 (fun k hk w' hx => nodes1_any _ w') (hP.nodes.ext hE4) (by have := hP.l1; omega))) ?_
   rintro _ w2 ⟨rfl,hx⟩
   have hE6 := hE4.trans hx
   have hM7 := hM5.ext hx
   refine sgz 4 [.exec] (kAt (bodyOf Tryz.f43) [1,1,1] []) [(2,.bool ((withinB p.nodes.length 1 12) && (!(p.nodes.any fun x => !asB x))))] [(withinB p.nodes.length 1 12) = true] (A1 h1) ?_
   exact retD (hs := []) (vs := [.bool ((withinB p.nodes.length 1 12) && (!(p.nodes.any fun x => !asB x)))]) (ps := []) (by kernel_rfl) trivial (v := .bool ((withinB p.nodes.length 1 12) && (!(p.nodes.any fun x => !asB x)))) rfl (⟨by unfold nodesB; rw [h1,notAny asB,Bool.true_and],hE6⟩)
 · refine sgz 5 [.skip,.skip] (kAt (bodyOf Tryz.f43) [1,1,1] []) [(2,.bool false)] [(withinB p.nodes.length 1 12) = (!true),(withinB p.nodes.length 1 12) = (!true),(withinB p.nodes.length 1 12) = false] (AC (Bool.eq_false_iff.2 h1) (AC (Bool.eq_false_iff.2 h1) (A1 (Bool.eq_false_iff.2 h1)))) ?_
   exact retD (hs := []) (vs := [.bool false]) (ps := []) (by kernel_rfl) trivial (v := .bool false) rfl (⟨by unfold nodesB; rw [Bool.eq_false_iff.2 h1]; rfl,hE4⟩)

set_option maxRecDepth 20000 in
theorem check_any (p : PPlan) (q : PAd) (c : PCheck) (w : World)  :
    Does Tryz.prog 40 [.agg #[iv p.proto,iv p.cap,iv p.k,.slice q.a1 p.nodes.length q.c1,.slice q.a2 p.links.length q.c2,.slice q.a3 p.dests.length q.c3,.slice q.a4 p.checks.length q.c4],.agg #[iv c.kind,iv c.node,iv c.dest,iv c.limit,iv c.other]] w (fun v w' => v = .bool (checkB p c) ∧ Ext w w') := by
 refine startD (c := (bodyOf Tryz.f40)) Tryz.func40 rfl (by kernel_rfl) ?_
 show G _ 45 [] _ (kAt (bodyOf Tryz.f40) [] []) (stz [(0,.agg #[iv p.proto,iv p.cap,iv p.k,.slice q.a1 p.nodes.length q.c1,.slice q.a2 p.links.length q.c2,.slice q.a3 p.dests.length q.c3,.slice q.a4 p.checks.length q.c4]),(1,.agg #[iv c.kind,iv c.node,iv c.dest,iv c.limit,iv c.other])]) w
 have hE1 : Ext w w := Ext.refl w
 have hM2 : Hold w w.heap.size [] := Hold.nil hE1.le
 refine sgz 2 [] (kOp (bodyOf Tryz.f40) [0] 0 []) [(0,.agg #[iv p.proto,iv p.cap,iv p.k,.slice q.a1 p.nodes.length q.c1,.slice q.a2 p.links.length q.c2,.slice q.a3 p.dests.length q.c3,.slice q.a4 p.checks.length q.c4]),(1,.agg #[iv c.kind,iv c.node,iv c.dest,iv c.limit,iv c.other])] [] trivial ?_
 refine oss [] (.box 29 (.agg #[iv p.proto,iv p.cap,iv p.k,.slice q.a1 p.nodes.length q.c1,.slice q.a2 p.links.length q.c2,.slice q.a3 p.dests.length q.c3,.slice q.a4 p.checks.length q.c4])) (some 2) (kOp (bodyOf Tryz.f40) [0] 1 []) [] trivial (runs_box _ _) ?_
 rintro _ w1 ⟨b1,rfl,hN3⟩
 have hE4 := hE1.trans hN3.ext
 have hM5 := hM2.new hN3
 refine oss [] (.box 67 (.agg #[iv c.kind,iv c.node,iv c.dest,iv c.limit,iv c.other])) (some 3) (kOp (bodyOf Tryz.f40) [0] 2 []) [] trivial (runs_box _ _) ?_
 rintro _ w2 ⟨b2,rfl,hN6⟩
 have hE7 := hE4.trans hN6.ext
 have hM8 := hM5.new hN6
 refine sgz 19 [.ld (iv c.kind)] (kAt (bodyOf Tryz.f40) [1,1,0,1,0,1] []) [(2,pt b1 0),(3,pt b2 0),(4,.bool false),(5,iv (0 : Int)),(6,iv (1 : Int)),(8,iv c.kind),(9,.bool (decide ((c.kind : Int) = (1 : Int))))] [w2.cell? ⟨b2,0,none⟩ = some (iv c.kind)] (A1 (cell_of (hM8.blk 0 rfl) rfl)) ?_
 have tl : ∀ (lim oth : Int),checkB p c = checkR p.nodes.length p.dests.length c lim oth → G Tryz.prog 45 [] (bodyPost Tryz.prog Tryz.f40 (Ret fun v w' => v = .bool (checkB p c) ∧ Ext w w')) (kAt (bodyOf Tryz.f40) [1,1,1,0] []) (stz [(2,pt b1 0),(3,pt b2 0),(4,.bool false),(5,iv lim),(6,iv oth)]) w2 := by
   intro lim oth hce
   refine sgz 6 [.ld (iv c.node),.ld (.slice q.a1 p.nodes.length q.c1)] (kOp (bodyOf Tryz.f40) [1,1,1,0] 5 []) [(2,pt b1 0),(3,pt b2 0),(4,.bool false),(5,iv lim),(6,iv oth),(20,iv c.node),(23,iv ((p.nodes.length:Nat):Int))] [w2.cell? ⟨b2,1,none⟩ = some (iv c.node),w2.cell? ⟨b1,3,none⟩ = some (.slice q.a1 p.nodes.length q.c1)] (AC (cell_of (hM8.blk 0 rfl) rfl) (A1 (cell_of (hM8.blk 1 rfl) rfl))) ?_
   refine oss [] (.call 74 [iv c.node,iv ((p.nodes.length:Nat):Int)]) (some 24) (kOp (bodyOf Tryz.f40) [1,1,1,0] 6 []) [] trivial (runs_call E74 (place_any c.node p.nodes.length w2)) ?_
   rintro _ _ ⟨rfl,rfl⟩
   by_cases g0 : (placeB c.node p.nodes.length) = true
   · refine stEq (st' := (stz [(2,pt b1 0),(3,pt b2 0),(4,.bool false),(5,iv lim),(6,iv oth),(20,iv c.node),(23,iv ((p.nodes.length:Nat):Int)),(24,.bool true)])) (by rw [show (placeB c.node p.nodes.length) = true from g0] <;> rfl) ?_
     refine sgz 6 [.exec,.exec,.ld (iv c.dest),.exec,.exec,.ld (.slice q.a3 p.dests.length q.c3),.exec] (kOp (bodyOf Tryz.f40) [1,1,1,0] 12 []) [(3,pt b2 0),(4,.bool false),(5,iv lim),(6,iv oth),(25,.bool true),(27,iv c.dest),(30,iv ((p.dests.length:Nat):Int))] [true = true,true = true,w2.cell? ⟨b2,2,none⟩ = some (iv c.dest),true = true,true = true,w2.cell? ⟨b1,5,none⟩ = some (.slice q.a3 p.dests.length q.c3),true = true] (AC rfl (AC rfl (AC (cell_of (hM8.blk 0 rfl) rfl) (AC rfl (AC rfl (AC (cell_of (hM8.blk 1 rfl) rfl) (A1 rfl))))))) ?_
     refine oss [.exec] (.call 74 [iv c.dest,iv ((p.dests.length:Nat):Int)]) (some 31) (kOp (bodyOf Tryz.f40) [1,1,1,0] 13 []) [true = true] (A1 rfl) (runs_call E74 (place_any c.dest p.dests.length w2)) ?_
     rintro _ _ ⟨rfl,rfl⟩
     by_cases g1 : (placeB c.dest p.dests.length) = true
     · refine stEq (st' := (stz [(3,pt b2 0),(4,.bool false),(5,iv lim),(6,iv oth),(25,.bool true),(27,iv c.dest),(30,iv ((p.dests.length:Nat):Int)),(31,.bool true)])) (by rw [show (placeB c.dest p.dests.length) = true from g1] <;> rfl) ?_
       refine sgz 5 [.exec,.exec,.ld (iv c.limit),.exec] (kOp (bodyOf Tryz.f40) [1,1,1,0] 18 []) [(3,pt b2 0),(4,.bool false),(6,iv oth),(33,.bool true),(35,iv c.limit),(36,iv lim)] [true = true,true = true,w2.cell? ⟨b2,3,none⟩ = some (iv c.limit),true = true] (AC rfl (AC rfl (AC (cell_of (hM8.blk 0 rfl) rfl) (A1 rfl)))) ?_
       refine oss [.exec] (.call 42 [iv c.limit,iv (0 : Int),iv lim]) (some 37) (kOp (bodyOf Tryz.f40) [1,1,1,0] 19 []) [true = true] (A1 rfl) (runs_call E42 (within_any c.limit 0 lim w2)) ?_
       rintro _ _ ⟨rfl,rfl⟩
       by_cases g2 : (withinB c.limit 0 lim) = true
       · refine stEq (st' := (stz [(3,pt b2 0),(4,.bool false),(6,iv oth),(33,.bool true),(35,iv c.limit),(36,iv lim),(37,.bool true)])) (by rw [show (withinB c.limit 0 lim) = true from g2] <;> rfl) ?_
         refine sgz 5 [.exec,.exec,.ld (iv c.other),.exec] (kOp (bodyOf Tryz.f40) [1,1,1,0] 24 []) [(4,.bool false),(39,.bool true),(41,iv c.other),(42,iv oth)] [true = true,true = true,w2.cell? ⟨b2,4,none⟩ = some (iv c.other),true = true] (AC rfl (AC rfl (AC (cell_of (hM8.blk 0 rfl) rfl) (A1 rfl)))) ?_
         refine oss [.exec] (.call 74 [iv c.other,iv oth]) (some 43) (kOp (bodyOf Tryz.f40) [1,1,1,0] 25 []) [true = true] (A1 rfl) (runs_call E74 (place_any c.other oth w2)) ?_
         rintro _ _ ⟨rfl,rfl⟩
         refine sgz 3 [] (kAt (bodyOf Tryz.f40) (ro1 4 []) []) [(4,.bool (placeB c.other oth))] [] trivial ?_
         exact retD (hs := []) (vs := [.bool (placeB c.other oth)]) (ps := []) (by kernel_rfl) trivial (v := .bool (placeB c.other oth)) rfl (⟨by rw [hce]; unfold checkR; simp [g0,g1,g2],hE7⟩)
       · refine stEq (st' := (stz [(3,pt b2 0),(4,.bool false),(6,iv oth),(33,.bool true),(35,iv c.limit),(36,iv lim),(37,.bool false)])) (by rw [show (withinB c.limit 0 lim) = false from Bool.eq_false_iff.2 g2] <;> rfl) ?_
         refine sgz 9 [.skip,.skip,.skip,.skip] (kAt (bodyOf Tryz.f40) (ro1 4 []) []) [(4,.bool false)] [false = (!true),false = (!true),false = (!true),false = (!true),false = false] (AC rfl (AC rfl (AC rfl (AC rfl (A1 rfl))))) ?_
         exact retD (hs := []) (vs := [.bool false]) (ps := []) (by kernel_rfl) trivial (v := .bool false) rfl (⟨by rw [hce]; unfold checkR; simp [g0,g1,g2],hE7⟩)
     · refine stEq (st' := (stz [(3,pt b2 0),(4,.bool false),(5,iv lim),(6,iv oth),(25,.bool true),(27,iv c.dest),(30,iv ((p.dests.length:Nat):Int)),(31,.bool false)])) (by rw [show (placeB c.dest p.dests.length) = false from Bool.eq_false_iff.2 g1] <;> rfl) ?_
       refine sgz 15 [.skip,.skip,.skip,.skip,.skip,.skip,.skip,.skip] (kAt (bodyOf Tryz.f40) (ro1 4 []) []) [(4,.bool false)] [false = (!true),false = (!true),false = (!true),false = (!true),false = false,false = (!true),false = (!true),false = (!true),false = (!true),false = false] (AC rfl (AC rfl (AC rfl (AC rfl (AC rfl (AC rfl (AC rfl (AC rfl (AC rfl (A1 rfl)))))))))) ?_
       exact retD (hs := []) (vs := [.bool false]) (ps := []) (by kernel_rfl) trivial (v := .bool false) rfl (⟨by rw [hce]; unfold checkR; simp [g0,g1],hE7⟩)
   · refine stEq (st' := (stz [(2,pt b1 0),(3,pt b2 0),(4,.bool false),(5,iv lim),(6,iv oth),(20,iv c.node),(23,iv ((p.nodes.length:Nat):Int)),(24,.bool false)])) (by rw [show (placeB c.node p.nodes.length) = false from Bool.eq_false_iff.2 g0] <;> rfl) ?_
     refine sgz 22 [.skip,.skip,.skip,.skip,.skip,.skip,.skip,.skip,.skip,.skip,.skip,.skip,.skip,.skip] (kAt (bodyOf Tryz.f40) (ro1 4 []) []) [(4,.bool false)] [false = (!true),false = (!true),false = (!true),false = (!true),false = (!true),false = (!true),false = false,false = (!true),false = (!true),false = (!true),false = (!true),false = false,false = (!true),false = (!true),false = (!true),false = (!true),false = false] (AC rfl (AC rfl (AC rfl (AC rfl (AC rfl (AC rfl (AC rfl (AC rfl (AC rfl (AC rfl (AC rfl (AC rfl (AC rfl (AC rfl (AC rfl (AC rfl (A1 rfl))))))))))))))))) ?_
     exact retD (hs := []) (vs := [.bool false]) (ps := []) (by kernel_rfl) trivial (v := .bool false) rfl (⟨by rw [hce]; unfold checkR; simp [g0],hE7⟩)
 refine brs (decide ((c.kind : Int) = (1 : Int))) (kAt (bodyOf Tryz.f40) [1,1,0,1,0,1,0] []) (kAt (bodyOf Tryz.f40) [1,1,0,1,0,1,1] []) ((c.kind : Int) = (1 : Int)) (iffDec) (fun h1 => ?_) (fun h1 => ?_)
 · refine sgz 3 [] (kAt (bodyOf Tryz.f40) [1,1,1,0] []) [(2,pt b1 0),(3,pt b2 0),(4,.bool false),(5,iv (0 : Int)),(6,iv (1 : Int))] [] trivial ?_
   exact tl (0) (1) (by unfold checkB checkN; rw [if_pos h1])
 · refine sgz 5 [] (kAt (bodyOf Tryz.f40) [1,1,0,1,0,1,1,1] []) [(2,pt b1 0),(3,pt b2 0),(4,.bool false),(5,iv (0 : Int)),(6,iv (1 : Int)),(8,iv c.kind),(11,.bool (decide ((c.kind : Int) = (2 : Int))))] [] trivial ?_
   refine brs (decide ((c.kind : Int) = (2 : Int))) (kAt (bodyOf Tryz.f40) [1,1,0,1,0,1,1,1,0] []) (kAt (bodyOf Tryz.f40) [1,1,0,1,0,1,1,1,1] []) ((c.kind : Int) = (2 : Int)) (iffDec) (fun h2 => ?_) (fun h2 => ?_)
   · refine sgz 5 [] (kAt (bodyOf Tryz.f40) [1,1,1,0] []) [(2,pt b1 0),(3,pt b2 0),(4,.bool false),(5,iv (65535 : Int)),(6,iv (1 : Int))] [] trivial ?_
     exact tl (65535) (1) (by unfold checkB checkN; rw [if_neg h1,if_pos h2])
   · refine sgz 6 [] (kAt (bodyOf Tryz.f40) [1,1,0,1,0,1,1,1,1,0,1] []) [(2,pt b1 0),(3,pt b2 0),(4,.bool false),(5,iv (0 : Int)),(6,iv (1 : Int)),(8,iv c.kind),(13,.bool (decide ((c.kind : Int) = (3 : Int))))] [] trivial ?_
     refine brs (decide ((c.kind : Int) = (3 : Int))) (kAt (bodyOf Tryz.f40) [1,1,0,1,0,1,1,1,1,0,1,0] []) (kAt (bodyOf Tryz.f40) [1,1,0,1,0,1,1,1,1,0,1,1] []) ((c.kind : Int) = (3 : Int)) (iffDec) (fun h3 => ?_) (fun h3 => ?_)
     · refine sgz 10 [.exec,.ld (.slice q.a1 p.nodes.length q.c1)] (kAt (bodyOf Tryz.f40) [1,1,1,0] []) [(2,pt b1 0),(3,pt b2 0),(4,.bool false),(5,iv (0 : Int)),(6,iv ((p.nodes.length:Nat):Int))] [(decide ((c.kind : Int) = (3 : Int))) = true,w2.cell? ⟨b1,3,none⟩ = some (.slice q.a1 p.nodes.length q.c1)] (AC (decide_eq_true h3) (A1 (cell_of (hM8.blk 1 rfl) rfl))) ?_
       exact tl (0) (p.nodes.length) (by unfold checkB checkN; rw [if_neg h1,if_neg h2,if_pos (.inl h3)])
     · refine sgz 4 [] (kAt (bodyOf Tryz.f40) [1,1,0,1,0,1,1,1,1,1] []) [(2,pt b1 0),(3,pt b2 0),(4,.bool false),(5,iv (0 : Int)),(6,iv (1 : Int)),(13,.bool (decide ((c.kind : Int) = (4 : Int))))] [] trivial ?_
       refine brs (decide ((c.kind : Int) = (4 : Int))) (kAt (bodyOf Tryz.f40) [1,1,0,1,0,1,1,1,1,1,0] []) (kAt (bodyOf Tryz.f40) [1,1,0,1,0,1,1,1,1,1,1] []) ((c.kind : Int) = (4 : Int)) (iffDec) (fun h4 => ?_) (fun h4 => ?_)
       · refine sgz 8 [.ld (.slice q.a1 p.nodes.length q.c1)] (kAt (bodyOf Tryz.f40) [1,1,1,0] []) [(2,pt b1 0),(3,pt b2 0),(4,.bool false),(5,iv (0 : Int)),(6,iv ((p.nodes.length:Nat):Int))] [w2.cell? ⟨b1,3,none⟩ = some (.slice q.a1 p.nodes.length q.c1)] (A1 (cell_of (hM8.blk 1 rfl) rfl)) ?_
         exact tl (0) (p.nodes.length) (by unfold checkB checkN; rw [if_neg h1,if_neg h2,if_pos (.inr h4)])
       · refine sgz 4 [] (kAt (bodyOf Tryz.f40) [1,1,0,1,0,1,1,1,1,1,1,1] []) [(2,pt b1 0),(3,pt b2 0),(4,.bool false),(5,iv (0 : Int)),(6,iv (1 : Int))] [] trivial ?_
         exact retD (hs := []) (vs := [.bool false]) (ps := []) (by kernel_rfl) trivial (v := .bool false) rfl (⟨by unfold checkB checkN; simp [h1,h2,h3,h4],hE7⟩)

set_option maxRecDepth 20000 in
theorem right1_any (p : PPlan) (q : PAd) (x : DA) (b0 : Nat) (w : World) (hb : w.heap[b0]? = some (.cells #[iv p.proto,iv p.cap,iv p.k,.slice q.a1 p.nodes.length q.c1,.slice q.a2 p.links.length q.c2,.slice q.a3 p.dests.length q.c3,.slice q.a4 p.checks.length q.c4] 29 (0,0))) (ho : Cells w x.a (x.d.origins.flatMap intCells)) (hl : x.d.origins.length ≤ 140737488355328) :
    Does Tryz.prog 37 [.agg #[sv x.d.name,.slice x.a x.d.origins.length x.c],pt b0 0] w (fun v w' => v = .bool (!destB x.d p.nodes.length) ∧ Ext w w') := by
 refine startD (c := (bodyOf Tryz.f37)) Tryz.func37 rfl (by kernel_rfl) ?_
 show G _ 10 [] _ (kAt (bodyOf Tryz.f37) [] []) (stz [(0,.agg #[sv x.d.name,.slice x.a x.d.origins.length x.c]),(1,pt b0 0)]) w
 have hE1 : Ext w w := Ext.refl w
 have hM2 : Hold w w.heap.size [] := Hold.nil hE1.le
 refine sgz 2 [] (kOp (bodyOf Tryz.f37) [0] 0 []) [(0,.agg #[sv x.d.name,.slice x.a x.d.origins.length x.c]),(1,pt b0 0)] [] trivial ?_
 refine oss [] (.box 54 (.agg #[sv x.d.name,.slice x.a x.d.origins.length x.c])) (some 2) (kOp (bodyOf Tryz.f37) [0] 1 []) [] trivial (runs_box _ _) ?_
 rintro _ w1 ⟨b1,rfl,hN3⟩
 have hE4 := hE1.trans hN3.ext
 have hM5 := hM2.new hN3
 refine sgz 8 [.ld (.agg #[sv x.d.name,.slice x.a x.d.origins.length x.c]),.ld (.slice q.a1 p.nodes.length q.c1)] (kOp (bodyOf Tryz.f37) [1,0] 4 []) [(3,.bool false),(4,.agg #[sv x.d.name,.slice x.a x.d.origins.length x.c]),(7,iv ((p.nodes.length:Nat):Int))] [w1.cell? ⟨b1,0,none⟩ = some (sv x.d.name),w1.cell? ⟨b1,1,none⟩ = some (.slice x.a x.d.origins.length x.c),w1.cell? ⟨b0,3,none⟩ = some (.slice q.a1 p.nodes.length q.c1)] (AC (cell_of (hM5.blk 0 rfl) rfl) (AC (cell_of (hM5.blk 0 rfl) rfl) (A1 (hE4.cell (cell_of hb rfl))))) ?_
 refine oss [] (.call 38 [.agg #[sv x.d.name,.slice x.a x.d.origins.length x.c],iv ((p.nodes.length:Nat):Int)]) (some 8) (kOp (bodyOf Tryz.f37) [1,0] 5 []) [] trivial (runs_call E38 (dest_any x.d x.a x.c p.nodes.length w1 (ho.ext hE4) hl)) ?_
 rintro _ w2 ⟨rfl,hx⟩
 have hE6 := hE4.trans hx
 have hM7 := hM5.ext hx
 refine sgz 3 [] (kAt (bodyOf Tryz.f37) [1,1] []) [(3,.bool (!(destB x.d p.nodes.length)))] [] trivial ?_
 exact retD (hs := []) (vs := [.bool (!(destB x.d p.nodes.length))]) (ps := []) (by kernel_rfl) trivial (v := .bool (!(destB x.d p.nodes.length))) rfl (⟨rfl,hE6⟩)

set_option maxRecDepth 20000 in
theorem right2_any (p : PPlan) (q : PAd) (c : PCheck) (b0 : Nat) (w : World) (hb : w.heap[b0]? = some (.cells #[iv p.proto,iv p.cap,iv p.k,.slice q.a1 p.nodes.length q.c1,.slice q.a2 p.links.length q.c2,.slice q.a3 p.dests.length q.c3,.slice q.a4 p.checks.length q.c4] 29 (0,0))) :
    Does Tryz.prog 39 [.agg #[iv c.kind,iv c.node,iv c.dest,iv c.limit,iv c.other],pt b0 0] w (fun v w' => v = .bool (!checkB p c) ∧ Ext w w') := by
 refine startD (c := (bodyOf Tryz.f39)) Tryz.func39 rfl (by kernel_rfl) ?_
 show G _ 8 [] _ (kAt (bodyOf Tryz.f39) [] []) (stz [(0,.agg #[iv c.kind,iv c.node,iv c.dest,iv c.limit,iv c.other]),(1,pt b0 0)]) w
 have hE1 : Ext w w := Ext.refl w
 have hM2 : Hold w w.heap.size [] := Hold.nil hE1.le
 refine sgz 2 [] (kOp (bodyOf Tryz.f39) [0] 0 []) [(0,.agg #[iv c.kind,iv c.node,iv c.dest,iv c.limit,iv c.other]),(1,pt b0 0)] [] trivial ?_
 refine oss [] (.box 67 (.agg #[iv c.kind,iv c.node,iv c.dest,iv c.limit,iv c.other])) (some 2) (kOp (bodyOf Tryz.f39) [0] 1 []) [] trivial (runs_box _ _) ?_
 rintro _ w1 ⟨b1,rfl,hN3⟩
 have hE4 := hE1.trans hN3.ext
 have hM5 := hM2.new hN3
 refine sgz 6 [.ld (.agg #[iv p.proto,iv p.cap,iv p.k,.slice q.a1 p.nodes.length q.c1,.slice q.a2 p.links.length q.c2,.slice q.a3 p.dests.length q.c3,.slice q.a4 p.checks.length q.c4]),.ld (.agg #[iv c.kind,iv c.node,iv c.dest,iv c.limit,iv c.other])] (kOp (bodyOf Tryz.f39) [1,0] 2 []) [(3,.bool false),(4,.agg #[iv p.proto,iv p.cap,iv p.k,.slice q.a1 p.nodes.length q.c1,.slice q.a2 p.links.length q.c2,.slice q.a3 p.dests.length q.c3,.slice q.a4 p.checks.length q.c4]),(5,.agg #[iv c.kind,iv c.node,iv c.dest,iv c.limit,iv c.other])] [w1.cell? ⟨b0,0,none⟩ = some (iv p.proto),w1.cell? ⟨b0,1,none⟩ = some (iv p.cap),w1.cell? ⟨b0,2,none⟩ = some (iv p.k),w1.cell? ⟨b0,3,none⟩ = some (.slice q.a1 p.nodes.length q.c1),w1.cell? ⟨b0,4,none⟩ = some (.slice q.a2 p.links.length q.c2),w1.cell? ⟨b0,5,none⟩ = some (.slice q.a3 p.dests.length q.c3),w1.cell? ⟨b0,6,none⟩ = some (.slice q.a4 p.checks.length q.c4),w1.cell? ⟨b1,0,none⟩ = some (iv c.kind),w1.cell? ⟨b1,1,none⟩ = some (iv c.node),w1.cell? ⟨b1,2,none⟩ = some (iv c.dest),w1.cell? ⟨b1,3,none⟩ = some (iv c.limit),w1.cell? ⟨b1,4,none⟩ = some (iv c.other)] (AC (hE4.cell (cell_of hb rfl)) (AC (hE4.cell (cell_of hb rfl)) (AC (hE4.cell (cell_of hb rfl)) (AC (hE4.cell (cell_of hb rfl)) (AC (hE4.cell (cell_of hb rfl)) (AC (hE4.cell (cell_of hb rfl)) (AC (hE4.cell (cell_of hb rfl)) (AC (cell_of (hM5.blk 0 rfl) rfl) (AC (cell_of (hM5.blk 0 rfl) rfl) (AC (cell_of (hM5.blk 0 rfl) rfl) (AC (cell_of (hM5.blk 0 rfl) rfl) (A1 (cell_of (hM5.blk 0 rfl) rfl))))))))))))) ?_
 refine oss [] (.call 40 [.agg #[iv p.proto,iv p.cap,iv p.k,.slice q.a1 p.nodes.length q.c1,.slice q.a2 p.links.length q.c2,.slice q.a3 p.dests.length q.c3,.slice q.a4 p.checks.length q.c4],.agg #[iv c.kind,iv c.node,iv c.dest,iv c.limit,iv c.other]]) (some 6) (kOp (bodyOf Tryz.f39) [1,0] 3 []) [] trivial (runs_call E40 (check_any p q c w1)) ?_
 rintro _ w2 ⟨rfl,hx⟩
 have hE6 := hE4.trans hx
 have hM7 := hM5.ext hx
 refine sgz 3 [] (kAt (bodyOf Tryz.f39) [1,1] []) [(3,.bool (!(checkB p c)))] [] trivial ?_
 exact retD (hs := []) (vs := [.bool (!(checkB p c))]) (ps := []) (by kernel_rfl) trivial (v := .bool (!(checkB p c))) rfl (⟨rfl,hE6⟩)

set_option maxRecDepth 20000 in
theorem node1_any (x : PNode) (b0 : Nat) (nm : Bytes) (w : World) (hb : w.heap[b0]? = some (.cells #[sv nm] 9 (0,0))) :
    Does Tryz.prog 59 [.agg #[sv x.name,iv x.asn],pt b0 0] w (fun v w' => v = .bool (decide (x.name = nm)) ∧ Ext w w') := by
 refine startD (c := (bodyOf Tryz.f59)) Tryz.func59 rfl (by kernel_rfl) ?_
 show G _ 8 [] _ (kAt (bodyOf Tryz.f59) [] []) (stz [(0,.agg #[sv x.name,iv x.asn]),(1,pt b0 0)]) w
 have hE1 : Ext w w := Ext.refl w
 have hM2 : Hold w w.heap.size [] := Hold.nil hE1.le
 refine sgz 2 [] (kOp (bodyOf Tryz.f59) [0] 0 []) [(0,.agg #[sv x.name,iv x.asn]),(1,pt b0 0)] [] trivial ?_
 refine oss [] (.box 52 (.agg #[sv x.name,iv x.asn])) (some 2) (kOp (bodyOf Tryz.f59) [0] 1 []) [] trivial (runs_box _ _) ?_
 rintro _ w1 ⟨b1,rfl,hN3⟩
 have hE4 := hE1.trans hN3.ext
 have hM5 := hM2.new hN3
 refine sgz 10 [.ld (sv x.name),.ld (sv nm)] (kAt (bodyOf Tryz.f59) [1,1] []) [(3,.bool (decide (x.name = nm)))] [w1.cell? ⟨b1,0,none⟩ = some (sv x.name),w1.cell? ⟨b0,0,none⟩ = some (sv nm)] (AC (cell_of (hM5.blk 0 rfl) rfl) (A1 (hE4.cell (cell_of hb rfl)))) ?_
 exact retD (hs := []) (vs := [.bool (decide (x.name = nm))]) (ps := []) (by kernel_rfl) trivial (v := .bool (decide (x.name = nm))) rfl (⟨rfl,hE4⟩)

set_option maxRecDepth 20000 in
theorem dest1_any (x : DA) (b0 : Nat) (nm : Bytes) (w : World) (hb : w.heap[b0]? = some (.cells #[sv nm] 9 (0,0))) :
    Does Tryz.prog 61 [.agg #[sv x.d.name,.slice x.a x.d.origins.length x.c],pt b0 0] w (fun v w' => v = .bool (decide (x.d.name = nm)) ∧ Ext w w') := by
 refine startD (c := (bodyOf Tryz.f61)) Tryz.func61 rfl (by kernel_rfl) ?_
 show G _ 8 [] _ (kAt (bodyOf Tryz.f61) [] []) (stz [(0,.agg #[sv x.d.name,.slice x.a x.d.origins.length x.c]),(1,pt b0 0)]) w
 have hE1 : Ext w w := Ext.refl w
 have hM2 : Hold w w.heap.size [] := Hold.nil hE1.le
 refine sgz 2 [] (kOp (bodyOf Tryz.f61) [0] 0 []) [(0,.agg #[sv x.d.name,.slice x.a x.d.origins.length x.c]),(1,pt b0 0)] [] trivial ?_
 refine oss [] (.box 54 (.agg #[sv x.d.name,.slice x.a x.d.origins.length x.c])) (some 2) (kOp (bodyOf Tryz.f61) [0] 1 []) [] trivial (runs_box _ _) ?_
 rintro _ w1 ⟨b1,rfl,hN3⟩
 have hE4 := hE1.trans hN3.ext
 have hM5 := hM2.new hN3
 refine sgz 10 [.ld (sv x.d.name),.ld (sv nm)] (kAt (bodyOf Tryz.f61) [1,1] []) [(3,.bool (decide (x.d.name = nm)))] [w1.cell? ⟨b1,0,none⟩ = some (sv x.d.name),w1.cell? ⟨b0,0,none⟩ = some (sv nm)] (AC (cell_of (hM5.blk 0 rfl) rfl) (A1 (hE4.cell (cell_of hb rfl)))) ?_
 exact retD (hs := []) (vs := [.bool (decide (x.d.name = nm))]) (ps := []) (by kernel_rfl) trivial (v := .bool (decide (x.d.name = nm))) rfl (⟨rfl,hE4⟩)

set_option maxRecDepth 20000 in
theorem Node_any (p : PPlan) (q : PAd) (nm : Bytes) (w : World) (hP : PlanAt w p q) :
    Does Tryz.prog 21 [.agg #[iv p.proto,iv p.cap,iv p.k,.slice q.a1 p.nodes.length q.c1,.slice q.a2 p.links.length q.c2,.slice q.a3 p.dests.length q.c3,.slice q.a4 p.checks.length q.c4],sv nm] w (fun v w' => v = .int .i64 (idxI (fun x => decide (x.name = nm)) p.nodes) ∧ Ext w w') := by
 refine startD (c := (bodyOf Tryz.f21)) Tryz.func21 rfl (by kernel_rfl) ?_
 show G _ 9 [] _ (kAt (bodyOf Tryz.f21) [] []) (stz [(0,.agg #[iv p.proto,iv p.cap,iv p.k,.slice q.a1 p.nodes.length q.c1,.slice q.a2 p.links.length q.c2,.slice q.a3 p.dests.length q.c3,.slice q.a4 p.checks.length q.c4]),(1,sv nm)]) w
 have hE1 : Ext w w := Ext.refl w
 have hM2 : Hold w w.heap.size [] := Hold.nil hE1.le
 refine sgz 2 [] (kOp (bodyOf Tryz.f21) [0] 0 []) [(0,.agg #[iv p.proto,iv p.cap,iv p.k,.slice q.a1 p.nodes.length q.c1,.slice q.a2 p.links.length q.c2,.slice q.a3 p.dests.length q.c3,.slice q.a4 p.checks.length q.c4]),(1,sv nm)] [] trivial ?_
 refine oss [] (.box 29 (.agg #[iv p.proto,iv p.cap,iv p.k,.slice q.a1 p.nodes.length q.c1,.slice q.a2 p.links.length q.c2,.slice q.a3 p.dests.length q.c3,.slice q.a4 p.checks.length q.c4])) (some 2) (kOp (bodyOf Tryz.f21) [0] 1 []) [] trivial (runs_box _ _) ?_
 rintro _ w1 ⟨b1,rfl,hN3⟩
 have hE4 := hE1.trans hN3.ext
 have hM5 := hM2.new hN3
 refine oss [] (.box 9 (sv nm)) (some 3) (kOp (bodyOf Tryz.f21) [0] 2 []) [] trivial (runs_box _ _) ?_
 rintro _ w2 ⟨b2,rfl,hN6⟩
 have hE7 := hE4.trans hN6.ext
 have hM8 := hM5.new hN6
 refine sgz 7 [.ld (.slice q.a1 p.nodes.length q.c1)] (kOp (bodyOf Tryz.f21) [1,0] 3 []) [(4,iv (0 : Int)),(6,.slice q.a1 p.nodes.length q.c1),(7,.func (.func 59) #[] #[pt b2 0])] [w2.cell? ⟨b1,3,none⟩ = some (.slice q.a1 p.nodes.length q.c1)] (A1 (cell_of (hM8.blk 1 rfl) rfl)) ?_
 refine oss [] (.call 58 [.slice q.a1 p.nodes.length q.c1,.func (.func 59) #[] #[pt b2 0]]) (some 8) (kOp (bodyOf Tryz.f21) [1,0] 4 []) [] trivial (runs_call E58 (idxNode1 p.nodes q.a1 q.c1 59 b2 (fun x => decide (x.name = nm)) w2 E59 (fun k hk w' hx => node1_any _ b2 nm w' (hx.heap (hM8.blk 0 rfl))) (hP.nodes.ext hE7) (by have := hP.l1; omega))) ?_
 rintro _ w3 ⟨rfl,hx⟩
 have hE9 := hE7.trans hx
 have hM10 := hM8.ext hx
 refine sgz 2 [] (kAt (bodyOf Tryz.f21) [1,1] []) [(4,iv (idxI (fun x => decide (x.name = nm)) p.nodes))] [] trivial ?_
 exact retD (hs := []) (vs := [iv (idxI (fun x => decide (x.name = nm)) p.nodes)]) (ps := []) (by kernel_rfl) trivial (v := iv (idxI (fun x => decide (x.name = nm)) p.nodes)) rfl (⟨rfl,hE9⟩)

theorem idxI_map {α β : Type} (f : α → β) (p : β → Bool) (l : List α) : idxI (fun x => p (f x)) l = idxI p (l.map f) := by
  unfold idxI
  rw [List.findIdx?_map]
  rfl

set_option maxRecDepth 20000 in
theorem Dest_any (p : PPlan) (q : PAd) (nm : Bytes) (w : World) (hP : PlanAt w p q) :
    Does Tryz.prog 23 [.agg #[iv p.proto,iv p.cap,iv p.k,.slice q.a1 p.nodes.length q.c1,.slice q.a2 p.links.length q.c2,.slice q.a3 p.dests.length q.c3,.slice q.a4 p.checks.length q.c4],sv nm] w (fun v w' => v = .int .i64 (idxI (fun x => decide (x.name = nm)) p.dests) ∧ Ext w w') := by
 refine startD (c := (bodyOf Tryz.f23)) Tryz.func23 rfl (by kernel_rfl) ?_
 show G _ 9 [] _ (kAt (bodyOf Tryz.f23) [] []) (stz [(0,.agg #[iv p.proto,iv p.cap,iv p.k,.slice q.a1 p.nodes.length q.c1,.slice q.a2 p.links.length q.c2,.slice q.a3 p.dests.length q.c3,.slice q.a4 p.checks.length q.c4]),(1,sv nm)]) w
 have hq := hP.dlen
 have hE1 : Ext w w := Ext.refl w
 have hM2 : Hold w w.heap.size [] := Hold.nil hE1.le
 refine sgz 2 [] (kOp (bodyOf Tryz.f23) [0] 0 []) [(0,.agg #[iv p.proto,iv p.cap,iv p.k,.slice q.a1 p.nodes.length q.c1,.slice q.a2 p.links.length q.c2,.slice q.a3 p.dests.length q.c3,.slice q.a4 p.checks.length q.c4]),(1,sv nm)] [] trivial ?_
 refine oss [] (.box 29 (.agg #[iv p.proto,iv p.cap,iv p.k,.slice q.a1 p.nodes.length q.c1,.slice q.a2 p.links.length q.c2,.slice q.a3 p.dests.length q.c3,.slice q.a4 p.checks.length q.c4])) (some 2) (kOp (bodyOf Tryz.f23) [0] 1 []) [] trivial (runs_box _ _) ?_
 rintro _ w1 ⟨b1,rfl,hN3⟩
 have hE4 := hE1.trans hN3.ext
 have hM5 := hM2.new hN3
 refine oss [] (.box 9 (sv nm)) (some 3) (kOp (bodyOf Tryz.f23) [0] 2 []) [] trivial (runs_box _ _) ?_
 rintro _ w2 ⟨b2,rfl,hN6⟩
 have hE7 := hE4.trans hN6.ext
 have hM8 := hM5.new hN6
 refine sgz 7 [.ld (.slice q.a3 p.dests.length q.c3)] (kOp (bodyOf Tryz.f23) [1,0] 3 []) [(4,iv (0 : Int)),(6,.slice q.a3 p.dests.length q.c3),(7,.func (.func 61) #[] #[pt b2 0])] [w2.cell? ⟨b1,5,none⟩ = some (.slice q.a3 p.dests.length q.c3)] (A1 (cell_of (hM8.blk 1 rfl) rfl)) ?_
 rw [← hq]
 refine oss [] (.call 60 [.slice q.a3 q.ds.length q.c3,.func (.func 61) #[] #[pt b2 0]]) (some 8) (kOp (bodyOf Tryz.f23) [1,0] 4 []) [] trivial (runs_call E60 (idxDest1 q.ds q.a3 q.c3 61 b2 (fun x => decide (x.d.name = nm)) w2 E61 (fun k hk w' hx => dest1_any _ b2 nm w' (hx.heap (hM8.blk 0 rfl))) (hP.dests.ext hE7) (by have := hP.l3; omega))) ?_
 rintro _ w3 ⟨rfl,hx⟩
 have hE9 := hE7.trans hx
 have hM10 := hM8.ext hx
 refine sgz 2 [] (kAt (bodyOf Tryz.f23) [1,1] []) [(4,iv (idxI (fun x => decide (x.d.name = nm)) q.ds))] [] trivial ?_
 exact retD (hs := []) (vs := [iv (idxI (fun x => decide (x.d.name = nm)) q.ds)]) (ps := []) (by kernel_rfl) trivial (v := iv (idxI (fun x => decide (x.d.name = nm)) q.ds)) rfl (⟨by rw [idxI_map (fun x : DA => x.d) (fun x => decide (x.name = nm)),hP.deq],hE9⟩)

set_option maxRecDepth 20000 in
theorem same1_any (x y : DA) (w : World) (ho : Cells w x.a (x.d.origins.flatMap intCells)) (hp : Cells w y.a (y.d.origins.flatMap intCells)) (hl : x.d.origins.length ≤ 140737488355328) :
    Does Tryz.prog 52 [.agg #[sv x.d.name,.slice x.a x.d.origins.length x.c],.agg #[sv y.d.name,.slice y.a y.d.origins.length y.c]] w (fun v w' => v = .bool (decide (x.d = y.d)) ∧ Ext w w') := by
 refine startD (c := (bodyOf Tryz.f52)) Tryz.func52 rfl (by kernel_rfl) ?_
 show G _ 17 [] _ (kAt (bodyOf Tryz.f52) [] []) (stz [(0,.agg #[sv x.d.name,.slice x.a x.d.origins.length x.c]),(1,.agg #[sv y.d.name,.slice y.a y.d.origins.length y.c])]) w
 have hE1 : Ext w w := Ext.refl w
 have hM2 : Hold w w.heap.size [] := Hold.nil hE1.le
 refine sgz 2 [] (kOp (bodyOf Tryz.f52) [0] 0 []) [(0,.agg #[sv x.d.name,.slice x.a x.d.origins.length x.c]),(1,.agg #[sv y.d.name,.slice y.a y.d.origins.length y.c])] [] trivial ?_
 refine oss [] (.box 54 (.agg #[sv x.d.name,.slice x.a x.d.origins.length x.c])) (some 2) (kOp (bodyOf Tryz.f52) [0] 1 []) [] trivial (runs_box _ _) ?_
 rintro _ w1 ⟨b1,rfl,hN3⟩
 have hE4 := hE1.trans hN3.ext
 have hM5 := hM2.new hN3
 refine oss [] (.box 54 (.agg #[sv y.d.name,.slice y.a y.d.origins.length y.c])) (some 3) (kOp (bodyOf Tryz.f52) [0] 2 []) [] trivial (runs_box _ _) ?_
 rintro _ w2 ⟨b2,rfl,hN6⟩
 have hE7 := hE4.trans hN6.ext
 have hM8 := hM5.new hN6
 refine sgs 14 [.ld (sv x.d.name),.ld (sv y.d.name),.sym,.sym,.ld (.slice x.a x.d.origins.length x.c),.sym,.sym,.ld (.slice y.a y.d.origins.length y.c)] [4,10,12,14] (kOp (bodyOf Tryz.f52) [1,0] 10 []) [(4,none,.bool false),(10,none,.bool (decide (x.d.name = y.d.name))),(12,some (decide (x.d.name = y.d.name)),.slice x.a x.d.origins.length x.c),(14,some (decide (x.d.name = y.d.name)),.slice y.a y.d.origins.length y.c)] [w2.cell? ⟨b1,0,none⟩ = some (sv x.d.name),w2.cell? ⟨b2,0,none⟩ = some (sv y.d.name),(decide (x.d.name = y.d.name)) = true → (decide (x.d.name = y.d.name)) = true,(decide (x.d.name = y.d.name)) = true → w2.cell? ⟨b1,1,none⟩ = some (.slice x.a x.d.origins.length x.c),(decide (x.d.name = y.d.name)) = true → (decide (x.d.name = y.d.name)) = true,(decide (x.d.name = y.d.name)) = true → w2.cell? ⟨b2,1,none⟩ = some (.slice y.a y.d.origins.length y.c)] (AC (cell_of (hM8.blk 1 rfl) rfl) (AC (cell_of (hM8.blk 0 rfl) rfl) (AC (fun h => h) (AC (fun _ => cell_of (hM8.blk 1 rfl) rfl) (AC (fun h => h) (A1 (fun _ => cell_of (hM8.blk 0 rfl) rfl))))))) ?_
 by_cases h1 : x.d.name = y.d.name
 · refine oss [.exec] (.call 53 [.slice x.a x.d.origins.length x.c,.slice y.a y.d.origins.length y.c]) (some 15) (kOp (bodyOf Tryz.f52) [1,0] 11 []) [(decide (x.d.name = y.d.name)) = true,(decide (x.d.name = y.d.name)) = true,(decide (x.d.name = y.d.name)) = true] (AC (decide_eq_true h1) (AC (by simp_all) (A1 (by simp_all)))) (runs_call E53 (eqInt x.d.origins y.d.origins x.a y.a x.c y.c w2 (ho.ext hE7) (hp.ext hE7) hl)) ?_
   rintro _ w3 ⟨rfl,hx⟩
   have hE9 := hE7.trans hx
   have hM10 := hM8.ext hx
   refine sgz 3 [] (kAt (bodyOf Tryz.f52) [1,1] []) [(4,.bool ((decide (x.d.name = y.d.name)) && (decide (x.d.origins = y.d.origins))))] [] trivial ?_
   exact retD (hs := []) (vs := [.bool ((decide (x.d.name = y.d.name)) && (decide (x.d.origins = y.d.origins)))]) (ps := []) (by kernel_rfl) trivial (v := .bool ((decide (x.d.name = y.d.name)) && (decide (x.d.origins = y.d.origins)))) rfl (⟨by congr 1; rw [Bool.eq_iff_iff]; simp only [Bool.and_eq_true,decide_eq_true_eq,destEq],hE9⟩)
 · refine sgz 4 [.skip] (kAt (bodyOf Tryz.f52) [1,1] []) [(4,.bool false)] [(decide (x.d.name = y.d.name)) = (!true),(decide (x.d.name = y.d.name)) = false] (AC (decide_eq_false h1) (A1 (decide_eq_false h1))) ?_
   exact retD (hs := []) (vs := [.bool false]) (ps := []) (by kernel_rfl) trivial (v := .bool false) rfl (⟨by rw [decide_eq_false (fun e => h1 (by rw [e]))],hE7⟩)

def eqDestL (xs ys : List DA) (a a' : Option Addr) (c c' : Nat) (w : World) : Lp Nat where
  S := fun k => [(1,none,.slice a' ys.length (c')),(2,none,.func (.func 52) #[] #[]),(15,none,.slice a xs.length c),(16,none,iv ((xs.length:Nat):Int)),(17,none,iv ((k:Nat):Int))]
  J := fun k w' => Ext w w' ∧ k ≤ xs.length ∧ ∀ j,j < k → (xs.getD j d0A).d = (ys.getD j d0A).d
  M := fun k => xs.length - k
set_option maxRecDepth 20000 in
theorem eqDest (xs ys : List DA) (a a' : Option Addr) (c c' : Nat) (w : World) (hc : Cells w a (xs.flatMap destC)) (hc' : Cells w a' (ys.flatMap destC)) (hl : xs.length ≤ 140737488355328) (ho : ∀ x ∈ xs,Cells w x.a (x.d.origins.flatMap intCells) ∧ x.d.origins.length ≤ x.c ∧ x.d.origins.length ≤ 140737488355328) (hp : ∀ x ∈ ys,Cells w x.a (x.d.origins.flatMap intCells)) :
    Does Tryz.prog 56 [.slice a xs.length c,.slice a' ys.length (c'),.func (.func 52) #[] #[]] w (fun v w' => v = .bool (decide (xs.map (·.d) = ys.map (·.d))) ∧ Ext w w') := by
 refine startD (c := (bodyOf Tryz.f56)) Tryz.func56 rfl (by kernel_rfl) ?_
 show G _ 32 [] _ (kAt (bodyOf Tryz.f56) [] []) (stz [(0,.slice a xs.length c),(1,.slice a' ys.length (c')),(2,.func (.func 52) #[] #[])]) w
 have hE1 : Ext w w := Ext.refl w
 refine sgz 13 [] (kAt (bodyOf Tryz.f56) [1,0,1] []) [(0,.slice a xs.length c),(1,.slice a' ys.length (c')),(2,.func (.func 52) #[] #[]),(6,.bool false),(14,.bool (!(decide (((xs.length:Nat):Int) = ((ys.length:Nat):Int)))))] [] trivial ?_
 refine brs (!(decide (((xs.length:Nat):Int) = ((ys.length:Nat):Int)))) (kAt (bodyOf Tryz.f56) [1,0,1,0] []) (kAt (bodyOf Tryz.f56) [1,0,1,1] []) (¬ (((xs.length:Nat):Int) = ((ys.length:Nat):Int))) ((iffNot iffDec)) (fun h0 => ?_) (fun h0 => ?_)
 · refine sgz 4 [] (kAt (bodyOf Tryz.f56) [1,0,1,0,1] []) [(0,.slice a xs.length c),(1,.slice a' ys.length (c')),(2,.func (.func 52) #[] #[]),(6,.bool false)] [] trivial ?_
   exact retD (hs := []) (vs := [.bool false]) (ps := []) (by kernel_rfl) trivial (v := .bool false) rfl (⟨by rw [decide_eq_false (fun e => h0 (by have := congrArg List.length e; simp at this; omega))],hE1⟩)
 · have h0 : xs.length = ys.length := by omega
   refine sgz 9 [] (kAt (bodyOf Tryz.f56) [1,1,0,1,0] []) [(1,.slice a' ys.length (c')),(2,.func (.func 52) #[] #[]),(6,.bool false),(15,.slice a xs.length c),(16,iv ((xs.length:Nat):Int)),(17,iv (0 : Int))] [] trivial ?_
   refine loopR (eqDestL xs ys a a' c c' w) (k' := (kEnd (bodyOf Tryz.f56) [1,1,0,1,0] [])) (body := (cAt (bodyOf Tryz.f56) [1,1,0,1,0,0])) (by kernel_rfl) 0 [1,2,15,16,17] (by kernel_rfl) (⟨hE1,by omega,fun j h => by omega⟩) ?_
   rintro k w0 ⟨K1,hk,hq⟩
   refine sgz 5 [] (kAt (cAt (bodyOf Tryz.f56) [1,1,0,1,0,0]) [1,0] (.inv (LI 32 [] (eqDestL xs ys a a' c c' w) k) :: (kEnd (bodyOf Tryz.f56) [1,1,0,1,0] []))) [(1,.slice a' ys.length (c')),(2,.func (.func 52) #[] #[]),(15,.slice a xs.length c),(16,iv ((xs.length:Nat):Int)),(17,iv ((k:Nat):Int)),(18,.bool (decide (((k:Nat):Int) < ((xs.length:Nat):Int))))] [] trivial ?_
   refine brs (decide (((k:Nat):Int) < ((xs.length:Nat):Int))) (kAt (cAt (bodyOf Tryz.f56) [1,1,0,1,0,0]) [1,0,0] (.inv (LI 32 [] (eqDestL xs ys a a' c c' w) k) :: (kEnd (bodyOf Tryz.f56) [1,1,0,1,0] []))) (kAt (cAt (bodyOf Tryz.f56) [1,1,0,1,0,0]) [1,0,1] (.inv (LI 32 [] (eqDestL xs ys a a' c c' w) k) :: (kEnd (bodyOf Tryz.f56) [1,1,0,1,0] []))) (((k:Nat):Int) < ((xs.length:Nat):Int)) (iffDec) (fun h1 => ?_) (fun h1 => ?_)
   · have hk2 : k < xs.length := by omega
     have hk3 : k < ys.length := by omega
     have ha := hc.addrE destC_len (by decide) hk2
     have hb := hc'.addrE destC_len (by decide) hk3
     have hM2 : Hold w0 w.heap.size [] := Hold.nil K1.le
     refine sgz 8 [.ld (.agg #[sv ((xs.getD k d0A).d.name),.slice (xs.getD k d0A).a ((xs.getD k d0A).d.origins.length) ((xs.getD k d0A).c)])] (kOp (cAt (bodyOf Tryz.f56) [1,1,0,1,0,0]) [1,1,0,0,0] 3 (.inv (LI 32 [] (eqDestL xs ys a a' c c' w) k) :: (kEnd (bodyOf Tryz.f56) [1,1,0,1,0] []))) [(1,.slice a' ys.length (c')),(2,.func (.func 52) #[] #[]),(15,.slice a xs.length c),(16,iv ((xs.length:Nat):Int)),(17,iv ((k:Nat):Int)),(19,iv ((k:Nat):Int)),(21,.agg #[sv ((xs.getD k d0A).d.name),.slice (xs.getD k d0A).a ((xs.getD k d0A).d.origins.length) ((xs.getD k d0A).c)])] [(0 ≤ ((k:Nat):Int) ∧ ((k:Nat):Int) < ((xs.length:Nat):Int)),(a : Option Addr) = some ⟨(slB a),slO a,none⟩,w0.cell? ⟨(slB a),slO a + k * 2,none⟩ = some (sv ((xs.getD k d0A).d.name)),w0.cell? ⟨(slB a),slO a + k * 2 + 1,none⟩ = some (.slice (xs.getD k d0A).a ((xs.getD k d0A).d.origins.length) ((xs.getD k d0A).c))] (AC (by omega) (AC (by assumption) (AC (K1.cell (cellAt destC_len d0A hc hk2 (j := 0) rfl)) (A1 (K1.cell (cellAt destC_len d0A hc hk2 (j := 1) rfl)))))) ?_
     refine oss [] (.alloc 54) (some 8) (kOp (cAt (bodyOf Tryz.f56) [1,1,0,1,0,0]) [1,1,0,0,0] 4 (.inv (LI 32 [] (eqDestL xs ys a a' c c' w) k) :: (kEnd (bodyOf Tryz.f56) [1,1,0,1,0] []))) [] trivial (runs_alloc (z := .agg #[sv ([]),.slice none 0 0]) (by kernel_rfl)) ?_
     rintro _ w1 ⟨b8,rfl,hN3⟩
     have hE4 := K1.trans hN3.ext
     have hM5 := hM2.new hN3
     refine sgz 1 [] (kOp (cAt (bodyOf Tryz.f56) [1,1,0,1,0,0]) [1,1,0,0,0] 5 (.inv (LI 32 [] (eqDestL xs ys a a' c c' w) k) :: (kEnd (bodyOf Tryz.f56) [1,1,0,1,0] []))) [(1,.slice a' ys.length (c')),(2,.func (.func 52) #[] #[]),(7,iv ((k:Nat):Int)),(8,pt b8 0),(15,.slice a xs.length c),(16,iv ((xs.length:Nat):Int)),(17,iv ((k:Nat):Int)),(21,.agg #[sv ((xs.getD k d0A).d.name),.slice (xs.getD k d0A).a ((xs.getD k d0A).d.origins.length) ((xs.getD k d0A).c)])] [] trivial ?_
     refine oss [] (.store 54 (pt b8 0) (.agg #[sv ((xs.getD k d0A).d.name),.slice (xs.getD k d0A).a ((xs.getD k d0A).d.origins.length) ((xs.getD k d0A).c)])) none (kOp (cAt (bodyOf Tryz.f56) [1,1,0,1,0,0]) [1,1,0,0,0] 6 (.inv (LI 32 [] (eqDestL xs ys a a' c c' w) k) :: (kEnd (bodyOf Tryz.f56) [1,1,0,1,0] []))) [] trivial (runs_st (hM5.blk 0 rfl) (by kernel_rfl)) ?_
     rintro _ w2 hC6
     have hE7 := hM5.toExt hE4 hC6 0 rfl
     have hM8 := hM5.set 0 rfl hC6
     refine sgz 7 [.ld (.agg #[sv ((ys.getD k d0A).d.name),.slice (ys.getD k d0A).a ((ys.getD k d0A).d.origins.length) ((ys.getD k d0A).c)])] (kOp (cAt (bodyOf Tryz.f56) [1,1,0,1,0,0]) [1,1,0,0,1,0] 4 (.inv (LI 32 [] (eqDestL xs ys a a' c c' w) k) :: (kEnd (bodyOf Tryz.f56) [1,1,0,1,0] []))) [(1,.slice a' ys.length (c')),(2,.func (.func 52) #[] #[]),(8,pt b8 0),(15,.slice a xs.length c),(16,iv ((xs.length:Nat):Int)),(17,iv ((k:Nat):Int)),(25,.agg #[sv ((ys.getD k d0A).d.name),.slice (ys.getD k d0A).a ((ys.getD k d0A).d.origins.length) ((ys.getD k d0A).c)])] [(0 ≤ ((k:Nat):Int) ∧ ((k:Nat):Int) < ((ys.length:Nat):Int)),(a' : Option Addr) = some ⟨(slB a'),slO a',none⟩,w2.cell? ⟨(slB a'),slO a' + k * 2,none⟩ = some (sv ((ys.getD k d0A).d.name)),w2.cell? ⟨(slB a'),slO a' + k * 2 + 1,none⟩ = some (.slice (ys.getD k d0A).a ((ys.getD k d0A).d.origins.length) ((ys.getD k d0A).c))] (AC (by omega) (AC (by assumption) (AC (hE7.cell (cellAt destC_len d0A hc' hk3 (j := 0) rfl)) (A1 (hE7.cell (cellAt destC_len d0A hc' hk3 (j := 1) rfl)))))) ?_
     refine oss [] (.alloc 54) (some 9) (kOp (cAt (bodyOf Tryz.f56) [1,1,0,1,0,0]) [1,1,0,0,1,0] 5 (.inv (LI 32 [] (eqDestL xs ys a a' c c' w) k) :: (kEnd (bodyOf Tryz.f56) [1,1,0,1,0] []))) [] trivial (runs_alloc (z := .agg #[sv ([]),.slice none 0 0]) (by kernel_rfl)) ?_
     rintro _ w3 ⟨b9,rfl,hN9⟩
     have hE10 := hE7.trans hN9.ext
     have hM11 := hM8.new hN9
     refine oss [] (.store 54 (pt b9 0) (.agg #[sv ((ys.getD k d0A).d.name),.slice (ys.getD k d0A).a ((ys.getD k d0A).d.origins.length) ((ys.getD k d0A).c)])) none (kOp (cAt (bodyOf Tryz.f56) [1,1,0,1,0,0]) [1,1,0,0,1,0] 6 (.inv (LI 32 [] (eqDestL xs ys a a' c c' w) k) :: (kEnd (bodyOf Tryz.f56) [1,1,0,1,0] []))) [] trivial (runs_st (hM11.blk 0 rfl) (by kernel_rfl)) ?_
     rintro _ w4 hC12
     have hE13 := hM11.toExt hE10 hC12 0 rfl
     have hM14 := hM11.set 0 rfl hC12
     refine sgz 6 [.ld (.agg #[sv ((xs.getD k d0A).d.name),.slice (xs.getD k d0A).a ((xs.getD k d0A).d.origins.length) ((xs.getD k d0A).c)]),.ld (.agg #[sv ((ys.getD k d0A).d.name),.slice (ys.getD k d0A).a ((ys.getD k d0A).d.origins.length) ((ys.getD k d0A).c)])] (kOp (cAt (bodyOf Tryz.f56) [1,1,0,1,0,0]) [1,1,0,0,1,1,0] 3 (.inv (LI 32 [] (eqDestL xs ys a a' c c' w) k) :: (kEnd (bodyOf Tryz.f56) [1,1,0,1,0] []))) [(1,.slice a' ys.length (c')),(2,.func (.func 52) #[] #[]),(15,.slice a xs.length c),(16,iv ((xs.length:Nat):Int)),(17,iv ((k:Nat):Int)),(26,.func (.func 52) #[] #[]),(27,.agg #[sv ((xs.getD k d0A).d.name),.slice (xs.getD k d0A).a ((xs.getD k d0A).d.origins.length) ((xs.getD k d0A).c)]),(28,.agg #[sv ((ys.getD k d0A).d.name),.slice (ys.getD k d0A).a ((ys.getD k d0A).d.origins.length) ((ys.getD k d0A).c)])] [w4.cell? ⟨b8,0,none⟩ = some (sv ((xs.getD k d0A).d.name)),w4.cell? ⟨b8,1,none⟩ = some (.slice (xs.getD k d0A).a ((xs.getD k d0A).d.origins.length) ((xs.getD k d0A).c)),w4.cell? ⟨b9,0,none⟩ = some (sv ((ys.getD k d0A).d.name)),w4.cell? ⟨b9,1,none⟩ = some (.slice (ys.getD k d0A).a ((ys.getD k d0A).d.origins.length) ((ys.getD k d0A).c))] (AC (cell_of (hM14.blk 1 rfl) rfl) (AC (cell_of (hM14.blk 1 rfl) rfl) (AC (cell_of (hM14.blk 0 rfl) rfl) (A1 (cell_of (hM14.blk 0 rfl) rfl))))) ?_
     refine oss [] (.call 52 [.agg #[sv ((xs.getD k d0A).d.name),.slice (xs.getD k d0A).a ((xs.getD k d0A).d.origins.length) ((xs.getD k d0A).c)],.agg #[sv ((ys.getD k d0A).d.name),.slice (ys.getD k d0A).a ((ys.getD k d0A).d.origins.length) ((ys.getD k d0A).c)]]) (some 29) (kOp (cAt (bodyOf Tryz.f56) [1,1,0,1,0,0]) [1,1,0,0,1,1,0] 4 (.inv (LI 32 [] (eqDestL xs ys a a' c c' w) k) :: (kEnd (bodyOf Tryz.f56) [1,1,0,1,0] []))) [] trivial (runs_call E52 (same1_any (xs.getD k d0A) (ys.getD k d0A) w4 ((ho _ (getD_mem' _ hk2)).1.ext hE13) ((hp _ (getD_mem' _ hk3)).ext hE13) (by have := (ho _ (getD_mem' d0A hk2)).2; omega))) ?_
     rintro _ w5 ⟨rfl,hx⟩
     have hE15 := hE13.trans hx
     have hM16 := hM14.ext hx
     refine sgz 2 [] (kAt (cAt (bodyOf Tryz.f56) [1,1,0,1,0,0]) [1,1,0,0,1,1,1] (.inv (LI 32 [] (eqDestL xs ys a a' c c' w) k) :: (kEnd (bodyOf Tryz.f56) [1,1,0,1,0] []))) [(1,.slice a' ys.length (c')),(2,.func (.func 52) #[] #[]),(15,.slice a xs.length c),(16,iv ((xs.length:Nat):Int)),(17,iv ((k:Nat):Int)),(30,.bool (!(decide ((xs.getD k d0A).d = (ys.getD k d0A).d))))] [] trivial ?_
     refine brs (!(decide ((xs.getD k d0A).d = (ys.getD k d0A).d))) (kAt (cAt (bodyOf Tryz.f56) [1,1,0,1,0,0]) [1,1,0,0,1,1,1,0] (.inv (LI 32 [] (eqDestL xs ys a a' c c' w) k) :: (kEnd (bodyOf Tryz.f56) [1,1,0,1,0] []))) (kAt (cAt (bodyOf Tryz.f56) [1,1,0,1,0,0]) [1,1,0,0,1,1,1,1] (.inv (LI 32 [] (eqDestL xs ys a a' c c' w) k) :: (kEnd (bodyOf Tryz.f56) [1,1,0,1,0] []))) (¬ ((xs.getD k d0A).d = (ys.getD k d0A).d)) ((iffNot iffDec)) (fun h2 => ?_) (fun h2 => ?_)
     · refine sgz 4 [] (kAt (cAt (bodyOf Tryz.f56) [1,1,0,1,0,0]) [1,1,0,0,1,1,1,0,1] (.inv (LI 32 [] (eqDestL xs ys a a' c c' w) k) :: (kEnd (bodyOf Tryz.f56) [1,1,0,1,0] []))) [(1,.slice a' ys.length (c')),(2,.func (.func 52) #[] #[]),(6,.bool false),(15,.slice a xs.length c),(16,iv ((xs.length:Nat):Int)),(17,iv ((k:Nat):Int))] [] trivial ?_
       exact retD (hs := []) (vs := [.bool false]) (ps := []) (by kernel_rfl) trivial (v := .bool false) rfl (⟨by rw [decide_eq_false (fun e => h2 (by have h4 := congrArg (fun l => l.getD k d0D) e; simpa [List.getD_eq_getElem?_getD,List.getElem?_map,List.getElem?_eq_getElem hk2,List.getElem?_eq_getElem hk3] using h4))],hE15⟩)
     · have h3 := Classical.not_not.1 h2
       refine sgz 6 [] (.inv (LI 32 [] (eqDestL xs ys a a' c c' w) k) :: (kEnd (bodyOf Tryz.f56) [1,1,0,1,0] [])) [(1,.slice a' ys.length (c')),(2,.func (.func 52) #[] #[]),(15,.slice a xs.length c),(16,iv ((xs.length:Nat):Int)),(17,iv ((k + 1:Nat):Int))] [I64 ((k + 1:Nat):Int)] (A1 (i64 (by omega))) ?_
       exact again (k + 1) [1,2,15,16,17] (by kernel_rfl) (⟨hE15,by omega,fun j hj => by by_cases e : j = k; (subst e; exact h3); exact hq j (by omega)⟩) (show xs.length - (k + 1) < xs.length - k by omega)
   · refine sgz 5 [] (kAt (bodyOf Tryz.f56) (ro1 4 []) []) [(6,.bool true)] [] trivial ?_
     exact retD (hs := []) (vs := [.bool true]) (ps := []) (by kernel_rfl) trivial (v := .bool true) rfl (⟨by rw [decide_eq_true (eq_of_getD d0D (by simpa using h0) (fun j hj => by have hj' : j < xs.length := (by simpa using hj); have h4 := hq j (by omega); simpa [List.getD_eq_getElem?_getD,List.getElem?_map,List.getElem?_eq_getElem hj',List.getElem?_eq_getElem (h0 ▸ hj')] using h4))],K1⟩)

set_option maxRecDepth 20000 in
theorem Same_any (p p' : PPlan) (q q' : PAd) (w : World) (hP : PlanAt w p q) (hQ : PlanAt w p' q') :
    Does Tryz.prog 19 [.agg #[iv p.proto,iv p.cap,iv p.k,.slice q.a1 p.nodes.length q.c1,.slice q.a2 p.links.length q.c2,.slice q.a3 p.dests.length q.c3,.slice q.a4 p.checks.length q.c4],.agg #[iv (p'.proto),iv (p'.cap),iv (p'.k),.slice q'.a1 (p'.nodes.length) (q'.c1),.slice q'.a2 (p'.links.length) (q'.c2),.slice q'.a3 (p'.dests.length) (q'.c3),.slice q'.a4 (p'.checks.length) (q'.c4)]] w (fun v w' => v = .bool (decide (p = p')) ∧ Ext w w') := by
 refine startD (c := (bodyOf Tryz.f19)) Tryz.func19 rfl (by kernel_rfl) ?_
 show G _ 54 [] _ (kAt (bodyOf Tryz.f19) [] []) (stz [(0,.agg #[iv p.proto,iv p.cap,iv p.k,.slice q.a1 p.nodes.length q.c1,.slice q.a2 p.links.length q.c2,.slice q.a3 p.dests.length q.c3,.slice q.a4 p.checks.length q.c4]),(1,.agg #[iv (p'.proto),iv (p'.cap),iv (p'.k),.slice q'.a1 (p'.nodes.length) (q'.c1),.slice q'.a2 (p'.links.length) (q'.c2),.slice q'.a3 (p'.dests.length) (q'.c3),.slice q'.a4 (p'.checks.length) (q'.c4)])]) w
 have hq := hP.dlen
 have hr := hQ.dlen
 have hE1 : Ext w w := Ext.refl w
 have hM2 : Hold w w.heap.size [] := Hold.nil hE1.le
 refine sgz 2 [] (kOp (bodyOf Tryz.f19) [0] 0 []) [(0,.agg #[iv p.proto,iv p.cap,iv p.k,.slice q.a1 p.nodes.length q.c1,.slice q.a2 p.links.length q.c2,.slice q.a3 p.dests.length q.c3,.slice q.a4 p.checks.length q.c4]),(1,.agg #[iv (p'.proto),iv (p'.cap),iv (p'.k),.slice q'.a1 (p'.nodes.length) (q'.c1),.slice q'.a2 (p'.links.length) (q'.c2),.slice q'.a3 (p'.dests.length) (q'.c3),.slice q'.a4 (p'.checks.length) (q'.c4)])] [] trivial ?_
 refine oss [] (.box 29 (.agg #[iv p.proto,iv p.cap,iv p.k,.slice q.a1 p.nodes.length q.c1,.slice q.a2 p.links.length q.c2,.slice q.a3 p.dests.length q.c3,.slice q.a4 p.checks.length q.c4])) (some 2) (kOp (bodyOf Tryz.f19) [0] 1 []) [] trivial (runs_box _ _) ?_
 rintro _ w1 ⟨b1,rfl,hN3⟩
 have hE4 := hE1.trans hN3.ext
 have hM5 := hM2.new hN3
 refine oss [] (.box 29 (.agg #[iv (p'.proto),iv (p'.cap),iv (p'.k),.slice q'.a1 (p'.nodes.length) (q'.c1),.slice q'.a2 (p'.links.length) (q'.c2),.slice q'.a3 (p'.dests.length) (q'.c3),.slice q'.a4 (p'.checks.length) (q'.c4)])) (some 3) (kOp (bodyOf Tryz.f19) [0] 2 []) [] trivial (runs_box _ _) ?_
 rintro _ w2 ⟨b2,rfl,hN6⟩
 have hE7 := hE4.trans hN6.ext
 have hM8 := hM5.new hN6
 refine sgs 32 [.ld (iv p.proto),.ld (iv (p'.proto)),.sym,.sym,.ld (iv p.cap),.sym,.sym,.ld (iv (p'.cap)),.sym,.sym,.sym,.ld (iv p.k),.sym,.sym,.ld (iv (p'.k)),.sym,.sym,.sym,.ld (.slice q.a1 p.nodes.length q.c1),.sym,.sym,.ld (.slice q'.a1 (p'.nodes.length) (q'.c1))] [2,3,4,5,25,27,29] (kOp (bodyOf Tryz.f19) [1,1,0] 24 []) [(2,none,pt b1 0),(3,none,pt b2 0),(4,none,.bool false),(5,none,.func (.func 52) #[] #[]),(25,none,.bool (((decide ((p.proto : Int) = p'.proto)) && (decide ((p.cap : Int) = p'.cap))) && (decide ((p.k : Int) = p'.k)))),(27,some (((decide ((p.proto : Int) = p'.proto)) && (decide ((p.cap : Int) = p'.cap))) && (decide ((p.k : Int) = p'.k))),.slice q.a1 p.nodes.length q.c1),(29,some (((decide ((p.proto : Int) = p'.proto)) && (decide ((p.cap : Int) = p'.cap))) && (decide ((p.k : Int) = p'.k))),.slice q'.a1 (p'.nodes.length) (q'.c1))] [w2.cell? ⟨b1,0,none⟩ = some (iv p.proto),w2.cell? ⟨b2,0,none⟩ = some (iv (p'.proto)),(decide ((p.proto : Int) = p'.proto)) = true → (decide ((p.proto : Int) = p'.proto)) = true,(decide ((p.proto : Int) = p'.proto)) = true → w2.cell? ⟨b1,1,none⟩ = some (iv p.cap),(decide ((p.proto : Int) = p'.proto)) = true → (decide ((p.proto : Int) = p'.proto)) = true,(decide ((p.proto : Int) = p'.proto)) = true → w2.cell? ⟨b2,1,none⟩ = some (iv (p'.cap)),(decide ((p.proto : Int) = p'.proto)) = true → (decide ((p.proto : Int) = p'.proto)) = true,(decide ((p.proto : Int) = p'.proto)) = true → (decide ((p.proto : Int) = p'.proto)) = true,(decide ((p.proto : Int) = p'.proto)) = true → (decide ((p.proto : Int) = p'.proto)) = true,((decide ((p.proto : Int) = p'.proto)) && (decide ((p.cap : Int) = p'.cap))) = true → ((decide ((p.proto : Int) = p'.proto)) && (decide ((p.cap : Int) = p'.cap))) = true,((decide ((p.proto : Int) = p'.proto)) && (decide ((p.cap : Int) = p'.cap))) = true → w2.cell? ⟨b1,2,none⟩ = some (iv p.k),((decide ((p.proto : Int) = p'.proto)) && (decide ((p.cap : Int) = p'.cap))) = true → ((decide ((p.proto : Int) = p'.proto)) && (decide ((p.cap : Int) = p'.cap))) = true,((decide ((p.proto : Int) = p'.proto)) && (decide ((p.cap : Int) = p'.cap))) = true → w2.cell? ⟨b2,2,none⟩ = some (iv (p'.k)),((decide ((p.proto : Int) = p'.proto)) && (decide ((p.cap : Int) = p'.cap))) = true → ((decide ((p.proto : Int) = p'.proto)) && (decide ((p.cap : Int) = p'.cap))) = true,((decide ((p.proto : Int) = p'.proto)) && (decide ((p.cap : Int) = p'.cap))) = true → ((decide ((p.proto : Int) = p'.proto)) && (decide ((p.cap : Int) = p'.cap))) = true,((decide ((p.proto : Int) = p'.proto)) && (decide ((p.cap : Int) = p'.cap))) = true → ((decide ((p.proto : Int) = p'.proto)) && (decide ((p.cap : Int) = p'.cap))) = true,(((decide ((p.proto : Int) = p'.proto)) && (decide ((p.cap : Int) = p'.cap))) && (decide ((p.k : Int) = p'.k))) = true → (((decide ((p.proto : Int) = p'.proto)) && (decide ((p.cap : Int) = p'.cap))) && (decide ((p.k : Int) = p'.k))) = true,(((decide ((p.proto : Int) = p'.proto)) && (decide ((p.cap : Int) = p'.cap))) && (decide ((p.k : Int) = p'.k))) = true → w2.cell? ⟨b1,3,none⟩ = some (.slice q.a1 p.nodes.length q.c1),(((decide ((p.proto : Int) = p'.proto)) && (decide ((p.cap : Int) = p'.cap))) && (decide ((p.k : Int) = p'.k))) = true → (((decide ((p.proto : Int) = p'.proto)) && (decide ((p.cap : Int) = p'.cap))) && (decide ((p.k : Int) = p'.k))) = true,(((decide ((p.proto : Int) = p'.proto)) && (decide ((p.cap : Int) = p'.cap))) && (decide ((p.k : Int) = p'.k))) = true → w2.cell? ⟨b2,3,none⟩ = some (.slice q'.a1 (p'.nodes.length) (q'.c1))] (AC (cell_of (hM8.blk 1 rfl) rfl) (AC (cell_of (hM8.blk 0 rfl) rfl) (AC (fun h => h) (AC (fun _ => cell_of (hM8.blk 1 rfl) rfl) (AC (fun h => h) (AC (fun _ => cell_of (hM8.blk 0 rfl) rfl) (AC (fun h => h) (AC (fun h => h) (AC (fun h => h) (AC (fun h => h) (AC (fun _ => cell_of (hM8.blk 1 rfl) rfl) (AC (fun h => h) (AC (fun _ => cell_of (hM8.blk 0 rfl) rfl) (AC (fun h => h) (AC (fun h => h) (AC (fun h => h) (AC (fun h => h) (AC (fun _ => cell_of (hM8.blk 1 rfl) rfl) (AC (fun h => h) (A1 (fun _ => cell_of (hM8.blk 0 rfl) rfl))))))))))))))))))))) ?_
 by_cases h1 : (((p.proto : Int) = p'.proto) ∧ ((p.cap : Int) = p'.cap)) ∧ ((p.k : Int) = p'.k)
 · refine oss [.exec] (.call 54 [.slice q.a1 p.nodes.length q.c1,.slice q'.a1 (p'.nodes.length) (q'.c1)]) (some 30) (kOp (bodyOf Tryz.f19) [1,1,0] 25 []) [(((decide ((p.proto : Int) = p'.proto)) && (decide ((p.cap : Int) = p'.cap))) && (decide ((p.k : Int) = p'.k))) = true,(((decide ((p.proto : Int) = p'.proto)) && (decide ((p.cap : Int) = p'.cap))) && (decide ((p.k : Int) = p'.k))) = true,(((decide ((p.proto : Int) = p'.proto)) && (decide ((p.cap : Int) = p'.cap))) && (decide ((p.k : Int) = p'.k))) = true] (AC (by simpa using h1) (AC (by simp_all) (A1 (by simp_all)))) (runs_call E54 (eqNode p.nodes p'.nodes q.a1 q'.a1 q.c1 q'.c1 w2 (hP.nodes.ext hE7) (hQ.nodes.ext hE7) (by have := hP.l1; omega))) ?_
   rintro _ vh1 ⟨rfl,hxh1⟩
   have hE9 := hE7.trans hxh1
   have hM10 := hM8.ext hxh1
   refine sgs 6 [.sym,.sym,.ld (.slice q.a2 p.links.length q.c2),.sym,.sym,.ld (.slice q'.a2 (p'.links.length) (q'.c2))] [2,3,4,5,32,34,36] (kOp (bodyOf Tryz.f19) [1,1,0] 31 []) [(2,none,pt b1 0),(3,none,pt b2 0),(4,none,.bool false),(5,none,.func (.func 52) #[] #[]),(32,none,.bool ((((decide ((p.proto : Int) = p'.proto)) && (decide ((p.cap : Int) = p'.cap))) && (decide ((p.k : Int) = p'.k))) && (decide (p.nodes = p'.nodes)))),(34,some ((((decide ((p.proto : Int) = p'.proto)) && (decide ((p.cap : Int) = p'.cap))) && (decide ((p.k : Int) = p'.k))) && (decide (p.nodes = p'.nodes))),.slice q.a2 p.links.length q.c2),(36,some ((((decide ((p.proto : Int) = p'.proto)) && (decide ((p.cap : Int) = p'.cap))) && (decide ((p.k : Int) = p'.k))) && (decide (p.nodes = p'.nodes))),.slice q'.a2 (p'.links.length) (q'.c2))] [((((decide ((p.proto : Int) = p'.proto)) && (decide ((p.cap : Int) = p'.cap))) && (decide ((p.k : Int) = p'.k))) && (decide (p.nodes = p'.nodes))) = true → ((((decide ((p.proto : Int) = p'.proto)) && (decide ((p.cap : Int) = p'.cap))) && (decide ((p.k : Int) = p'.k))) && (decide (p.nodes = p'.nodes))) = true,((((decide ((p.proto : Int) = p'.proto)) && (decide ((p.cap : Int) = p'.cap))) && (decide ((p.k : Int) = p'.k))) && (decide (p.nodes = p'.nodes))) = true → vh1.cell? ⟨b1,4,none⟩ = some (.slice q.a2 p.links.length q.c2),((((decide ((p.proto : Int) = p'.proto)) && (decide ((p.cap : Int) = p'.cap))) && (decide ((p.k : Int) = p'.k))) && (decide (p.nodes = p'.nodes))) = true → ((((decide ((p.proto : Int) = p'.proto)) && (decide ((p.cap : Int) = p'.cap))) && (decide ((p.k : Int) = p'.k))) && (decide (p.nodes = p'.nodes))) = true,((((decide ((p.proto : Int) = p'.proto)) && (decide ((p.cap : Int) = p'.cap))) && (decide ((p.k : Int) = p'.k))) && (decide (p.nodes = p'.nodes))) = true → vh1.cell? ⟨b2,4,none⟩ = some (.slice q'.a2 (p'.links.length) (q'.c2))] (AC (fun h => h) (AC (fun _ => cell_of (hM10.blk 1 rfl) rfl) (AC (fun h => h) (A1 (fun _ => cell_of (hM10.blk 0 rfl) rfl))))) ?_
   by_cases h2 : ((((p.proto : Int) = p'.proto) ∧ ((p.cap : Int) = p'.cap)) ∧ ((p.k : Int) = p'.k)) ∧ (p.nodes = p'.nodes)
   · refine oss [.exec] (.call 55 [.slice q.a2 p.links.length q.c2,.slice q'.a2 (p'.links.length) (q'.c2)]) (some 37) (kOp (bodyOf Tryz.f19) [1,1,0] 32 []) [((((decide ((p.proto : Int) = p'.proto)) && (decide ((p.cap : Int) = p'.cap))) && (decide ((p.k : Int) = p'.k))) && (decide (p.nodes = p'.nodes))) = true,((((decide ((p.proto : Int) = p'.proto)) && (decide ((p.cap : Int) = p'.cap))) && (decide ((p.k : Int) = p'.k))) && (decide (p.nodes = p'.nodes))) = true,((((decide ((p.proto : Int) = p'.proto)) && (decide ((p.cap : Int) = p'.cap))) && (decide ((p.k : Int) = p'.k))) && (decide (p.nodes = p'.nodes))) = true] (AC (by simpa using h2) (AC (by simp_all) (A1 (by simp_all)))) (runs_call E55 (eqLink p.links p'.links q.a2 q'.a2 q.c2 q'.c2 vh1 (hP.links.ext hE9) (hQ.links.ext hE9) (by have := hP.l2; omega))) ?_
     rintro _ vh2 ⟨rfl,hxh2⟩
     have hE11 := hE9.trans hxh2
     have hM12 := hM10.ext hxh2
     refine sgs 7 [.sym,.sym,.ld (.slice q.a3 p.dests.length q.c3),.sym,.sym,.ld (.slice q'.a3 (p'.dests.length) (q'.c3)),.sym] [2,3,4,39,41,43,44] (kOp (bodyOf Tryz.f19) [1,1,0] 39 []) [(2,none,pt b1 0),(3,none,pt b2 0),(4,none,.bool false),(39,none,.bool (((((decide ((p.proto : Int) = p'.proto)) && (decide ((p.cap : Int) = p'.cap))) && (decide ((p.k : Int) = p'.k))) && (decide (p.nodes = p'.nodes))) && (decide (p.links = p'.links)))),(41,some (((((decide ((p.proto : Int) = p'.proto)) && (decide ((p.cap : Int) = p'.cap))) && (decide ((p.k : Int) = p'.k))) && (decide (p.nodes = p'.nodes))) && (decide (p.links = p'.links))),.slice q.a3 p.dests.length q.c3),(43,some (((((decide ((p.proto : Int) = p'.proto)) && (decide ((p.cap : Int) = p'.cap))) && (decide ((p.k : Int) = p'.k))) && (decide (p.nodes = p'.nodes))) && (decide (p.links = p'.links))),.slice q'.a3 (p'.dests.length) (q'.c3)),(44,some (((((decide ((p.proto : Int) = p'.proto)) && (decide ((p.cap : Int) = p'.cap))) && (decide ((p.k : Int) = p'.k))) && (decide (p.nodes = p'.nodes))) && (decide (p.links = p'.links))),.func (.func 52) #[] #[])] [(((((decide ((p.proto : Int) = p'.proto)) && (decide ((p.cap : Int) = p'.cap))) && (decide ((p.k : Int) = p'.k))) && (decide (p.nodes = p'.nodes))) && (decide (p.links = p'.links))) = true → (((((decide ((p.proto : Int) = p'.proto)) && (decide ((p.cap : Int) = p'.cap))) && (decide ((p.k : Int) = p'.k))) && (decide (p.nodes = p'.nodes))) && (decide (p.links = p'.links))) = true,(((((decide ((p.proto : Int) = p'.proto)) && (decide ((p.cap : Int) = p'.cap))) && (decide ((p.k : Int) = p'.k))) && (decide (p.nodes = p'.nodes))) && (decide (p.links = p'.links))) = true → vh2.cell? ⟨b1,5,none⟩ = some (.slice q.a3 p.dests.length q.c3),(((((decide ((p.proto : Int) = p'.proto)) && (decide ((p.cap : Int) = p'.cap))) && (decide ((p.k : Int) = p'.k))) && (decide (p.nodes = p'.nodes))) && (decide (p.links = p'.links))) = true → (((((decide ((p.proto : Int) = p'.proto)) && (decide ((p.cap : Int) = p'.cap))) && (decide ((p.k : Int) = p'.k))) && (decide (p.nodes = p'.nodes))) && (decide (p.links = p'.links))) = true,(((((decide ((p.proto : Int) = p'.proto)) && (decide ((p.cap : Int) = p'.cap))) && (decide ((p.k : Int) = p'.k))) && (decide (p.nodes = p'.nodes))) && (decide (p.links = p'.links))) = true → vh2.cell? ⟨b2,5,none⟩ = some (.slice q'.a3 (p'.dests.length) (q'.c3))] (AC (fun h => h) (AC (fun _ => cell_of (hM12.blk 1 rfl) rfl) (AC (fun h => h) (A1 (fun _ => cell_of (hM12.blk 0 rfl) rfl))))) ?_
     by_cases h3 : (((((p.proto : Int) = p'.proto) ∧ ((p.cap : Int) = p'.cap)) ∧ ((p.k : Int) = p'.k)) ∧ (p.nodes = p'.nodes)) ∧ (p.links = p'.links)
     · refine oss [.exec] (.call 56 [.slice q.a3 p.dests.length q.c3,.slice q'.a3 (p'.dests.length) (q'.c3),.func (.func 52) #[] #[]]) (some 45) (kOp (bodyOf Tryz.f19) [1,1,0] 40 []) [(((((decide ((p.proto : Int) = p'.proto)) && (decide ((p.cap : Int) = p'.cap))) && (decide ((p.k : Int) = p'.k))) && (decide (p.nodes = p'.nodes))) && (decide (p.links = p'.links))) = true,(((((decide ((p.proto : Int) = p'.proto)) && (decide ((p.cap : Int) = p'.cap))) && (decide ((p.k : Int) = p'.k))) && (decide (p.nodes = p'.nodes))) && (decide (p.links = p'.links))) = true,(((((decide ((p.proto : Int) = p'.proto)) && (decide ((p.cap : Int) = p'.cap))) && (decide ((p.k : Int) = p'.k))) && (decide (p.nodes = p'.nodes))) && (decide (p.links = p'.links))) = true,(((((decide ((p.proto : Int) = p'.proto)) && (decide ((p.cap : Int) = p'.cap))) && (decide ((p.k : Int) = p'.k))) && (decide (p.nodes = p'.nodes))) && (decide (p.links = p'.links))) = true] (AC (by simpa using h3) (AC (by simp_all) (AC (by simp_all) (A1 (by simp_all))))) (runs_call E56 (by have h := eqDest q.ds q'.ds q.a3 q'.a3 q.c3 q'.c3 vh2 (hP.dests.ext hE11) (hQ.dests.ext hE11) (by have := hP.l3; omega) (fun x hx => ⟨(hP.orig x hx).1.ext hE11,(hP.orig x hx).2⟩) (fun x hx => (hQ.orig x hx).1.ext hE11); rw [hq,hr,hP.deq,hQ.deq] at h; exact h)) ?_
       rintro _ vh3 ⟨rfl,hxh3⟩
       have hE13 := hE11.trans hxh3
       have hM14 := hM12.ext hxh3
       refine sgs 6 [.sym,.sym,.ld (.slice q.a4 p.checks.length q.c4),.sym,.sym,.ld (.slice q'.a4 (p'.checks.length) (q'.c4))] [4,47,49,51] (kOp (bodyOf Tryz.f19) [1,1,0] 46 []) [(4,none,.bool false),(47,none,.bool ((((((decide ((p.proto : Int) = p'.proto)) && (decide ((p.cap : Int) = p'.cap))) && (decide ((p.k : Int) = p'.k))) && (decide (p.nodes = p'.nodes))) && (decide (p.links = p'.links))) && (decide (p.dests = p'.dests)))),(49,some ((((((decide ((p.proto : Int) = p'.proto)) && (decide ((p.cap : Int) = p'.cap))) && (decide ((p.k : Int) = p'.k))) && (decide (p.nodes = p'.nodes))) && (decide (p.links = p'.links))) && (decide (p.dests = p'.dests))),.slice q.a4 p.checks.length q.c4),(51,some ((((((decide ((p.proto : Int) = p'.proto)) && (decide ((p.cap : Int) = p'.cap))) && (decide ((p.k : Int) = p'.k))) && (decide (p.nodes = p'.nodes))) && (decide (p.links = p'.links))) && (decide (p.dests = p'.dests))),.slice q'.a4 (p'.checks.length) (q'.c4))] [((((((decide ((p.proto : Int) = p'.proto)) && (decide ((p.cap : Int) = p'.cap))) && (decide ((p.k : Int) = p'.k))) && (decide (p.nodes = p'.nodes))) && (decide (p.links = p'.links))) && (decide (p.dests = p'.dests))) = true → ((((((decide ((p.proto : Int) = p'.proto)) && (decide ((p.cap : Int) = p'.cap))) && (decide ((p.k : Int) = p'.k))) && (decide (p.nodes = p'.nodes))) && (decide (p.links = p'.links))) && (decide (p.dests = p'.dests))) = true,((((((decide ((p.proto : Int) = p'.proto)) && (decide ((p.cap : Int) = p'.cap))) && (decide ((p.k : Int) = p'.k))) && (decide (p.nodes = p'.nodes))) && (decide (p.links = p'.links))) && (decide (p.dests = p'.dests))) = true → vh3.cell? ⟨b1,6,none⟩ = some (.slice q.a4 p.checks.length q.c4),((((((decide ((p.proto : Int) = p'.proto)) && (decide ((p.cap : Int) = p'.cap))) && (decide ((p.k : Int) = p'.k))) && (decide (p.nodes = p'.nodes))) && (decide (p.links = p'.links))) && (decide (p.dests = p'.dests))) = true → ((((((decide ((p.proto : Int) = p'.proto)) && (decide ((p.cap : Int) = p'.cap))) && (decide ((p.k : Int) = p'.k))) && (decide (p.nodes = p'.nodes))) && (decide (p.links = p'.links))) && (decide (p.dests = p'.dests))) = true,((((((decide ((p.proto : Int) = p'.proto)) && (decide ((p.cap : Int) = p'.cap))) && (decide ((p.k : Int) = p'.k))) && (decide (p.nodes = p'.nodes))) && (decide (p.links = p'.links))) && (decide (p.dests = p'.dests))) = true → vh3.cell? ⟨b2,6,none⟩ = some (.slice q'.a4 (p'.checks.length) (q'.c4))] (AC (fun h => h) (AC (fun _ => cell_of (hM14.blk 1 rfl) rfl) (AC (fun h => h) (A1 (fun _ => cell_of (hM14.blk 0 rfl) rfl))))) ?_
       by_cases h4 : ((((((p.proto : Int) = p'.proto) ∧ ((p.cap : Int) = p'.cap)) ∧ ((p.k : Int) = p'.k)) ∧ (p.nodes = p'.nodes)) ∧ (p.links = p'.links)) ∧ (p.dests = p'.dests)
       · refine oss [.exec] (.call 57 [.slice q.a4 p.checks.length q.c4,.slice q'.a4 (p'.checks.length) (q'.c4)]) (some 52) (kOp (bodyOf Tryz.f19) [1,1,0] 47 []) [((((((decide ((p.proto : Int) = p'.proto)) && (decide ((p.cap : Int) = p'.cap))) && (decide ((p.k : Int) = p'.k))) && (decide (p.nodes = p'.nodes))) && (decide (p.links = p'.links))) && (decide (p.dests = p'.dests))) = true,((((((decide ((p.proto : Int) = p'.proto)) && (decide ((p.cap : Int) = p'.cap))) && (decide ((p.k : Int) = p'.k))) && (decide (p.nodes = p'.nodes))) && (decide (p.links = p'.links))) && (decide (p.dests = p'.dests))) = true,((((((decide ((p.proto : Int) = p'.proto)) && (decide ((p.cap : Int) = p'.cap))) && (decide ((p.k : Int) = p'.k))) && (decide (p.nodes = p'.nodes))) && (decide (p.links = p'.links))) && (decide (p.dests = p'.dests))) = true] (AC (by simpa using h4) (AC (by simp_all) (A1 (by simp_all)))) (runs_call E57 (eqCheck p.checks p'.checks q.a4 q'.a4 q.c4 q'.c4 vh3 (hP.checks.ext hE13) (hQ.checks.ext hE13) (by have := hP.l4; omega))) ?_
         rintro _ vh4 ⟨rfl,hxh4⟩
         have hE15 := hE13.trans hxh4
         have hM16 := hM14.ext hxh4
         refine sgz 3 [] (kAt (bodyOf Tryz.f19) [1,1,1] []) [(4,.bool (((((((decide ((p.proto : Int) = p'.proto)) && (decide ((p.cap : Int) = p'.cap))) && (decide ((p.k : Int) = p'.k))) && (decide (p.nodes = p'.nodes))) && (decide (p.links = p'.links))) && (decide (p.dests = p'.dests))) && (decide (p.checks = p'.checks))))] [] trivial ?_
         exact retD (hs := []) (vs := [.bool (((((((decide ((p.proto : Int) = p'.proto)) && (decide ((p.cap : Int) = p'.cap))) && (decide ((p.k : Int) = p'.k))) && (decide (p.nodes = p'.nodes))) && (decide (p.links = p'.links))) && (decide (p.dests = p'.dests))) && (decide (p.checks = p'.checks)))]) (ps := []) (by kernel_rfl) trivial (v := .bool (((((((decide ((p.proto : Int) = p'.proto)) && (decide ((p.cap : Int) = p'.cap))) && (decide ((p.k : Int) = p'.k))) && (decide (p.nodes = p'.nodes))) && (decide (p.links = p'.links))) && (decide (p.dests = p'.dests))) && (decide (p.checks = p'.checks)))) rfl (⟨by congr 1; rw [Bool.eq_iff_iff]; simp only [Bool.and_eq_true,decide_eq_true_eq,planEq]; exact ⟨fun ⟨⟨⟨⟨⟨⟨a,b⟩,c⟩,d⟩,e⟩,f⟩,g⟩ => ⟨a,b,c,d,e,f,g⟩,fun ⟨a,b,c,d,e,f,g⟩ => ⟨⟨⟨⟨⟨⟨a,b⟩,c⟩,d⟩,e⟩,f⟩,g⟩⟩,hE15⟩)
       · refine sgz 4 [.skip] (kAt (bodyOf Tryz.f19) [1,1,1] []) [(4,.bool false)] [((((((decide ((p.proto : Int) = p'.proto)) && (decide ((p.cap : Int) = p'.cap))) && (decide ((p.k : Int) = p'.k))) && (decide (p.nodes = p'.nodes))) && (decide (p.links = p'.links))) && (decide (p.dests = p'.dests))) = (!true),((((((decide ((p.proto : Int) = p'.proto)) && (decide ((p.cap : Int) = p'.cap))) && (decide ((p.k : Int) = p'.k))) && (decide (p.nodes = p'.nodes))) && (decide (p.links = p'.links))) && (decide (p.dests = p'.dests))) = false] (AC (by simpa using h4) (A1 (by simpa using h4))) ?_
         exact retD (hs := []) (vs := [.bool false]) (ps := []) (by kernel_rfl) trivial (v := .bool false) rfl (⟨by rw [decide_eq_false (fun e => h4 (by subst e; simp))],hE13⟩)
     · refine sgz 11 [.skip,.skip,.skip,.skip,.skip,.skip] (kAt (bodyOf Tryz.f19) [1,1,1] []) [(4,.bool false)] [(((((decide ((p.proto : Int) = p'.proto)) && (decide ((p.cap : Int) = p'.cap))) && (decide ((p.k : Int) = p'.k))) && (decide (p.nodes = p'.nodes))) && (decide (p.links = p'.links))) = (!true),(((((decide ((p.proto : Int) = p'.proto)) && (decide ((p.cap : Int) = p'.cap))) && (decide ((p.k : Int) = p'.k))) && (decide (p.nodes = p'.nodes))) && (decide (p.links = p'.links))) = false,false = (!true),false = (!true),false = (!true),false = (!true),false = (!true),false = false] (AC (by simpa using h3) (AC (by simpa using h3) (AC rfl (AC rfl (AC rfl (AC rfl (AC rfl (A1 rfl)))))))) ?_
       exact retD (hs := []) (vs := [.bool false]) (ps := []) (by kernel_rfl) trivial (v := .bool false) rfl (⟨by rw [decide_eq_false (fun e => h3 (by subst e; simp))],hE11⟩)
   · refine sgz 19 [.skip,.skip,.skip,.skip,.skip,.skip,.skip,.skip,.skip,.skip,.skip,.skip] (kAt (bodyOf Tryz.f19) [1,1,1] []) [(4,.bool false)] [((((decide ((p.proto : Int) = p'.proto)) && (decide ((p.cap : Int) = p'.cap))) && (decide ((p.k : Int) = p'.k))) && (decide (p.nodes = p'.nodes))) = (!true),((((decide ((p.proto : Int) = p'.proto)) && (decide ((p.cap : Int) = p'.cap))) && (decide ((p.k : Int) = p'.k))) && (decide (p.nodes = p'.nodes))) = false,false = (!true),false = (!true),false = (!true),false = (!true),false = (!true),false = (!true),false = false,false = (!true),false = (!true),false = (!true),false = (!true),false = (!true),false = false] (AC (by simpa using h2) (AC (by simpa using h2) (AC rfl (AC rfl (AC rfl (AC rfl (AC rfl (AC rfl (AC rfl (AC rfl (AC rfl (AC rfl (AC rfl (AC rfl (A1 rfl))))))))))))))) ?_
     exact retD (hs := []) (vs := [.bool false]) (ps := []) (by kernel_rfl) trivial (v := .bool false) rfl (⟨by rw [decide_eq_false (fun e => h2 (by subst e; simp))],hE9⟩)
 · refine sgz 26 [.skip,.skip,.skip,.skip,.skip,.skip,.skip,.skip,.skip,.skip,.skip,.skip,.skip,.skip,.skip,.skip,.skip] (kAt (bodyOf Tryz.f19) [1,1,1] []) [(4,.bool false)] [(((decide ((p.proto : Int) = p'.proto)) && (decide ((p.cap : Int) = p'.cap))) && (decide ((p.k : Int) = p'.k))) = (!true),(((decide ((p.proto : Int) = p'.proto)) && (decide ((p.cap : Int) = p'.cap))) && (decide ((p.k : Int) = p'.k))) = false,false = (!true),false = (!true),false = (!true),false = (!true),false = (!true),false = false,false = (!true),false = (!true),false = (!true),false = (!true),false = (!true),false = (!true),false = false,false = (!true),false = (!true),false = (!true),false = (!true),false = (!true),false = false] (AC (by simpa using h1) (AC (by simpa using h1) (AC rfl (AC rfl (AC rfl (AC rfl (AC rfl (AC rfl (AC rfl (AC rfl (AC rfl (AC rfl (AC rfl (AC rfl (AC rfl (AC rfl (AC rfl (AC rfl (AC rfl (AC rfl (A1 rfl))))))))))))))))))))) ?_
   exact retD (hs := []) (vs := [.bool false]) (ps := []) (by kernel_rfl) trivial (v := .bool false) rfl (⟨by rw [decide_eq_false (fun e => h1 (by subst e; simp))],hE7⟩)

end Go.Proofs.YtjhgghpeapmgdaaGreatDoor
