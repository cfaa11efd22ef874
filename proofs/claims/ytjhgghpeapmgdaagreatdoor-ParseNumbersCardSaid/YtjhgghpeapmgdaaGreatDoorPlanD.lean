/-
  PLAN: contracts of nodes, check, of the closures, of Node, Dest and Same.
-/
import Derived.Test.YtjhgghpeapmgdaaGreatDoorPlanC
import Derived.Test.YtjhgghpeapmgdaaGreatDoorMore
import Derived.Test.YtjhgghpeapmgdaaGreatDoorMg2
namespace Go.Proofs.YtjhgghpeapmgdaaGreatDoor
open Go.Bk Go.Proofs

theorem E43 : Proofs.Enters Tryz.prog 43 := Proofs.enters_of Tryz.func43 (by kernel_rfl) rfl

theorem E75 : Proofs.Enters Tryz.prog 75 := Proofs.enters_of Tryz.func75 (by kernel_rfl) rfl

theorem E40 : Proofs.Enters Tryz.prog 40 := Proofs.enters_of Tryz.func40 (by kernel_rfl) rfl

theorem E37 : Proofs.Enters Tryz.prog 37 := Proofs.enters_of Tryz.func37 (by kernel_rfl) rfl

theorem E39 : Proofs.Enters Tryz.prog 39 := Proofs.enters_of Tryz.func39 (by kernel_rfl) rfl

theorem E21 : Proofs.Enters Tryz.prog 21 := Proofs.enters_of Tryz.func21 (by kernel_rfl) rfl

theorem E59 : Proofs.Enters Tryz.prog 59 := Proofs.enters_of Tryz.func59 (by kernel_rfl) rfl

theorem E23 : Proofs.Enters Tryz.prog 23 := Proofs.enters_of Tryz.func23 (by kernel_rfl) rfl

theorem E61 : Proofs.Enters Tryz.prog 61 := Proofs.enters_of Tryz.func61 (by kernel_rfl) rfl

set_option maxRecDepth 20000 in
theorem nodes1_any (x : PNode) (w : World)  :
    Does Tryz.prog 75 [(vN x)] w (fun v w' => v = .bool (!asB x) ∧ Ext w w') := by
 refine startD (c := Y75) Tryz.func75 rfl (by kernel_rfl) ?_
 show G _ 7 [] _ (kAt Y75 [] []) (stz [(0,(vN x))]) w
 have hE1 : Ext w w := Ext.refl w
 have hM2 : Hold w w.heap.size [] := Hold.nil hE1.le
 refine sg0 2 (kOp Y75 [0] 0 []) [(0,(vN x))] ?_
 refine os0 (.box 52 (vN x)) (some 1) (kOp Y75 [0] 1 []) (runs_box _ _) ?_
 rintro _ w1 ⟨b1,rfl,hN3⟩
 have hE4 := hE1.trans hN3.ext
 have hM5 := hM2.new hN3
 refine sgz 6 [.ld (iv x.asn)] (kOp Y75 [1,0] 2 []) [(2,.bool false),(4,iv x.asn)] [cl w1 b1 1 (iv x.asn)] (A1 (cell_of (hM5.blk 0 rfl) rfl)) ?_
 refine os0 _ (some 5) (kOp Y75 [1,0] 3 []) (runs_call E42 (within_any x.asn 1 65535 w1)) ?_
 rintro _ _ ⟨rfl,rfl⟩
 refine sg0 3 (kAt Y75 [1,1] []) [(2,.bool (!(withinB x.asn 1 65535)))] ?_
 exact ret1 (.bool (!(withinB x.asn 1 65535))) (⟨rfl,hE4⟩)

set_option maxRecDepth 20000 in
theorem nodes_any (p : PPlan) (q : PAd) (w : World) (hP : PlanAt w p q) :
    Does Tryz.prog 43 [(pv p q)] w (fun v w' => v = .bool (nodesB p) ∧ Ext w w') := by
 refine startD (c := Y43) Tryz.func43 rfl (by kernel_rfl) ?_
 show G _ 15 [] _ (kAt Y43 [] []) (stz [(0,(pv p q))]) w
 have hE1 : Ext w w := Ext.refl w
 have hM2 : Hold w w.heap.size [] := Hold.nil hE1.le
 refine sg0 2 (kOp Y43 [0] 0 []) [(0,(pv p q))] ?_
 refine os0 (.box 29 (pv p q)) (some 1) (kOp Y43 [0] 1 []) (runs_box _ _) ?_
 rintro _ w1 ⟨b1,rfl,hN3⟩
 have hE4 := hE1.trans hN3.ext
 have hM5 := hM2.new hN3
 refine sgz 11 [.ld (.slice q.a1 p.nodes.length q.c1)] (kOp Y43 [1,1,0] 3 []) [(1,pt b1 0),(2,.bool false),(3,.func (.func 75) #[] #[]),(6,iv (p.nodes.length:Int))] [cl w1 b1 3 (.slice q.a1 p.nodes.length q.c1)] (A1 (cell_of (hM5.blk 0 rfl) rfl)) ?_
 refine os0 _ (some 7) (kOp Y43 [1,1,0] 4 []) (runs_call E42 (within_any p.nodes.length 1 12 w1)) ?_
 rintro _ _ ⟨rfl,rfl⟩
 refine sgs 4 [.sym,.sym,.ld (.slice q.a1 p.nodes.length q.c1),.sym] [2,8,10,11] (kOp Y43 [1,1,0] 8 []) [(2,none,.bool false),(8,none,.bool (withinB p.nodes.length 1 12)),(10,some (withinB p.nodes.length 1 12),.slice q.a1 p.nodes.length q.c1),(11,some (withinB p.nodes.length 1 12),.func (.func 75) #[] #[])] [(withinB p.nodes.length 1 12) = true → (withinB p.nodes.length 1 12) = true,(withinB p.nodes.length 1 12) = true → cl w1 b1 3 (.slice q.a1 p.nodes.length q.c1)] (AC (fun h => h) (A1 (fun _ => cell_of (hM5.blk 0 rfl) rfl))) ?_
 by_cases h1 : (withinB p.nodes.length 1 12) = true
 ·refine oss [.exec] (.call 76 [.slice q.a1 p.nodes.length q.c1,.func (.func 75) #[] #[]]) (some 12) (kOp Y43 [1,1,0] 9 []) [(withinB p.nodes.length 1 12) = true,(withinB p.nodes.length 1 12) = true,(withinB p.nodes.length 1 12) = true] (AC h1 (AC (by simp_all) (A1 (by simp_all)))) (runs_call E76 (hasNode0 p.nodes q.a1 q.c1 75 (fun x => !asB x) w1 E75 (fun k hk w' hx => nodes1_any _ w') (hP.nodes.ext hE4) (by have := hP.l1; omega))) ?_
  rintro _ w2 ⟨rfl,hx⟩
  have hE6 := hE4.trans hx
  have hM7 := hM5.ext hx
  refine sgz 4 [.exec] (kAt Y43 [1,1,1] []) [(2,.bool ((withinB p.nodes.length 1 12) && (!(p.nodes.any fun x => !asB x))))] [(withinB p.nodes.length 1 12) = true] (A1 h1) ?_
  exact ret1 (.bool ((withinB p.nodes.length 1 12) && (!(p.nodes.any fun x => !asB x)))) (⟨by unfold nodesB; rw [h1,notAny asB,Bool.true_and],hE6⟩)
 refine sgz 5 [.skip,.skip] (kAt Y43 [1,1,1] []) [(2,.bool false)] [(withinB p.nodes.length 1 12) = (!true),(withinB p.nodes.length 1 12) = (!true),(withinB p.nodes.length 1 12) = false] (AC (Bool.eq_false_iff.2 h1) (AC (Bool.eq_false_iff.2 h1) (A1 (Bool.eq_false_iff.2 h1)))) ?_
 exact ret1 (.bool false) (⟨by unfold nodesB; rw [Bool.eq_false_iff.2 h1]; rfl,hE4⟩)

set_option maxRecDepth 20000 in
theorem check_any (p : PPlan) (q : PAd) (c : PCheck) (w : World)  :
    Does Tryz.prog 40 [(pv p q),(vC c)] w (fun v w' => v = .bool (checkB p c) ∧ Ext w w') := by
 refine startD (c := Y40) Tryz.func40 rfl (by kernel_rfl) ?_
 show G _ 45 [] _ (kAt Y40 [] []) (stz [(0,(pv p q)),(1,(vC c))]) w
 have hE1 : Ext w w := Ext.refl w
 have hM2 : Hold w w.heap.size [] := Hold.nil hE1.le
 refine sg0 2 (kOp Y40 [0] 0 []) [(0,(pv p q)),(1,(vC c))] ?_
 refine os0 (.box 29 (pv p q)) (some 2) (kOp Y40 [0] 1 []) (runs_box _ _) ?_
 rintro _ w1 ⟨b1,rfl,hN3⟩
 have hE4 := hE1.trans hN3.ext
 have hM5 := hM2.new hN3
 refine os0 (.box 67 (vC c)) (some 3) (kOp Y40 [0] 2 []) (runs_box _ _) ?_
 rintro _ w2 ⟨b2,rfl,hN6⟩
 have hE7 := hE4.trans hN6.ext
 have hM8 := hM5.new hN6
 refine sgz 19 [.ld (iv c.kind)] (kAt Y40 [1,1,0,1,0,1] []) [(2,pt b1 0),(3,pt b2 0),(4,.bool false),(5,iv 0),(6,iv 1),(8,iv c.kind),(9,.bool (decide ((c.kind : Int) = (1 : Int))))] [cl w2 b2 0 (iv c.kind)] (A1 (cell_of (hM8.blk 0 rfl) rfl)) ?_
 have tl : ∀ (lim oth : Int),checkB p c = checkR p.nodes.length p.dests.length c lim oth → G Tryz.prog 45 [] (bodyPost Tryz.prog Tryz.f40 (Ret fun v w' => v = .bool (checkB p c) ∧ Ext w w')) (kAt Y40 [1,1,1,0] []) (stz [(2,pt b1 0),(3,pt b2 0),(4,.bool false),(5,iv lim),(6,iv oth)]) w2 := by
   intro lim oth hce
   refine sgz 6 [.ld (iv c.node),.ld (.slice q.a1 p.nodes.length q.c1)] (kOp Y40 [1,1,1,0] 5 []) [(2,pt b1 0),(3,pt b2 0),(4,.bool false),(5,iv lim),(6,iv oth),(20,iv c.node),(23,iv (p.nodes.length:Int))] [cl w2 b2 1 (iv c.node),cl w2 b1 3 (.slice q.a1 p.nodes.length q.c1)] (AC (cell_of (hM8.blk 0 rfl) rfl) (A1 (cell_of (hM8.blk 1 rfl) rfl))) ?_
   refine os0 _ (some 24) (kOp Y40 [1,1,1,0] 6 []) (runs_call E74 (place_any c.node p.nodes.length w2)) ?_
   rintro _ _ ⟨rfl,rfl⟩
   by_cases g0 : (placeB c.node p.nodes.length) = true
   ·refine stEq (st' := (stz [(2,pt b1 0),(3,pt b2 0),(4,.bool false),(5,iv lim),(6,iv oth),(20,iv c.node),(23,iv (p.nodes.length:Int)),(24,.bool true)])) (by rw [show (placeB c.node p.nodes.length) = true from g0] <;> rfl) ?_
    refine sgz 6 [.exec,.exec,.ld (iv c.dest),.exec,.exec,.ld (.slice q.a3 p.dests.length q.c3),.exec] (kOp Y40 [1,1,1,0] 12 []) [(3,pt b2 0),(4,.bool false),(5,iv lim),(6,iv oth),(25,.bool true),(27,iv c.dest),(30,iv (p.dests.length:Int))] [true = true,true = true,cl w2 b2 2 (iv c.dest),true = true,true = true,cl w2 b1 5 (.slice q.a3 p.dests.length q.c3),true = true] (AC rfl (AC rfl (AC (cell_of (hM8.blk 0 rfl) rfl) (AC rfl (AC rfl (AC (cell_of (hM8.blk 1 rfl) rfl) (A1 rfl))))))) ?_
    refine oss [.exec] (.call 74 [iv c.dest,iv (p.dests.length:Int)]) (some 31) (kOp Y40 [1,1,1,0] 13 []) [true = true] (A1 rfl) (runs_call E74 (place_any c.dest p.dests.length w2)) ?_
    rintro _ _ ⟨rfl,rfl⟩
    by_cases g1 : (placeB c.dest p.dests.length) = true
    ·refine stEq (st' := (stz [(3,pt b2 0),(4,.bool false),(5,iv lim),(6,iv oth),(25,.bool true),(27,iv c.dest),(30,iv (p.dests.length:Int)),(31,.bool true)])) (by rw [show (placeB c.dest p.dests.length) = true from g1] <;> rfl) ?_
     refine sgz 5 [.exec,.exec,.ld (iv c.limit),.exec] (kOp Y40 [1,1,1,0] 18 []) [(3,pt b2 0),(4,.bool false),(6,iv oth),(33,.bool true),(35,iv c.limit),(36,iv lim)] [true = true,true = true,cl w2 b2 3 (iv c.limit),true = true] (AC rfl (AC rfl (AC (cell_of (hM8.blk 0 rfl) rfl) (A1 rfl)))) ?_
     refine oss [.exec] (.call 42 [iv c.limit,iv 0,iv lim]) (some 37) (kOp Y40 [1,1,1,0] 19 []) [true = true] (A1 rfl) (runs_call E42 (within_any c.limit 0 lim w2)) ?_
     rintro _ _ ⟨rfl,rfl⟩
     by_cases g2 : (withinB c.limit 0 lim) = true
     ·refine stEq (st' := (stz [(3,pt b2 0),(4,.bool false),(6,iv oth),(33,.bool true),(35,iv c.limit),(36,iv lim),(37,.bool true)])) (by rw [show (withinB c.limit 0 lim) = true from g2] <;> rfl) ?_
      refine sgz 5 [.exec,.exec,.ld (iv c.other),.exec] (kOp Y40 [1,1,1,0] 24 []) [(4,.bool false),(39,.bool true),(41,iv c.other),(42,iv oth)] [true = true,true = true,cl w2 b2 4 (iv c.other),true = true] (AC rfl (AC rfl (AC (cell_of (hM8.blk 0 rfl) rfl) (A1 rfl)))) ?_
      refine oss [.exec] (.call 74 [iv c.other,iv oth]) (some 43) (kOp Y40 [1,1,1,0] 25 []) [true = true] (A1 rfl) (runs_call E74 (place_any c.other oth w2)) ?_
      rintro _ _ ⟨rfl,rfl⟩
      refine sg0 3 (kAt Y40 (ro1 4 []) []) [(4,.bool (placeB c.other oth))] ?_
      exact ret1 (.bool (placeB c.other oth)) (⟨by rw [hce]; unfold checkR; simp [g0,g1,g2],hE7⟩)
     refine stEq (st' := (stz [(3,pt b2 0),(4,.bool false),(6,iv oth),(33,.bool true),(35,iv c.limit),(36,iv lim),(37,.bool false)])) (by rw [show (withinB c.limit 0 lim) = false from Bool.eq_false_iff.2 g2] <;> rfl) ?_
     refine sgz 9 [.skip,.skip,.skip,.skip] (kAt Y40 (ro1 4 []) []) [(4,.bool false)] [false = (!true),false = (!true),false = (!true),false = (!true),false = false] (AC rfl (AC rfl (AC rfl (AC rfl (A1 rfl))))) ?_
     exact ret1 (.bool false) (⟨by rw [hce]; unfold checkR; simp [g0,g1,g2],hE7⟩)
    refine stEq (st' := (stz [(3,pt b2 0),(4,.bool false),(5,iv lim),(6,iv oth),(25,.bool true),(27,iv c.dest),(30,iv (p.dests.length:Int)),(31,.bool false)])) (by rw [show (placeB c.dest p.dests.length) = false from Bool.eq_false_iff.2 g1] <;> rfl) ?_
    refine sgz 15 [.skip,.skip,.skip,.skip,.skip,.skip,.skip,.skip] (kAt Y40 (ro1 4 []) []) [(4,.bool false)] [false = (!true),false = (!true),false = (!true),false = (!true),false = false,false = (!true),false = (!true),false = (!true),false = (!true),false = false] (AC rfl (AC rfl (AC rfl (AC rfl (AC rfl (AC rfl (AC rfl (AC rfl (AC rfl (A1 rfl)))))))))) ?_
    exact ret1 (.bool false) (⟨by rw [hce]; unfold checkR; simp [g0,g1],hE7⟩)
   refine stEq (st' := (stz [(2,pt b1 0),(3,pt b2 0),(4,.bool false),(5,iv lim),(6,iv oth),(20,iv c.node),(23,iv (p.nodes.length:Int)),(24,.bool false)])) (by rw [show (placeB c.node p.nodes.length) = false from Bool.eq_false_iff.2 g0] <;> rfl) ?_
   refine sgz 22 [.skip,.skip,.skip,.skip,.skip,.skip,.skip,.skip,.skip,.skip,.skip,.skip,.skip,.skip] (kAt Y40 (ro1 4 []) []) [(4,.bool false)] [false = (!true),false = (!true),false = (!true),false = (!true),false = (!true),false = (!true),false = false,false = (!true),false = (!true),false = (!true),false = (!true),false = false,false = (!true),false = (!true),false = (!true),false = (!true),false = false] (AC rfl (AC rfl (AC rfl (AC rfl (AC rfl (AC rfl (AC rfl (AC rfl (AC rfl (AC rfl (AC rfl (AC rfl (AC rfl (AC rfl (AC rfl (AC rfl (A1 rfl))))))))))))))))) ?_
   exact ret1 (.bool false) (⟨by rw [hce]; unfold checkR; simp [g0],hE7⟩)
 refine brd ((c.kind : Int) = (1 : Int)) (fun h1 => ?_) (fun h1 => ?_)
 ·refine sg0 3 (kAt Y40 [1,1,1,0] []) [(2,pt b1 0),(3,pt b2 0),(4,.bool false),(5,iv 0),(6,iv 1)] ?_
  exact tl (0) (1) (by unfold checkB checkN; rw [if_pos h1])
 refine sg0 5 (kAt Y40 [1,1,0,1,0,1,1,1] []) [(2,pt b1 0),(3,pt b2 0),(4,.bool false),(5,iv 0),(6,iv 1),(8,iv c.kind),(11,.bool (decide ((c.kind : Int) = (2 : Int))))] ?_
 refine brd ((c.kind : Int) = (2 : Int)) (fun h2 => ?_) (fun h2 => ?_)
 ·refine sg0 5 (kAt Y40 [1,1,1,0] []) [(2,pt b1 0),(3,pt b2 0),(4,.bool false),(5,iv 65535),(6,iv 1)] ?_
  exact tl (65535) (1) (by unfold checkB checkN; rw [if_neg h1,if_pos h2])
 refine sg0 6 (kAt Y40 [1,1,0,1,0,1,1,1,1,0,1] []) [(2,pt b1 0),(3,pt b2 0),(4,.bool false),(5,iv 0),(6,iv 1),(8,iv c.kind),(13,.bool (decide ((c.kind : Int) = (3 : Int))))] ?_
 refine brd ((c.kind : Int) = (3 : Int)) (fun h3 => ?_) (fun h3 => ?_)
 ·refine sgz 10 [.exec,.ld (.slice q.a1 p.nodes.length q.c1)] (kAt Y40 [1,1,1,0] []) [(2,pt b1 0),(3,pt b2 0),(4,.bool false),(5,iv 0),(6,iv (p.nodes.length:Int))] [(decide ((c.kind : Int) = (3 : Int))) = true,cl w2 b1 3 (.slice q.a1 p.nodes.length q.c1)] (AC (decide_eq_true h3) (A1 (cell_of (hM8.blk 1 rfl) rfl))) ?_
  exact tl (0) (p.nodes.length) (by unfold checkB checkN; rw [if_neg h1,if_neg h2,if_pos (.inl h3)])
 refine sg0 4 (kAt Y40 [1,1,0,1,0,1,1,1,1,1] []) [(2,pt b1 0),(3,pt b2 0),(4,.bool false),(5,iv 0),(6,iv 1),(13,.bool (decide ((c.kind : Int) = (4 : Int))))] ?_
 refine brd ((c.kind : Int) = (4 : Int)) (fun h4 => ?_) (fun h4 => ?_)
 ·refine sgz 8 [.ld (.slice q.a1 p.nodes.length q.c1)] (kAt Y40 [1,1,1,0] []) [(2,pt b1 0),(3,pt b2 0),(4,.bool false),(5,iv 0),(6,iv (p.nodes.length:Int))] [cl w2 b1 3 (.slice q.a1 p.nodes.length q.c1)] (A1 (cell_of (hM8.blk 1 rfl) rfl)) ?_
  exact tl (0) (p.nodes.length) (by unfold checkB checkN; rw [if_neg h1,if_neg h2,if_pos (.inr h4)])
 refine sg0 4 (kAt Y40 [1,1,0,1,0,1,1,1,1,1,1,1] []) [(2,pt b1 0),(3,pt b2 0),(4,.bool false),(5,iv 0),(6,iv 1)] ?_
 exact ret1 (.bool false) (⟨by unfold checkB checkN; simp [h1,h2,h3,h4],hE7⟩)

set_option maxRecDepth 20000 in
theorem right1_any (p : PPlan) (q : PAd) (x : DA) (b0 : Nat) (w : World) (hb : w.heap[b0]? = some (.cells #[iv p.proto,iv p.cap,iv p.k,.slice q.a1 p.nodes.length q.c1,.slice q.a2 p.links.length q.c2,.slice q.a3 p.dests.length q.c3,.slice q.a4 p.checks.length q.c4] 29 (0,0))) (ho : Cells w x.a (x.d.origins.flatMap intCells)) (hl : x.d.origins.length ≤ 140737488355328) :
    Does Tryz.prog 37 [(vD x),pt b0 0] w (fun v w' => v = .bool (!destB x.d p.nodes.length) ∧ Ext w w') := by
 refine startD (c := Y37) Tryz.func37 rfl (by kernel_rfl) ?_
 show G _ 10 [] _ (kAt Y37 [] []) (stz [(0,(vD x)),(1,pt b0 0)]) w
 have hE1 : Ext w w := Ext.refl w
 have hM2 : Hold w w.heap.size [] := Hold.nil hE1.le
 refine sg0 2 (kOp Y37 [0] 0 []) [(0,(vD x)),(1,pt b0 0)] ?_
 refine os0 (.box 54 (vD x)) (some 2) (kOp Y37 [0] 1 []) (runs_box _ _) ?_
 rintro _ w1 ⟨b1,rfl,hN3⟩
 have hE4 := hE1.trans hN3.ext
 have hM5 := hM2.new hN3
 refine sgz 8 [.ld (vD x),.ld (.slice q.a1 p.nodes.length q.c1)] (kOp Y37 [1,0] 4 []) [(3,.bool false),(4,(vD x)),(7,iv (p.nodes.length:Int))] [cl w1 b1 0 (sv x.d.name),cl w1 b1 1 (.slice x.a x.d.origins.length x.c),cl w1 b0 3 (.slice q.a1 p.nodes.length q.c1)] (AC (cell_of (hM5.blk 0 rfl) rfl) (AC (cell_of (hM5.blk 0 rfl) rfl) (A1 (hE4.cell (cell_of hb rfl))))) ?_
 refine os0 _ (some 8) (kOp Y37 [1,0] 5 []) (runs_call E38 (dest_any x.d x.a x.c p.nodes.length w1 (ho.ext hE4) hl)) ?_
 rintro _ w2 ⟨rfl,hx⟩
 have hE6 := hE4.trans hx
 have hM7 := hM5.ext hx
 refine sg0 3 (kAt Y37 [1,1] []) [(3,.bool (!(destB x.d p.nodes.length)))] ?_
 exact ret1 (.bool (!(destB x.d p.nodes.length))) (⟨rfl,hE6⟩)

set_option maxRecDepth 20000 in
theorem right2_any (p : PPlan) (q : PAd) (c : PCheck) (b0 : Nat) (w : World) (hb : w.heap[b0]? = some (.cells #[iv p.proto,iv p.cap,iv p.k,.slice q.a1 p.nodes.length q.c1,.slice q.a2 p.links.length q.c2,.slice q.a3 p.dests.length q.c3,.slice q.a4 p.checks.length q.c4] 29 (0,0))) :
    Does Tryz.prog 39 [(vC c),pt b0 0] w (fun v w' => v = .bool (!checkB p c) ∧ Ext w w') := by
 refine startD (c := Y39) Tryz.func39 rfl (by kernel_rfl) ?_
 show G _ 8 [] _ (kAt Y39 [] []) (stz [(0,(vC c)),(1,pt b0 0)]) w
 have hE1 : Ext w w := Ext.refl w
 have hM2 : Hold w w.heap.size [] := Hold.nil hE1.le
 refine sg0 2 (kOp Y39 [0] 0 []) [(0,(vC c)),(1,pt b0 0)] ?_
 refine os0 (.box 67 (vC c)) (some 2) (kOp Y39 [0] 1 []) (runs_box _ _) ?_
 rintro _ w1 ⟨b1,rfl,hN3⟩
 have hE4 := hE1.trans hN3.ext
 have hM5 := hM2.new hN3
 refine sgz 6 [.ld (pv p q),.ld (vC c)] (kOp Y39 [1,0] 2 []) [(3,.bool false),(4,(pv p q)),(5,(vC c))] [cl w1 b0 0 (iv p.proto),cl w1 b0 1 (iv p.cap),cl w1 b0 2 (iv p.k),cl w1 b0 3 (.slice q.a1 p.nodes.length q.c1),cl w1 b0 4 (.slice q.a2 p.links.length q.c2),cl w1 b0 5 (.slice q.a3 p.dests.length q.c3),cl w1 b0 6 (.slice q.a4 p.checks.length q.c4),cl w1 b1 0 (iv c.kind),cl w1 b1 1 (iv c.node),cl w1 b1 2 (iv c.dest),cl w1 b1 3 (iv c.limit),cl w1 b1 4 (iv c.other)] (AC (hE4.cell (cell_of hb rfl)) (AC (hE4.cell (cell_of hb rfl)) (AC (hE4.cell (cell_of hb rfl)) (AC (hE4.cell (cell_of hb rfl)) (AC (hE4.cell (cell_of hb rfl)) (AC (hE4.cell (cell_of hb rfl)) (AC (hE4.cell (cell_of hb rfl)) (AC (cell_of (hM5.blk 0 rfl) rfl) (AC (cell_of (hM5.blk 0 rfl) rfl) (AC (cell_of (hM5.blk 0 rfl) rfl) (AC (cell_of (hM5.blk 0 rfl) rfl) (A1 (cell_of (hM5.blk 0 rfl) rfl))))))))))))) ?_
 refine os0 _ (some 6) (kOp Y39 [1,0] 3 []) (runs_call E40 (check_any p q c w1)) ?_
 rintro _ w2 ⟨rfl,hx⟩
 have hE6 := hE4.trans hx
 have hM7 := hM5.ext hx
 refine sg0 3 (kAt Y39 [1,1] []) [(3,.bool (!(checkB p c)))] ?_
 exact ret1 (.bool (!(checkB p c))) (⟨rfl,hE6⟩)

set_option maxRecDepth 20000 in
theorem node1_any (x : PNode) (b0 : Nat) (nm : Bytes) (w : World) (hb : w.heap[b0]? = some (.cells #[sv nm] 9 (0,0))) :
    Does Tryz.prog 59 [(vN x),pt b0 0] w (fun v w' => v = .bool (decide (x.name = nm)) ∧ Ext w w') := by
 refine startD (c := Y59) Tryz.func59 rfl (by kernel_rfl) ?_
 show G _ 8 [] _ (kAt Y59 [] []) (stz [(0,(vN x)),(1,pt b0 0)]) w
 have hE1 : Ext w w := Ext.refl w
 have hM2 : Hold w w.heap.size [] := Hold.nil hE1.le
 refine sg0 2 (kOp Y59 [0] 0 []) [(0,(vN x)),(1,pt b0 0)] ?_
 refine os0 (.box 52 (vN x)) (some 2) (kOp Y59 [0] 1 []) (runs_box _ _) ?_
 rintro _ w1 ⟨b1,rfl,hN3⟩
 have hE4 := hE1.trans hN3.ext
 have hM5 := hM2.new hN3
 refine sgz 10 [.ld (sv x.name),.ld (sv nm)] (kAt Y59 [1,1] []) [(3,.bool (decide (x.name = nm)))] [cl w1 b1 0 (sv x.name),cl w1 b0 0 (sv nm)] (AC (cell_of (hM5.blk 0 rfl) rfl) (A1 (hE4.cell (cell_of hb rfl)))) ?_
 exact ret1 (.bool (decide (x.name = nm))) (⟨rfl,hE4⟩)

set_option maxRecDepth 20000 in
theorem dest1_any (x : DA) (b0 : Nat) (nm : Bytes) (w : World) (hb : w.heap[b0]? = some (.cells #[sv nm] 9 (0,0))) :
    Does Tryz.prog 61 [(vD x),pt b0 0] w (fun v w' => v = .bool (decide (x.d.name = nm)) ∧ Ext w w') := by
 refine startD (c := Y61) Tryz.func61 rfl (by kernel_rfl) ?_
 show G _ 8 [] _ (kAt Y61 [] []) (stz [(0,(vD x)),(1,pt b0 0)]) w
 have hE1 : Ext w w := Ext.refl w
 have hM2 : Hold w w.heap.size [] := Hold.nil hE1.le
 refine sg0 2 (kOp Y61 [0] 0 []) [(0,(vD x)),(1,pt b0 0)] ?_
 refine os0 (.box 54 (vD x)) (some 2) (kOp Y61 [0] 1 []) (runs_box _ _) ?_
 rintro _ w1 ⟨b1,rfl,hN3⟩
 have hE4 := hE1.trans hN3.ext
 have hM5 := hM2.new hN3
 refine sgz 10 [.ld (sv x.d.name),.ld (sv nm)] (kAt Y61 [1,1] []) [(3,.bool (decide (x.d.name = nm)))] [cl w1 b1 0 (sv x.d.name),cl w1 b0 0 (sv nm)] (AC (cell_of (hM5.blk 0 rfl) rfl) (A1 (hE4.cell (cell_of hb rfl)))) ?_
 exact ret1 (.bool (decide (x.d.name = nm))) (⟨rfl,hE4⟩)

set_option maxRecDepth 20000 in
theorem Node_any (p : PPlan) (q : PAd) (nm : Bytes) (w : World) (hP : PlanAt w p q) :
    Does Tryz.prog 21 [(pv p q),sv nm] w (fun v w' => v = .int .i64 (idxI (fun x => decide (x.name = nm)) p.nodes) ∧ Ext w w') := by
 refine startD (c := Y21) Tryz.func21 rfl (by kernel_rfl) ?_
 show G _ 9 [] _ (kAt Y21 [] []) (stz [(0,(pv p q)),(1,sv nm)]) w
 have hE1 : Ext w w := Ext.refl w
 have hM2 : Hold w w.heap.size [] := Hold.nil hE1.le
 refine sg0 2 (kOp Y21 [0] 0 []) [(0,(pv p q)),(1,sv nm)] ?_
 refine os0 (.box 29 (pv p q)) (some 2) (kOp Y21 [0] 1 []) (runs_box _ _) ?_
 rintro _ w1 ⟨b1,rfl,hN3⟩
 have hE4 := hE1.trans hN3.ext
 have hM5 := hM2.new hN3
 refine os0 (.box 9 (sv nm)) (some 3) (kOp Y21 [0] 2 []) (runs_box _ _) ?_
 rintro _ w2 ⟨b2,rfl,hN6⟩
 have hE7 := hE4.trans hN6.ext
 have hM8 := hM5.new hN6
 refine sgz 7 [.ld (.slice q.a1 p.nodes.length q.c1)] (kOp Y21 [1,0] 3 []) [(4,iv 0),(6,.slice q.a1 p.nodes.length q.c1),(7,.func (.func 59) #[] #[pt b2 0])] [cl w2 b1 3 (.slice q.a1 p.nodes.length q.c1)] (A1 (cell_of (hM8.blk 1 rfl) rfl)) ?_
 refine os0 _ (some 8) (kOp Y21 [1,0] 4 []) (runs_call E58 (idxNode1 p.nodes q.a1 q.c1 59 b2 (fun x => decide (x.name = nm)) w2 E59 (fun k hk w' hx => node1_any _ b2 nm w' (hx.heap (hM8.blk 0 rfl))) (hP.nodes.ext hE7) (by have := hP.l1; omega))) ?_
 rintro _ w3 ⟨rfl,hx⟩
 have hE9 := hE7.trans hx
 have hM10 := hM8.ext hx
 refine sg0 2 (kAt Y21 [1,1] []) [(4,iv (idxI (fun x => decide (x.name = nm)) p.nodes))] ?_
 exact ret1 (iv (idxI (fun x => decide (x.name = nm)) p.nodes)) (⟨rfl,hE9⟩)

theorem idxI_map {α β : Type} (f : α → β) (p : β → Bool) (l : List α) : idxI (fun x => p (f x)) l = idxI p (l.map f) := by
  unfold idxI
  rw [List.findIdx?_map]
  rfl

set_option maxRecDepth 20000 in
theorem Dest_any (p : PPlan) (q : PAd) (nm : Bytes) (w : World) (hP : PlanAt w p q) :
    Does Tryz.prog 23 [(pv p q),sv nm] w (fun v w' => v = .int .i64 (idxI (fun x => decide (x.name = nm)) p.dests) ∧ Ext w w') := by
 refine startD (c := Y23) Tryz.func23 rfl (by kernel_rfl) ?_
 show G _ 9 [] _ (kAt Y23 [] []) (stz [(0,(pv p q)),(1,sv nm)]) w
 have hq := hP.dlen
 have hE1 : Ext w w := Ext.refl w
 have hM2 : Hold w w.heap.size [] := Hold.nil hE1.le
 refine sg0 2 (kOp Y23 [0] 0 []) [(0,(pv p q)),(1,sv nm)] ?_
 refine os0 (.box 29 (pv p q)) (some 2) (kOp Y23 [0] 1 []) (runs_box _ _) ?_
 rintro _ w1 ⟨b1,rfl,hN3⟩
 have hE4 := hE1.trans hN3.ext
 have hM5 := hM2.new hN3
 refine os0 (.box 9 (sv nm)) (some 3) (kOp Y23 [0] 2 []) (runs_box _ _) ?_
 rintro _ w2 ⟨b2,rfl,hN6⟩
 have hE7 := hE4.trans hN6.ext
 have hM8 := hM5.new hN6
 refine sgz 7 [.ld (.slice q.a3 p.dests.length q.c3)] (kOp Y23 [1,0] 3 []) [(4,iv 0),(6,.slice q.a3 p.dests.length q.c3),(7,.func (.func 61) #[] #[pt b2 0])] [cl w2 b1 5 (.slice q.a3 p.dests.length q.c3)] (A1 (cell_of (hM8.blk 1 rfl) rfl)) ?_
 rw [← hq]
 refine os0 _ (some 8) (kOp Y23 [1,0] 4 []) (runs_call E60 (idxDest1 q.ds q.a3 q.c3 61 b2 (fun x => decide (x.d.name = nm)) w2 E61 (fun k hk w' hx => dest1_any _ b2 nm w' (hx.heap (hM8.blk 0 rfl))) (hP.dests.ext hE7) (by have := hP.l3; omega))) ?_
 rintro _ w3 ⟨rfl,hx⟩
 have hE9 := hE7.trans hx
 have hM10 := hM8.ext hx
 refine sg0 2 (kAt Y23 [1,1] []) [(4,iv (idxI (fun x => decide (x.d.name = nm)) q.ds))] ?_
 exact ret1 (iv (idxI (fun x => decide (x.d.name = nm)) q.ds)) (⟨by rw [idxI_map (fun x : DA => x.d) (fun x => decide (x.name = nm)),hP.deq],hE9⟩)

end Go.Proofs.YtjhgghpeapmgdaaGreatDoor
