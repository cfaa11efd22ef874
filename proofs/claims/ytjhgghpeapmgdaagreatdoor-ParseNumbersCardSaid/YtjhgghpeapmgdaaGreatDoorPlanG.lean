/-
  PLAN: contracts of named and Right.
-/
import Derived.Test.YtjhgghpeapmgdaaGreatDoorPlanF
import Derived.Test.YtjhgghpeapmgdaaGreatDoorMg2
namespace Go.Proofs.YtjhgghpeapmgdaaGreatDoor
open Go.Bk Go.Proofs

theorem row_cells {w : World} {B : Nat} {e : TypeId} {size n g c : Nat} {xs : List Value} (h : w.ownsRow B e size (.slice (some ⟨g,0,none⟩) n c) n xs) : Cells w (some ⟨g,0,none⟩) xs := by
  obtain ⟨a,c',hv,hc⟩ := SlV.of_owns h
  simp only [Value.slice.injEq] at hv
  rw [hv.1]; exact hc

set_option maxRecDepth 20000 in
theorem named1_any (l : Bytes) (w : World) (hl : l.length ≤ 9223372036854775807) :
    Does Tryz.prog 80 [sv l] w (fun v w' => v = .bool (!nameB l) ∧ Ext w w') := by
 refine startD (c := Y80) Tryz.func80 rfl (by kernel_rfl) ?_
 show G _ 6 [] _ (kAt Y80 [] []) (stz [(0,sv l)]) w
 have hE1 : Ext w w := Ext.refl w
 refine sg0 7 (kOp Y80 [1,0] 1 []) [(2,.bool false),(3,sv l)] ?_
 refine os0 _ (some 4) (kOp Y80 [1,0] 2 []) (runs_call E81 (Name_any l w hl)) ?_
 rintro _ w1 ⟨rfl,hx⟩
 have hE2 := hE1.trans hx
 refine sg0 3 (kAt Y80 [1,1] []) [(2,.bool (!(nameB l)))] ?_
 exact ret1 (.bool (!(nameB l))) (⟨rfl,hE2⟩)

set_option maxRecDepth 20000 in
theorem named_any (p : PPlan) (q : PAd) (w : World) (hP : PlanAt w p q) (hn : 1 ≤ p.nodes.length) (hn2 : p.nodes.length ≤ 12) (hd : p.dests.length ≤ 4) :
    Does Tryz.prog 45 [(pv p q)] w (fun v w' => v = .bool (namedB p) ∧ Ext w w') := by
 refine startD (c := Y45) Tryz.func45 rfl (by kernel_rfl) ?_
 show G _ 24 [] _ (kAt Y45 [] []) (stz [(0,(pv p q))]) w
 have hE1 : Ext w w := Ext.refl w
 have hM2 : Hold w w.heap.size [] := Hold.nil hE1.le
 refine sg0 2 (kOp Y45 [0] 0 []) [(0,(pv p q))] ?_
 refine os0 (.box 29 (pv p q)) (some 1) (kOp Y45 [0] 1 []) (runs_box _ _) ?_
 rintro _ w1 ⟨b1,rfl,hN3⟩
 have hE4 := hE1.trans hN3.ext
 have hM5 := hM2.new hN3
 have hb1 := (hM5.blk 0 rfl)
 have hlen : (namesL p).length = p.nodes.length + p.dests.length := by simp [namesL]
 have hsl := sortB_len (namesL p)
 have hE6 : Ext w1 w1 := Ext.refl w1
 have hM7 : Hold w1 w1.heap.size [] := Hold.nil hE6.le
 refine sgz 5 [.ld (pv p q)] (kOp Y45 [1,0] 1 []) [(1,pt b1 0),(2,.bool false),(4,(pv p q))] [cl w1 b1 0 (iv p.proto),cl w1 b1 1 (iv p.cap),cl w1 b1 2 (iv p.k),cl w1 b1 3 (.slice q.a1 p.nodes.length q.c1),cl w1 b1 4 (.slice q.a2 p.links.length q.c2),cl w1 b1 5 (.slice q.a3 p.dests.length q.c3),cl w1 b1 6 (.slice q.a4 p.checks.length q.c4)] (AC (hE6.cell (cell_of hb1 rfl)) (AC (hE6.cell (cell_of hb1 rfl)) (AC (hE6.cell (cell_of hb1 rfl)) (AC (hE6.cell (cell_of hb1 rfl)) (AC (hE6.cell (cell_of hb1 rfl)) (AC (hE6.cell (cell_of hb1 rfl)) (A1 (hE6.cell (cell_of hb1 rfl))))))))) ?_
 refine os0 _ (some 5) (kOp Y45 [1,0] 2 []) (runs_call E77 (names_any p q w1 (hP.ext hE4) hn hn2 hd)) ?_
 rintro _ w2 ⟨g,c,rfl,hx2,hrow⟩
 have hE8 := hE6.trans hx2
 have hM9 := hM7.ext hx2
 refine sg0 5 (kOp Y45 [1,1,0] 1 []) [(1,pt b1 0),(2,.bool false),(3,.slice (some ⟨g,0,none⟩) ((namesL p).length) c),(6,.slice (some ⟨g,0,none⟩) ((namesL p).length) c)] ?_
 refine os0 _ (some 7) (kOp Y45 [1,1,0] 2 []) (runs_call E78 (sort_any w1.heap.size g c (namesL p) w1 w2 hE8 (Nat.le_refl _) (by omega) hrow)) ?_
 rintro _ w3 ⟨rfl,hrow2,hx3⟩
 have hM10 : Hold w3 w1.heap.size [] := Hold.nil hx3.le
 refine sg0 2 (kAt Y45 [1,1,1,0] []) [(1,pt b1 0),(2,.bool false),(3,.slice (some ⟨g,0,none⟩) ((namesL p).length) c)] ?_
 refine dBegin (k' := (kAt Y45 (ro1 4 []) [])) (id := 3) (m := 17) (ops := opsAt (cAt Y45 [1,1,1,0])) (fun _ => Ext w1) (by kernel_rfl) (PQ.body _ _ _) (by kernel_rfl) (by kernel_rfl) ?_
 intro w11 hx12
 have hE13 := hx3.trans hx12
 have hM14 := hM10.ext hx12
 refine dtz [0] [] 16 (lb 17 1) [(1,pt b1 0),(2,.bool false),(3,.slice (some ⟨g,0,none⟩) ((namesL p).length) c),(8,.slice (some ⟨g,0,none⟩) ((namesL p).length) c)] (fun w' => []) (fun w' hS => trivial) (hE13) ?_
 refine dAll 1 [] (by kernel_rfl) ?_
 refine dos [] (.call 79 [.slice (some ⟨g,0,none⟩) ((namesL p).length) c,.func (.func 80) #[] #[]]) (some 9) [] (lb 17 3) trivial (runs_call E79 (by have h := hasStr0 (sortB (namesL p)) (some ⟨g,0,none⟩) c 80 (fun x => !nameB x) w11 E80 (fun k hk w' hx => named1_any _ w' (by have := hP.names _ ((sortB_perm (namesL p)).mem_iff.1 (getD_mem' [] hk)); omega)) ((row_cells hrow2).ext hx12) (by omega); rw [hsl] at h; exact h)) ?_
 rintro _ w5 ⟨rfl,hx5⟩
 have hE15 := hE13.trans hx5
 have hM16 := hM14.ext hx5
 by_cases g1 : ((sortB (namesL p)).any fun x => !nameB x) = true
 ·refine ⟨hE15,?_⟩
  have kf17 : (!((sortB (namesL p)).any fun x => !nameB x)) = false := by rw [show ((sortB (namesL p)).any fun x => !nameB x) = true from g1]; first | done | rfl
  refine dtz [2,3,4,5,6,7,8,9,10,11,12,13,14,15,16] [.skip,.skip,.skip,.skip,.skip,.skip,.skip,.skip,.skip,.skip,.skip] 0 (lb 17 131071) [(2,.bool false)] (fun w' => ((fun (z1 : Bool) => ([z1 = (!true),z1 = (!true),z1 = (!true),z1 = (!true),z1 = (!true),z1 = (!true),z1 = (!true),z1 = (!true),z1 = (!true),z1 = (!true),z1 = (!true),z1 = false] : List Prop)) (!((sortB (namesL p)).any fun x => !nameB x)))) (fun w' hS => (AC kf17 (AC kf17 (AC kf17 (AC kf17 (AC kf17 (AC kf17 (AC kf17 (AC kf17 (AC kf17 (AC kf17 (AC kf17 (A1 kf17))))))))))))) (hE15) ?_
  refine dDone (by kernel_rfl) ?_
  exact ret1 (.bool false) (⟨by unfold namedB; rw [← notAny,← any_sortB,g1]; rfl,hE4.trans hE15⟩)
 have hall : (namesL p).all nameB = true := by rw [← notAny,← any_sortB,Bool.eq_false_iff.2 g1]; rfl
 refine ⟨hE15,?_⟩
 have kf18 : (!((sortB (namesL p)).any fun x => !nameB x)) = true := by rw [show ((sortB (namesL p)).any fun x => !nameB x) = false from Bool.eq_false_iff.2 g1]; first | done | rfl
 refine dtz [2,3,4,7,8,9,10,11,12,13] [.exec,.exec,.exec,.ld (.slice q.a1 p.nodes.length q.c1),.exec,.exec,.exec,.ld (.slice q.a3 p.dests.length q.c3),.exec,.exec] 5 (lb 17 16287) [(2,.bool false),(11,.bool (!((sortB (namesL p)).any fun x => !nameB x))),(12,.slice (some ⟨g,0,none⟩) ((namesL p).length) c),(21,iv ((p.nodes.length + p.dests.length:Nat):Int))] (fun w' => ((fun (z1 : Bool) => ([z1 = true,z1 = true,z1 = true,cl w' b1 3 (.slice q.a1 p.nodes.length q.c1),z1 = true,z1 = true,z1 = true,cl w' b1 5 (.slice q.a3 p.dests.length q.c3),z1 = true,z1 = true,I64 ((p.nodes.length + p.dests.length:Nat):Int)] : List Prop)) (!((sortB (namesL p)).any fun x => !nameB x)))) (fun w' hS => (AC kf18 (AC kf18 (AC kf18 (AC (hS.cell (cell_of hb1 rfl)) (AC kf18 (AC kf18 (AC kf18 (AC (hS.cell (cell_of hb1 rfl)) (AC kf18 (AC kf18 (A1 (i64 (by omega)))))))))))))) (hE15) ?_
 refine dAll 5 [] (by kernel_rfl) ?_
 refine dos [.exec] (.call 82 [.slice (some ⟨g,0,none⟩) ((namesL p).length) c]) (some 13) [(!((sortB (namesL p)).any fun x => !nameB x)) = true] (lb 17 16319) (A1 kf18) (runs_call E82 (by have h := compact_any w1.heap.size g c (sortB (namesL p)) w1 w5 hE15 (Nat.le_refl _) (by omega) (ownsRow_ext (ownsRow_ext hrow2 hx12) hx5); rw [hsl] at h; exact h)) ?_
 rintro _ w6 ⟨rfl,hx6⟩
 refine ⟨hx6,?_⟩
 refine dtz [6,14,15,16] [.exec,.exec] 0 (lb 17 131071) [(2,.bool ((!((sortB (namesL p)).any fun x => !nameB x)) && (decide ((((Lib.compact (sortB (namesL p))).length:Nat):Int) = ((p.nodes.length + p.dests.length:Nat):Int)))))] (fun w' => ((fun (z1 : Bool) => ([z1 = true,z1 = true] : List Prop)) (!((sortB (namesL p)).any fun x => !nameB x)))) (fun w' hS => (AC kf18 (A1 kf18))) (hx6) ?_
 refine dDone (by kernel_rfl) ?_
 exact ret1 (.bool ((!((sortB (namesL p)).any fun x => !nameB x)) && (decide ((((Lib.compact (sortB (namesL p))).length:Nat):Int) = ((p.nodes.length + p.dests.length:Nat):Int))))) (⟨by unfold namedB; rw [hall,Bool.eq_false_iff.2 g1,Bool.not_false,Bool.true_and,Bool.true_and]; congr 1; exact decide_eq_decide.2 (Iff.trans (by rw [hlen]; omega) (compact_sortB (namesL p))),hE4.trans hx6⟩)

set_option maxRecDepth 20000 in
theorem Right_any (p : PPlan) (q : PAd) (w : World) (hP : PlanAt w p q) :
    Does Tryz.prog 17 [(pv p q)] w (fun v w' => v = .bool (rightB p) ∧ Ext w w') := by
 refine startD (c := Y17) Tryz.func17 rfl (by kernel_rfl) ?_
 show G _ 56 [] _ (kAt Y17 [] []) (stz [(0,(pv p q))]) w
 have hq := hP.dlen
 have hE1 : Ext w w := Ext.refl w
 have hM2 : Hold w w.heap.size [] := Hold.nil hE1.le
 refine sg0 2 (kOp Y17 [0] 0 []) [(0,(pv p q))] ?_
 refine os0 (.box 29 (pv p q)) (some 1) (kOp Y17 [0] 1 []) (runs_box _ _) ?_
 rintro _ w1 ⟨b1,rfl,hN3⟩
 have hE4 := hE1.trans hN3.ext
 have hM5 := hM2.new hN3
 refine sgz 15 [.ld (pv p q)] (kOp Y17 [1,1,1,0] 1 []) [(1,pt b1 0),(2,.bool false),(3,.func (.func 37) #[] #[pt b1 0]),(4,.func (.func 39) #[] #[pt b1 0]),(7,(pv p q))] [cl w1 b1 0 (iv p.proto),cl w1 b1 1 (iv p.cap),cl w1 b1 2 (iv p.k),cl w1 b1 3 (.slice q.a1 p.nodes.length q.c1),cl w1 b1 4 (.slice q.a2 p.links.length q.c2),cl w1 b1 5 (.slice q.a3 p.dests.length q.c3),cl w1 b1 6 (.slice q.a4 p.checks.length q.c4)] (AC (cell_of (hM5.blk 0 rfl) rfl) (AC (cell_of (hM5.blk 0 rfl) rfl) (AC (cell_of (hM5.blk 0 rfl) rfl) (AC (cell_of (hM5.blk 0 rfl) rfl) (AC (cell_of (hM5.blk 0 rfl) rfl) (AC (cell_of (hM5.blk 0 rfl) rfl) (A1 (cell_of (hM5.blk 0 rfl) rfl)))))))) ?_
 refine os0 _ (some 8) (kOp Y17 [1,1,1,0] 2 []) (runs_call E41 (routing_any p q w1)) ?_
 rintro _ v0 ⟨rfl,hx0⟩
 have hE6 := hE4.trans hx0
 have hM7 := hM5.ext hx0
 by_cases g0 : (routingB p) = true
 ·refine sgz 7 [.exec,.exec,.ld (iv p.k),.exec,.exec,.ld (.slice q.a2 p.links.length q.c2),.exec,.exec] (kOp Y17 [1,1,1,0] 9 []) [(1,pt b1 0),(2,.bool false),(3,.func (.func 37) #[] #[pt b1 0]),(4,.func (.func 39) #[] #[pt b1 0]),(9,.bool (routingB p)),(11,iv p.k),(15,iv (min (4 : Int) (p.links.length:Int)))] [(routingB p) = true,(routingB p) = true,cl v0 b1 2 (iv p.k),(routingB p) = true,(routingB p) = true,cl v0 b1 4 (.slice q.a2 p.links.length q.c2),(routingB p) = true,(routingB p) = true] (AC g0 (AC g0 (AC (cell_of (hM7.blk 0 rfl) rfl) (AC g0 (AC g0 (AC (cell_of (hM7.blk 0 rfl) rfl) (AC g0 (A1 g0)))))))) ?_
  refine oss [.exec] (.call 42 [iv p.k,iv 0,iv (min (4 : Int) (p.links.length:Int))]) (some 16) (kOp Y17 [1,1,1,0] 10 []) [(routingB p) = true] (A1 g0) (runs_call E42 (within_any p.k 0 (min 4 (p.links.length:Int)) v0)) ?_
  rintro _ _ ⟨rfl,rfl⟩
  by_cases g1 : (withinB p.k 0 (min 4 p.links.length)) = true
  ·refine stEq (st' := (stz [(1,pt b1 0),(2,.bool false),(3,.func (.func 37) #[] #[pt b1 0]),(4,.func (.func 39) #[] #[pt b1 0]),(9,.bool (routingB p)),(11,iv p.k),(15,iv (min (4 : Int) (p.links.length:Int))),(16,.bool true)])) (by rw [show (withinB p.k 0 (min 4 p.links.length)) = true from g1] <;> rfl) ?_
   refine sgz 3 [.exec,.ld (pv p q)] (kOp Y17 [1,1,1,0] 13 []) [(1,pt b1 0),(2,.bool false),(3,.func (.func 37) #[] #[pt b1 0]),(4,.func (.func 39) #[] #[pt b1 0]),(18,.bool ((routingB p) && true)),(19,(pv p q))] [((routingB p) && true) = true,cl v0 b1 0 (iv p.proto),cl v0 b1 1 (iv p.cap),cl v0 b1 2 (iv p.k),cl v0 b1 3 (.slice q.a1 p.nodes.length q.c1),cl v0 b1 4 (.slice q.a2 p.links.length q.c2),cl v0 b1 5 (.slice q.a3 p.dests.length q.c3),cl v0 b1 6 (.slice q.a4 p.checks.length q.c4)] (AC (by rw [show (routingB p) = true from g0]; first | done | rfl) (AC (cell_of (hM7.blk 0 rfl) rfl) (AC (cell_of (hM7.blk 0 rfl) rfl) (AC (cell_of (hM7.blk 0 rfl) rfl) (AC (cell_of (hM7.blk 0 rfl) rfl) (AC (cell_of (hM7.blk 0 rfl) rfl) (AC (cell_of (hM7.blk 0 rfl) rfl) (A1 (cell_of (hM7.blk 0 rfl) rfl))))))))) ?_
   refine oss [.exec] (.call 43 [(pv p q)]) (some 20) (kOp Y17 [1,1,1,0] 14 []) [((routingB p) && true) = true] (A1 (by rw [show (routingB p) = true from g0]; first | done | rfl)) (runs_call E43 (nodes_any p q v0 (hP.ext hE6))) ?_
   rintro _ v2 ⟨rfl,hx2⟩
   have hE8 := hE6.trans hx2
   have hM9 := hM7.ext hx2
   by_cases g2 : (nodesB p) = true
   ·have kf11 : (((routingB p) && true) && (nodesB p)) = true := by rw [show ((routingB p) && true) = true from by rw [show (routingB p) = true from g0]; first | done | rfl,show (nodesB p) = true from g2]; first | done | rfl
    refine sgz 3 [.exec,.ld (pv p q)] (kOp Y17 [1,1,1,0] 17 []) [(1,pt b1 0),(2,.bool false),(3,.func (.func 37) #[] #[pt b1 0]),(4,.func (.func 39) #[] #[pt b1 0]),(22,.bool (((routingB p) && true) && (nodesB p))),(23,(pv p q))] [(((routingB p) && true) && (nodesB p)) = true,cl v2 b1 0 (iv p.proto),cl v2 b1 1 (iv p.cap),cl v2 b1 2 (iv p.k),cl v2 b1 3 (.slice q.a1 p.nodes.length q.c1),cl v2 b1 4 (.slice q.a2 p.links.length q.c2),cl v2 b1 5 (.slice q.a3 p.dests.length q.c3),cl v2 b1 6 (.slice q.a4 p.checks.length q.c4)] (AC kf11 (AC (cell_of (hM9.blk 0 rfl) rfl) (AC (cell_of (hM9.blk 0 rfl) rfl) (AC (cell_of (hM9.blk 0 rfl) rfl) (AC (cell_of (hM9.blk 0 rfl) rfl) (AC (cell_of (hM9.blk 0 rfl) rfl) (AC (cell_of (hM9.blk 0 rfl) rfl) (A1 (cell_of (hM9.blk 0 rfl) rfl))))))))) ?_
    refine oss [.exec] (.call 44 [(pv p q)]) (some 24) (kOp Y17 [1,1,1,0] 18 []) [(((routingB p) && true) && (nodesB p)) = true] (A1 kf11) (runs_call E44 (links_any p q v2 (hP.ext hE8))) ?_
    rintro _ v3 ⟨rfl,hx3⟩
    have hE12 := hE8.trans hx3
    have hM13 := hM9.ext hx3
    by_cases g3 : (linksB p) = true
    ·have kf15 : ((((routingB p) && true) && (nodesB p)) && (linksB p)) = true := by rw [show (((routingB p) && true) && (nodesB p)) = true from kf11,show (linksB p) = true from g3]; first | done | rfl
     refine sgs 15 [.exec,.exec,.ld (.slice q.a3 p.dests.length q.c3),.exec,.exec,.sym,.sym,.ld (.slice q.a4 p.checks.length q.c4),.sym,.sym,.sym,.ld (pv p q)] [1,2,3,4,38,39] (kOp Y17 [1,1,1,0] 33 []) [(1,none,pt b1 0),(2,none,.bool false),(3,none,.func (.func 37) #[] #[pt b1 0]),(4,none,.func (.func 39) #[] #[pt b1 0]),(38,none,.bool ((((((routingB p) && true) && (nodesB p)) && (linksB p)) && (decide ((p.dests.length:Int) ≤ (4 : Int)))) && (decide ((p.checks.length:Int) ≤ (16 : Int))))),(39,some ((((((routingB p) && true) && (nodesB p)) && (linksB p)) && (decide ((p.dests.length:Int) ≤ (4 : Int)))) && (decide ((p.checks.length:Int) ≤ (16 : Int)))),(pv p q))] ((fun (z1 : Bool) => ((fun (z2 : Bool) => ((fun (z3 : Bool) => ([z3 = true,z3 = true,cl v3 b1 5 (.slice q.a3 p.dests.length q.c3),z3 = true,z3 = true,z1 = true → z1 = true,z1 = true → cl v3 b1 6 (.slice q.a4 p.checks.length q.c4),z1 = true → z1 = true,z1 = true → z1 = true,z1 = true → z1 = true,z2 = true → cl v3 b1 0 (iv p.proto),z2 = true → cl v3 b1 1 (iv p.cap),z2 = true → cl v3 b1 2 (iv p.k),z2 = true → cl v3 b1 3 (.slice q.a1 p.nodes.length q.c1),z2 = true → cl v3 b1 4 (.slice q.a2 p.links.length q.c2),z2 = true → cl v3 b1 5 (.slice q.a3 p.dests.length q.c3),z2 = true → cl v3 b1 6 (.slice q.a4 p.checks.length q.c4)] : List Prop)) ((((routingB p) && true) && (nodesB p)) && (linksB p)))) (z1 && (decide ((p.checks.length:Int) ≤ (16 : Int)))))) (((((routingB p) && true) && (nodesB p)) && (linksB p)) && (decide ((p.dests.length:Int) ≤ (4 : Int))))) (AC kf15 (AC kf15 (AC (cell_of (hM13.blk 0 rfl) rfl) (AC kf15 (AC kf15 (AC (fun h => h) (AC (fun _ => cell_of (hM13.blk 0 rfl) rfl) (AC (fun h => h) (AC (fun h => h) (AC (fun h => h) (AC (fun _ => cell_of (hM13.blk 0 rfl) rfl) (AC (fun _ => cell_of (hM13.blk 0 rfl) rfl) (AC (fun _ => cell_of (hM13.blk 0 rfl) rfl) (AC (fun _ => cell_of (hM13.blk 0 rfl) rfl) (AC (fun _ => cell_of (hM13.blk 0 rfl) rfl) (AC (fun _ => cell_of (hM13.blk 0 rfl) rfl) (A1 (fun _ => cell_of (hM13.blk 0 rfl) rfl)))))))))))))))))) ?_
     by_cases g4 : (p.dests.length:Int) ≤ (4 : Int)
     ·have kf18 : (((((routingB p) && true) && (nodesB p)) && (linksB p)) && (decide ((p.dests.length:Int) ≤ (4 : Int)))) = true := by rw [show ((((routingB p) && true) && (nodesB p)) && (linksB p)) = true from kf15,show (decide ((p.dests.length:Int) ≤ (4 : Int))) = true from decide_eq_true g4]; first | done | rfl
      by_cases g5 : (p.checks.length:Int) ≤ (16 : Int)
      ·have kf20 : ((((((routingB p) && true) && (nodesB p)) && (linksB p)) && (decide ((p.dests.length:Int) ≤ (4 : Int)))) && (decide ((p.checks.length:Int) ≤ (16 : Int)))) = true := by rw [show (((((routingB p) && true) && (nodesB p)) && (linksB p)) && (decide ((p.dests.length:Int) ≤ (4 : Int)))) = true from kf18,show (decide ((p.checks.length:Int) ≤ (16 : Int))) = true from decide_eq_true g5]; first | done | rfl
       have hn0 : 1 ≤ p.nodes.length ∧ p.nodes.length ≤ 12 := by have h := g2; unfold nodesB at h; simp only [Bool.and_eq_true,withinB_iff] at h; omega
       refine oss [.exec] (.call 45 [(pv p q)]) (some 40) (kOp Y17 [1,1,1,0] 34 []) [((((((routingB p) && true) && (nodesB p)) && (linksB p)) && (decide ((p.dests.length:Int) ≤ (4 : Int)))) && (decide ((p.checks.length:Int) ≤ (16 : Int)))) = true,((((((routingB p) && true) && (nodesB p)) && (linksB p)) && (decide ((p.dests.length:Int) ≤ (4 : Int)))) && (decide ((p.checks.length:Int) ≤ (16 : Int)))) = true] (AC kf20 (A1 (by simp_all))) (runs_call E45 (named_any p q v3 (hP.ext hE12) hn0.1 hn0.2 (by omega))) ?_
       rintro _ v6 ⟨rfl,hx6⟩
       have hE21 := hE12.trans hx6
       have hM22 := hM13.ext hx6
       by_cases g6 : (namedB p) = true
       ·have kf24 : (((((((routingB p) && true) && (nodesB p)) && (linksB p)) && (decide ((p.dests.length:Int) ≤ (4 : Int)))) && (decide ((p.checks.length:Int) ≤ (16 : Int)))) && (namedB p)) = true := by rw [show ((((((routingB p) && true) && (nodesB p)) && (linksB p)) && (decide ((p.dests.length:Int) ≤ (4 : Int)))) && (decide ((p.checks.length:Int) ≤ (16 : Int)))) = true from kf20,show (namedB p) = true from g6]; first | done | rfl
        refine sgz 5 [.exec,.exec,.ld (.slice q.a3 p.dests.length q.c3),.exec] (kOp Y17 [1,1,1,0] 39 []) [(1,pt b1 0),(2,.bool false),(4,.func (.func 39) #[] #[pt b1 0]),(42,.bool (((((((routingB p) && true) && (nodesB p)) && (linksB p)) && (decide ((p.dests.length:Int) ≤ (4 : Int)))) && (decide ((p.checks.length:Int) ≤ (16 : Int)))) && (namedB p))),(44,.slice q.a3 p.dests.length q.c3),(45,.func (.func 37) #[] #[pt b1 0])] ((fun (z1 : Bool) => ([z1 = true,z1 = true,cl v6 b1 5 (.slice q.a3 p.dests.length q.c3),z1 = true] : List Prop)) (((((((routingB p) && true) && (nodesB p)) && (linksB p)) && (decide ((p.dests.length:Int) ≤ (4 : Int)))) && (decide ((p.checks.length:Int) ≤ (16 : Int)))) && (namedB p))) (AC kf24 (AC kf24 (AC (cell_of (hM22.blk 0 rfl) rfl) (A1 kf24)))) ?_
        refine oss [.exec] (.call 46 [.slice q.a3 p.dests.length q.c3,.func (.func 37) #[] #[pt b1 0]]) (some 46) (kOp Y17 [1,1,1,0] 40 []) [(((((((routingB p) && true) && (nodesB p)) && (linksB p)) && (decide ((p.dests.length:Int) ≤ (4 : Int)))) && (decide ((p.checks.length:Int) ≤ (16 : Int)))) && (namedB p)) = true] (A1 kf24) (runs_call E46 (by have h := hasDest1 q.ds q.a3 q.c3 37 b1 (fun x => !destB x.d p.nodes.length) v6 E37 (fun k hk w' hx => right1_any p q _ b1 w' (hx.heap (hM22.blk 0 rfl)) ((hP.orig _ (getD_mem' _ hk)).1.ext (Ext.trans hE21 hx)) (by have := (hP.orig _ (getD_mem' d0A hk)).2; omega)) (hP.dests.ext hE21) (by have := hP.l3; omega); rw [hq] at h; exact h)) ?_
        rintro _ v7 ⟨rfl,hx7⟩
        have hE25 := hE21.trans hx7
        have hM26 := hM22.ext hx7
        by_cases g7 : (q.ds.any fun x => !destB x.d p.nodes.length) = true
        ·refine stEq (st' := (stz [(1,pt b1 0),(2,.bool false),(4,.func (.func 39) #[] #[pt b1 0]),(42,.bool (((((((routingB p) && true) && (nodesB p)) && (linksB p)) && (decide ((p.dests.length:Int) ≤ (4 : Int)))) && (decide ((p.checks.length:Int) ≤ (16 : Int)))) && (namedB p))),(44,.slice q.a3 p.dests.length q.c3),(45,.func (.func 37) #[] #[pt b1 0]),(46,.bool true)])) (by rw [show (q.ds.any fun x => !destB x.d p.nodes.length) = true from g7] <;> rfl) ?_
         have kf27 : ((((((((routingB p) && true) && (nodesB p)) && (linksB p)) && (decide ((p.dests.length:Int) ≤ (4 : Int)))) && (decide ((p.checks.length:Int) ≤ (16 : Int)))) && (namedB p)) && false) = false := by rw [show (((((((routingB p) && true) && (nodesB p)) && (linksB p)) && (decide ((p.dests.length:Int) ≤ (4 : Int)))) && (decide ((p.checks.length:Int) ≤ (16 : Int)))) && (namedB p)) = true from kf24]; first | done | rfl
         refine sgz 11 [.exec,.skip,.skip,.skip,.skip,.skip] (kAt Y17 (ro1 4 []) []) [(2,.bool false)] ((fun (z1 : Bool) => ([z1 = true,(z1 && false) = (!true),(z1 && false) = (!true),(z1 && false) = (!true),(z1 && false) = (!true),(z1 && false) = (!true),(z1 && false) = false] : List Prop)) (((((((routingB p) && true) && (nodesB p)) && (linksB p)) && (decide ((p.dests.length:Int) ≤ (4 : Int)))) && (decide ((p.checks.length:Int) ≤ (16 : Int)))) && (namedB p))) (AC kf24 (AC kf27 (AC kf27 (AC kf27 (AC kf27 (AC kf27 (A1 kf27))))))) ?_
         exact ret1 (.bool false) (⟨by unfold rightB; rw [show routingB p = true from g0,show withinB p.k 0 (min 4 p.links.length) = true from g1,show nodesB p = true from g2,show linksB p = true from g3,decide_eq_true g4,decide_eq_true g5,show namedB p = true from g6,show (p.dests.all fun d => destB d p.nodes.length) = false from by rw [← notAnyD hP.deq,g7]; rfl]; simp,hE25⟩)
        refine stEq (st' := (stz [(1,pt b1 0),(2,.bool false),(4,.func (.func 39) #[] #[pt b1 0]),(42,.bool (((((((routingB p) && true) && (nodesB p)) && (linksB p)) && (decide ((p.dests.length:Int) ≤ (4 : Int)))) && (decide ((p.checks.length:Int) ≤ (16 : Int)))) && (namedB p))),(44,.slice q.a3 p.dests.length q.c3),(45,.func (.func 37) #[] #[pt b1 0]),(46,.bool false)])) (by rw [show (q.ds.any fun x => !destB x.d p.nodes.length) = false from Bool.eq_false_iff.2 g7] <;> rfl) ?_
        have kf28 : ((((((((routingB p) && true) && (nodesB p)) && (linksB p)) && (decide ((p.dests.length:Int) ≤ (4 : Int)))) && (decide ((p.checks.length:Int) ≤ (16 : Int)))) && (namedB p)) && true) = true := by rw [show (((((((routingB p) && true) && (nodesB p)) && (linksB p)) && (decide ((p.dests.length:Int) ≤ (4 : Int)))) && (decide ((p.checks.length:Int) ≤ (16 : Int)))) && (namedB p)) = true from kf24]; first | done | rfl
        refine sgz 6 [.exec,.exec,.exec,.ld (.slice q.a4 p.checks.length q.c4),.exec] (kOp Y17 [1,1,1,0] 46 []) [(2,.bool false),(49,.bool ((((((((routingB p) && true) && (nodesB p)) && (linksB p)) && (decide ((p.dests.length:Int) ≤ (4 : Int)))) && (decide ((p.checks.length:Int) ≤ (16 : Int)))) && (namedB p)) && true)),(51,.slice q.a4 p.checks.length q.c4),(52,.func (.func 39) #[] #[pt b1 0])] ((fun (z1 : Bool) => ([z1 = true,(z1 && true) = true,(z1 && true) = true,cl v7 b1 6 (.slice q.a4 p.checks.length q.c4),(z1 && true) = true] : List Prop)) (((((((routingB p) && true) && (nodesB p)) && (linksB p)) && (decide ((p.dests.length:Int) ≤ (4 : Int)))) && (decide ((p.checks.length:Int) ≤ (16 : Int)))) && (namedB p))) (AC kf24 (AC kf28 (AC kf28 (AC (cell_of (hM26.blk 0 rfl) rfl) (A1 kf28))))) ?_
        refine oss [.exec] (.call 47 [.slice q.a4 p.checks.length q.c4,.func (.func 39) #[] #[pt b1 0]]) (some 53) (kOp Y17 [1,1,1,0] 47 []) [((((((((routingB p) && true) && (nodesB p)) && (linksB p)) && (decide ((p.dests.length:Int) ≤ (4 : Int)))) && (decide ((p.checks.length:Int) ≤ (16 : Int)))) && (namedB p)) && true) = true] (A1 kf28) (runs_call E47 (hasCheck1 p.checks q.a4 q.c4 39 b1 (fun x => !checkB p x) v7 E39 (fun k hk w' hx => right2_any p q _ b1 w' (hx.heap (hM26.blk 0 rfl))) (hP.checks.ext hE25) (by have := hP.l4; omega))) ?_
        rintro _ v8 ⟨rfl,hx8⟩
        have hE29 := hE25.trans hx8
        have hM30 := hM26.ext hx8
        refine sgz 4 [.exec] (kAt Y17 (ro1 4 []) []) [(2,.bool (((((((((routingB p) && true) && (nodesB p)) && (linksB p)) && (decide ((p.dests.length:Int) ≤ (4 : Int)))) && (decide ((p.checks.length:Int) ≤ (16 : Int)))) && (namedB p)) && true) && (!(p.checks.any fun x => !checkB p x))))] [((((((((routingB p) && true) && (nodesB p)) && (linksB p)) && (decide ((p.dests.length:Int) ≤ (4 : Int)))) && (decide ((p.checks.length:Int) ≤ (16 : Int)))) && (namedB p)) && true) = true] (A1 kf28) ?_
        exact ret1 (.bool (((((((((routingB p) && true) && (nodesB p)) && (linksB p)) && (decide ((p.dests.length:Int) ≤ (4 : Int)))) && (decide ((p.checks.length:Int) ≤ (16 : Int)))) && (namedB p)) && true) && (!(p.checks.any fun x => !checkB p x)))) (⟨by unfold rightB; rw [show routingB p = true from g0,show withinB p.k 0 (min 4 p.links.length) = true from g1,show nodesB p = true from g2,show linksB p = true from g3,decide_eq_true g4,decide_eq_true g5,show namedB p = true from g6,show (p.dests.all fun d => destB d p.nodes.length) = true from by rw [← notAnyD hP.deq,Bool.eq_false_iff.2 g7]; rfl,notAny (checkB p)] <;> simp,hE29⟩)
       have kf23 : (((((((routingB p) && true) && (nodesB p)) && (linksB p)) && (decide ((p.dests.length:Int) ≤ (4 : Int)))) && (decide ((p.checks.length:Int) ≤ (16 : Int)))) && (namedB p)) = false := by rw [show ((((((routingB p) && true) && (nodesB p)) && (linksB p)) && (decide ((p.dests.length:Int) ≤ (4 : Int)))) && (decide ((p.checks.length:Int) ≤ (16 : Int)))) = true from kf20,show (namedB p) = false from Bool.eq_false_iff.2 g6]; first | done | rfl
       refine sgz 17 [.skip,.skip,.skip,.skip,.skip,.skip,.skip,.skip,.skip,.skip] (kAt Y17 (ro1 4 []) []) [(2,.bool false)] ((fun (z1 : Bool) => ([z1 = (!true),z1 = (!true),z1 = (!true),z1 = (!true),z1 = (!true),z1 = false,false = (!true),false = (!true),false = (!true),false = (!true),false = (!true),false = false] : List Prop)) (((((((routingB p) && true) && (nodesB p)) && (linksB p)) && (decide ((p.dests.length:Int) ≤ (4 : Int)))) && (decide ((p.checks.length:Int) ≤ (16 : Int)))) && (namedB p))) (AC kf23 (AC kf23 (AC kf23 (AC kf23 (AC kf23 (AC kf23 (AC rfl (AC rfl (AC rfl (AC rfl (AC rfl (A1 rfl)))))))))))) ?_
       exact ret1 (.bool false) (⟨by unfold rightB; rw [show routingB p = true from g0,show withinB p.k 0 (min 4 p.links.length) = true from g1,show nodesB p = true from g2,show linksB p = true from g3,decide_eq_true g4,decide_eq_true g5,show namedB p = false from Bool.eq_false_iff.2 g6]; simp,hE21⟩)
      have kf19 : ((((((routingB p) && true) && (nodesB p)) && (linksB p)) && (decide ((p.dests.length:Int) ≤ (4 : Int)))) && (decide ((p.checks.length:Int) ≤ (16 : Int)))) = false := by rw [show (((((routingB p) && true) && (nodesB p)) && (linksB p)) && (decide ((p.dests.length:Int) ≤ (4 : Int)))) = true from kf18,show (decide ((p.checks.length:Int) ≤ (16 : Int))) = false from decide_eq_false g5]; first | done | rfl
      refine sgz 18 [.skip,.skip,.skip,.skip,.skip,.skip,.skip,.skip,.skip,.skip,.skip] (kAt Y17 (ro1 4 []) []) [(2,.bool false)] ((fun (z1 : Bool) => ([z1 = (!true),z1 = false,false = (!true),false = (!true),false = (!true),false = (!true),false = (!true),false = false,false = (!true),false = (!true),false = (!true),false = (!true),false = (!true),false = false] : List Prop)) ((((((routingB p) && true) && (nodesB p)) && (linksB p)) && (decide ((p.dests.length:Int) ≤ (4 : Int)))) && (decide ((p.checks.length:Int) ≤ (16 : Int))))) (AC kf19 (AC kf19 (AC rfl (AC rfl (AC rfl (AC rfl (AC rfl (AC rfl (AC rfl (AC rfl (AC rfl (AC rfl (AC rfl (A1 rfl)))))))))))))) ?_
      exact ret1 (.bool false) (⟨by unfold rightB; rw [show routingB p = true from g0,show withinB p.k 0 (min 4 p.links.length) = true from g1,show nodesB p = true from g2,show linksB p = true from g3,decide_eq_true g4,decide_eq_false g5]; simp,hE12⟩)
     have kf16 : (((((routingB p) && true) && (nodesB p)) && (linksB p)) && (decide ((p.dests.length:Int) ≤ (4 : Int)))) = false := by rw [show ((((routingB p) && true) && (nodesB p)) && (linksB p)) = true from kf15,show (decide ((p.dests.length:Int) ≤ (4 : Int))) = false from decide_eq_false g4]; first | done | rfl
     have kf17 : ((((((routingB p) && true) && (nodesB p)) && (linksB p)) && (decide ((p.dests.length:Int) ≤ (4 : Int)))) && (decide ((p.checks.length:Int) ≤ (16 : Int)))) = false := by rw [show (((((routingB p) && true) && (nodesB p)) && (linksB p)) && (decide ((p.dests.length:Int) ≤ (4 : Int)))) = false from kf16]; first | done | rfl
     refine sgz 18 [.skip,.skip,.skip,.skip,.skip,.skip,.skip,.skip,.skip,.skip,.skip] (kAt Y17 (ro1 4 []) []) [(2,.bool false)] ((fun (z1 : Bool) => ([z1 = (!true),z1 = false,false = (!true),false = (!true),false = (!true),false = (!true),false = (!true),false = false,false = (!true),false = (!true),false = (!true),false = (!true),false = (!true),false = false] : List Prop)) ((((((routingB p) && true) && (nodesB p)) && (linksB p)) && (decide ((p.dests.length:Int) ≤ (4 : Int)))) && (decide ((p.checks.length:Int) ≤ (16 : Int))))) (AC kf17 (AC kf17 (AC rfl (AC rfl (AC rfl (AC rfl (AC rfl (AC rfl (AC rfl (AC rfl (AC rfl (AC rfl (AC rfl (A1 rfl)))))))))))))) ?_
     exact ret1 (.bool false) (⟨by unfold rightB; rw [show routingB p = true from g0,show withinB p.k 0 (min 4 p.links.length) = true from g1,show nodesB p = true from g2,show linksB p = true from g3,decide_eq_false g4]; simp,hE12⟩)
    have kf14 : ((((routingB p) && true) && (nodesB p)) && (linksB p)) = false := by rw [show (((routingB p) && true) && (nodesB p)) = true from kf11,show (linksB p) = false from Bool.eq_false_iff.2 g3]; first | done | rfl
    refine sgz 33 [.skip,.skip,.skip,.skip,.skip,.skip,.skip,.skip,.skip,.skip,.skip,.skip,.skip,.skip,.skip,.skip,.skip,.skip,.skip,.skip] (kAt Y17 (ro1 4 []) []) [(2,.bool false)] ((fun (z1 : Bool) => ([z1 = (!true),z1 = (!true),z1 = (!true),z1 = (!true),z1 = false,false = (!true),false = (!true),false = (!true),false = (!true),false = false,false = (!true),false = (!true),false = false,false = (!true),false = (!true),false = (!true),false = (!true),false = (!true),false = false,false = (!true),false = (!true),false = (!true),false = (!true),false = (!true),false = false] : List Prop)) ((((routingB p) && true) && (nodesB p)) && (linksB p))) (AC kf14 (AC kf14 (AC kf14 (AC kf14 (AC kf14 (AC rfl (AC rfl (AC rfl (AC rfl (AC rfl (AC rfl (AC rfl (AC rfl (AC rfl (AC rfl (AC rfl (AC rfl (AC rfl (AC rfl (AC rfl (AC rfl (AC rfl (AC rfl (AC rfl (A1 rfl))))))))))))))))))))))))) ?_
    exact ret1 (.bool false) (⟨by unfold rightB; rw [show routingB p = true from g0,show withinB p.k 0 (min 4 p.links.length) = true from g1,show nodesB p = true from g2,show linksB p = false from Bool.eq_false_iff.2 g3]; simp,hE12⟩)
   have kf10 : (((routingB p) && true) && (nodesB p)) = false := by rw [show ((routingB p) && true) = true from by rw [show (routingB p) = true from g0]; first | done | rfl,show (nodesB p) = false from Bool.eq_false_iff.2 g2]; first | done | rfl
   refine sgz 37 [.skip,.skip,.skip,.skip,.skip,.skip,.skip,.skip,.skip,.skip,.skip,.skip,.skip,.skip,.skip,.skip,.skip,.skip,.skip,.skip,.skip,.skip] (kAt Y17 (ro1 4 []) []) [(2,.bool false)] ((fun (z1 : Bool) => ([z1 = (!true),z1 = (!true),z1 = false,false = (!true),false = (!true),false = (!true),false = (!true),false = false,false = (!true),false = (!true),false = (!true),false = (!true),false = false,false = (!true),false = (!true),false = false,false = (!true),false = (!true),false = (!true),false = (!true),false = (!true),false = false,false = (!true),false = (!true),false = (!true),false = (!true),false = (!true),false = false] : List Prop)) (((routingB p) && true) && (nodesB p))) (AC kf10 (AC kf10 (AC kf10 (AC rfl (AC rfl (AC rfl (AC rfl (AC rfl (AC rfl (AC rfl (AC rfl (AC rfl (AC rfl (AC rfl (AC rfl (AC rfl (AC rfl (AC rfl (AC rfl (AC rfl (AC rfl (AC rfl (AC rfl (AC rfl (AC rfl (AC rfl (AC rfl (A1 rfl)))))))))))))))))))))))))))) ?_
   exact ret1 (.bool false) (⟨by unfold rightB; rw [show routingB p = true from g0,show withinB p.k 0 (min 4 p.links.length) = true from g1,show nodesB p = false from Bool.eq_false_iff.2 g2]; simp,hE8⟩)
  refine stEq (st' := (stz [(1,pt b1 0),(2,.bool false),(3,.func (.func 37) #[] #[pt b1 0]),(4,.func (.func 39) #[] #[pt b1 0]),(9,.bool (routingB p)),(11,iv p.k),(15,iv (min (4 : Int) (p.links.length:Int))),(16,.bool false)])) (by rw [show (withinB p.k 0 (min 4 p.links.length)) = false from Bool.eq_false_iff.2 g1] <;> rfl) ?_
  refine sgz 41 [.skip,.skip,.skip,.skip,.skip,.skip,.skip,.skip,.skip,.skip,.skip,.skip,.skip,.skip,.skip,.skip,.skip,.skip,.skip,.skip,.skip,.skip,.skip,.skip] (kAt Y17 (ro1 4 []) []) [(2,.bool false)] ((fun (z1 : Bool) => ([z1 = (!true),z1 = (!true),z1 = false,false = (!true),false = (!true),false = false,false = (!true),false = (!true),false = (!true),false = (!true),false = false,false = (!true),false = (!true),false = (!true),false = (!true),false = false,false = (!true),false = (!true),false = false,false = (!true),false = (!true),false = (!true),false = (!true),false = (!true),false = false,false = (!true),false = (!true),false = (!true),false = (!true),false = (!true),false = false] : List Prop)) ((routingB p) && false)) (AC (by rw [show (routingB p) = true from g0]; first | done | rfl) (AC (by rw [show (routingB p) = true from g0]; first | done | rfl) (AC (by rw [show (routingB p) = true from g0]; first | done | rfl) (AC rfl (AC rfl (AC rfl (AC rfl (AC rfl (AC rfl (AC rfl (AC rfl (AC rfl (AC rfl (AC rfl (AC rfl (AC rfl (AC rfl (AC rfl (AC rfl (AC rfl (AC rfl (AC rfl (AC rfl (AC rfl (AC rfl (AC rfl (AC rfl (AC rfl (AC rfl (AC rfl (A1 rfl))))))))))))))))))))))))))))))) ?_
  exact ret1 (.bool false) (⟨by unfold rightB; rw [show routingB p = true from g0,show withinB p.k 0 (min 4 p.links.length) = false from Bool.eq_false_iff.2 g1]; simp,hE6⟩)
 refine sgz 49 [.skip,.skip,.skip,.skip,.skip,.skip,.skip,.skip,.skip,.skip,.skip,.skip,.skip,.skip,.skip,.skip,.skip,.skip,.skip,.skip,.skip,.skip,.skip,.skip,.skip,.skip,.skip,.skip,.skip,.skip,.skip] (kAt Y17 (ro1 4 []) []) [(2,.bool false)] [(routingB p) = (!true),(routingB p) = (!true),(routingB p) = (!true),(routingB p) = (!true),(routingB p) = (!true),(routingB p) = (!true),(routingB p) = (!true),(routingB p) = false,false = (!true),false = (!true),false = false,false = (!true),false = (!true),false = false,false = (!true),false = (!true),false = (!true),false = (!true),false = false,false = (!true),false = (!true),false = (!true),false = (!true),false = false,false = (!true),false = (!true),false = false,false = (!true),false = (!true),false = (!true),false = (!true),false = (!true),false = false,false = (!true),false = (!true),false = (!true),false = (!true),false = (!true),false = false] (AC (Bool.eq_false_iff.2 g0) (AC (Bool.eq_false_iff.2 g0) (AC (Bool.eq_false_iff.2 g0) (AC (Bool.eq_false_iff.2 g0) (AC (Bool.eq_false_iff.2 g0) (AC (Bool.eq_false_iff.2 g0) (AC (Bool.eq_false_iff.2 g0) (AC (Bool.eq_false_iff.2 g0) (AC rfl (AC rfl (AC rfl (AC rfl (AC rfl (AC rfl (AC rfl (AC rfl (AC rfl (AC rfl (AC rfl (AC rfl (AC rfl (AC rfl (AC rfl (AC rfl (AC rfl (AC rfl (AC rfl (AC rfl (AC rfl (AC rfl (AC rfl (AC rfl (AC rfl (AC rfl (AC rfl (AC rfl (AC rfl (AC rfl (A1 rfl))))))))))))))))))))))))))))))))))))))) ?_
 exact ret1 (.bool false) (⟨by unfold rightB; rw [show routingB p = false from Bool.eq_false_iff.2 g0]; simp,hE6⟩)

end Go.Proofs.YtjhgghpeapmgdaaGreatDoor
