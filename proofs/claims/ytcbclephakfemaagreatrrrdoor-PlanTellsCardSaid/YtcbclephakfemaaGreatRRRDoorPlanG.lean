/-
  PLAN: contracts of named and Right.
-/
import Derived.Test.YtcbclephakfemaaGreatRRRDoorPlanF
import Derived.Test.YtcbclephakfemaaGreatRRRDoorLz
import Derived.Test.YtcbclephakfemaaGreatRRRDoorFns
namespace Go.Proofs.YtcbclephakfemaaGreatRRRDoor
open Go.Bk Go.Proofs

theorem row_cells {w : World} {B : Nat} {e : TypeId} {size n g c : Nat} {xs : List Value} (h : w.ownsRow B e size (.slice (some ⟨g,0,none⟩) n c) n xs) : Cells w (some ⟨g,0,none⟩) xs := by
  obtain ⟨a,c',hv,hc⟩ := SlV.of_owns h
  simp only [Value.slice.injEq] at hv
  rw [hv.1]; exact hc

set_option maxRecDepth 20000 in
theorem named1_any (l : Bytes) (w : World) (hl : l.length ≤ 9223372036854775807) :
    Does Tryz.prog 59 [sv l] w (fun v w' => v = .bool (!nameB l) ∧ Ext w w') := by
 refine startZ (c := Y59) Tryz.func59 rfl (by kernel_rfl) ?_
 show H _ 6 [] _ (kAt Y59 [] []) (stz [(0,sv l)]) w
 have hE1 : Ext w w := Ext.refl w
 refine Zl 7 E60 (Name_any l w hl) ?_
 rintro _ w1 ⟨rfl,hx⟩
 have hE2 := hE1.trans hx
 exact Z1 3 (.bool (!(nameB l))) (⟨rfl,hE2⟩)

set_option maxRecDepth 20000 in
theorem named_any (p : PPlan) (q : PAd) (w : World) (hP : PlanAt w p q) (hn : 1 ≤ p.nodes.length) (hn2 : p.nodes.length ≤ 12) (hd : p.dests.length ≤ 4) :
    Does Tryz.prog 32 [(pv p q)] w (fun v w' => v = .bool (namedB p) ∧ Ext w w') := by
 refine startZ (c := Y32) Tryz.func32 rfl (by kernel_rfl) ?_
 show H _ 24 [] _ (kAt Y32 [] []) (stz [(0,(pv p q))]) w
 have hE1 : Ext w w := Ext.refl w
 have hM2 : Hold w w.heap.size [] := Hold.nil hE1.le
 refine Zb 2 29 (pv p q) (pc p q) hE1 hM2 ?_
 intro b1 w1 hE4 hM5
 have hb1 := (hM5.blk 0 rfl)
 have hlen : (namesL p).length = p.nodes.length + p.dests.length := by simp [namesL]
 have hsl := sortB_len (namesL p)
 have hE6 : Ext w1 w1 := Ext.refl w1
 have hM7 : Hold w1 w1.heap.size [] := Hold.nil hE6.le
 refine Zs 5 [.ld (pv p q)] [cl w1 b1 0 (iv p.proto),cl w1 b1 1 (iv p.cap),cl w1 b1 2 (iv p.k),cl w1 b1 3 (.slice q.a1 p.nodes.length q.c1),cl w1 b1 4 (.slice q.a2 p.links.length q.c2),cl w1 b1 5 (.slice q.a3 p.dests.length q.c3),cl w1 b1 6 (.slice q.a4 p.checks.length q.c4)] (AC (hE6.cell (cell_of hb1 rfl)) (AC (hE6.cell (cell_of hb1 rfl)) (AC (hE6.cell (cell_of hb1 rfl)) (AC (hE6.cell (cell_of hb1 rfl)) (AC (hE6.cell (cell_of hb1 rfl)) (AC (hE6.cell (cell_of hb1 rfl)) (A1 (hE6.cell (cell_of hb1 rfl))))))))) ?_
 refine Zl 0 E56 (names_any p q w1 (hP.ext hE4) hn hn2 hd) ?_
 rintro _ w2 ⟨g,c,rfl,hx2,hrow⟩
 obtain ⟨hE8,hM9⟩ := Xt hE6 hM7 hx2
 refine Zl 5 E57 (sort_any w1.heap.size g c (namesL p) w1 w2 hE8 (Nat.le_refl _) (by omega) hrow) ?_
 rintro _ w3 ⟨rfl,hrow2,hx3⟩
 have hM10 : Hold w3 w1.heap.size [] := Hold.nil hx3.le
 refine Zs 2 [] [] trivial ?_
 refine ZB 17 (kAt Y32 (ro1 4 []) []) 3 (opsAt (cAt Y32 [1,1,1,0])) (fun _ => Ext w1) ?_
 intro w11 hx12
 obtain ⟨hE13,hM14⟩ := Xt hx3 hM10 hx12
 refine dx0 [0] [] 16 (lb 17 1) (hE13) ?_
 refine d1 1 ?_
 refine Wl E58 (by have h := hasStr0 (sortB (namesL p)) (some ⟨g,0,none⟩) c 59 (fun x => !nameB x) w11 E59 (fun k hk w' hx => named1_any _ w' (by have := hP.names _ ((sortB_perm (namesL p)).mem_iff.1 (getD_mem' [] hk)); omega)) ((row_cells hrow2).ext hx12) (by omega); rw [hsl] at h; exact h) ?_
 rintro _ w5 ⟨rfl,hx5⟩
 obtain ⟨hE15,hM16⟩ := Xt hE13 hM14 hx5
 by_cases g1 : ((sortB (namesL p)).any fun x => !nameB x) = true
 ·refine ⟨hE15,?_⟩
  have kf17 : (!((sortB (namesL p)).any fun x => !nameB x)) = false := by rw [show ((sortB (namesL p)).any fun x => !nameB x) = true from g1]; first | done | rfl
  refine dg [2,3,4,5,6,7,8,9,10,11,12,13,14,15,16] [.sg 0,.sg 0,.sg 0,.sg 0,.sg 0,.sg 0,.sg 0,.sg 0,.sg 0,.sg 0,.sg 0,.p (fun _ => (!((sortB (namesL p)).any fun x => !nameB x)) = false)] 0 (lb 17 131071) [(!((sortB (namesL p)).any fun x => !nameB x)) = (!true)] (A1 kf17) [] (fun _ _ => (A1 kf17)) (hE15) ?_
  refine ZD ?_
  exact Z1 0 (.bool false) (⟨by unfold namedB; rw [← notAny,← any_sortB,g1]; rfl,hE4.trans hE15⟩)
 have hall : (namesL p).all nameB = true := by rw [← notAny,← any_sortB,Bool.eq_false_iff.2 g1]; rfl
 refine ⟨hE15,?_⟩
 have kf18 : (!((sortB (namesL p)).any fun x => !nameB x)) = true := by rw [show ((sortB (namesL p)).any fun x => !nameB x) = false from Bool.eq_false_iff.2 g1]; first | done | rfl
 refine dg [2,3,4,7,8,9,10,11,12,13] [.xg 0,.xg 0,.xg 0,.p (fun w' => (w').cell? ⟨b1,3,none⟩ = some (.slice q.a1 p.nodes.length q.c1)),.v (.slice q.a1 p.nodes.length q.c1),.xg 0,.xg 0,.xg 0,.p (fun w' => (w').cell? ⟨b1,5,none⟩ = some (.slice q.a3 p.dests.length q.c3)),.v (.slice q.a3 p.dests.length q.c3),.xg 0,.xg 0,.p (fun _ => I64 ((p.nodes.length + p.dests.length:Nat):Int))] 5 (lb 17 16287) [(!((sortB (namesL p)).any fun x => !nameB x)) = true] (A1 kf18) [] (fun w' hS => (AC (hS.cell (cell_of hb1 rfl)) (AC (hS.cell (cell_of hb1 rfl)) (A1 (i64 (by omega)))))) (hE15) ?_
 refine d1 5 ?_
 refine Wo [.exec] (.call 61 [.slice (some ⟨g,0,none⟩) ((namesL p).length) c]) [(!((sortB (namesL p)).any fun x => !nameB x)) = true] (A1 kf18) (runs_call E61 (by have h := compact_any w1.heap.size g c (sortB (namesL p)) w1 w5 hE15 (Nat.le_refl _) (by omega) (ownsRow_ext (ownsRow_ext hrow2 hx12) hx5); rw [hsl] at h; exact h)) ?_
 rintro _ w6 ⟨rfl,hx6⟩
 refine ⟨hx6,?_⟩
 refine dg [6,14,15,16] [.xg 0,.xg 0] 0 (lb 17 131071) [(!((sortB (namesL p)).any fun x => !nameB x)) = true] (A1 kf18) [] (fun _ _ => trivial) (hx6) ?_
 refine ZD ?_
 exact Z1 0 (.bool ((!((sortB (namesL p)).any fun x => !nameB x)) && (decide ((((Lib.compact (sortB (namesL p))).length:Nat):Int) = ((p.nodes.length + p.dests.length:Nat):Int))))) (⟨by unfold namedB; rw [hall,Bool.eq_false_iff.2 g1,Bool.not_false,Bool.true_and,Bool.true_and]; congr 1; exact decide_eq_decide.2 (Iff.trans (by rw [hlen]; omega) (compact_sortB (namesL p))),hE4.trans hx6⟩)

set_option maxRecDepth 20000 in
theorem Right_any (p : PPlan) (q : PAd) (w : World) (hP : PlanAt w p q) :
    Does Tryz.prog 9 [(pv p q)] w (fun v w' => v = .bool (rightB p) ∧ Ext w w') := by
 refine startZ (c := Y9) Tryz.func9 rfl (by kernel_rfl) ?_
 show H _ 56 [] _ (kAt Y9 [] []) (stz [(0,(pv p q))]) w
 have hq := hP.dlen
 have hE1 : Ext w w := Ext.refl w
 have hM2 : Hold w w.heap.size [] := Hold.nil hE1.le
 refine Zb 2 29 (pv p q) (pc p q) hE1 hM2 ?_
 intro b1 w1 hE4 hM5
 refine Zh 15 [.a 0 0 7] hM5 trivial ?_
 refine Zl 0 E28 (routing_any p q w1) ?_
 rintro _ v0 ⟨rfl,hx0⟩
 obtain ⟨hE6,hM7⟩ := Xt hE4 hM5 hx0
 by_cases g0 : (routingB p) = true
 ·refine Zf 7 [.xg 0,.xg 0,.c 0 2,.xg 0,.xg 0,.c 0 4,.xg 0,.xg 0] hM7 [(routingB p) = true] (A1 g0) [] trivial ?_
  refine Zo 0 [.exec] _ [(routingB p) = true] (A1 g0) (runs_call E29 (within_any p.k 0 (min 4 (p.links.length:Int)) v0)) ?_
  rintro _ _ ⟨rfl,rfl⟩
  by_cases g1 : (withinB p.k 0 (min 4 p.links.length)) = true
  ·refine Zw 0 16 (.bool (withinB p.k 0 (min 4 p.links.length))) (.bool true) (by rw [show (withinB p.k 0 (min 4 p.links.length)) = true from g1] <;> rfl) ?_
   refine Zh 3 [.p (fun _ => ((routingB p) && true) = true),.x,.a 0 0 7] hM7 (A1 (by rw [show (routingB p) = true from g0]; first | done | rfl)) ?_
   refine Zo 0 [.exec] _ [((routingB p) && true) = true] (A1 (by rw [show (routingB p) = true from g0]; first | done | rfl)) (runs_call E30 (nodes_any p q v0 (hP.ext hE6))) ?_
   rintro _ v2 ⟨rfl,hx2⟩
   obtain ⟨hE8,hM9⟩ := Xt hE6 hM7 hx2
   by_cases g2 : (nodesB p) = true
   ·have kf11 : (((routingB p) && true) && (nodesB p)) = true := by rw [show ((routingB p) && true) = true from by rw [show (routingB p) = true from g0]; first | done | rfl,show (nodesB p) = true from g2]; first | done | rfl
    refine Zh 3 [.p (fun _ => (((routingB p) && true) && (nodesB p)) = true),.x,.a 0 0 7] hM9 (A1 kf11) ?_
    refine Zo 0 [.exec] _ [(((routingB p) && true) && (nodesB p)) = true] (A1 kf11) (runs_call E31 (links_any p q v2 (hP.ext hE8))) ?_
    rintro _ v3 ⟨rfl,hx3⟩
    obtain ⟨hE12,hM13⟩ := Xt hE8 hM9 hx3
    by_cases g3 : (linksB p) = true
    ·have kf15 : ((((routingB p) && true) && (nodesB p)) && (linksB p)) = true := by rw [show (((routingB p) && true) && (nodesB p)) = true from kf11,show (linksB p) = true from g3]; first | done | rfl
     refine Zf 15 [.xg 0,.xg 0,.c 0 5,.xg 0,.xg 0,.gn 0,.y,.y,.gc 0 0 6,.gn 0,.gn 0,.gn 0,.y,.y,.y,.ga 1 0 0 7] hM13 [((((routingB p) && true) && (nodesB p)) && (linksB p)) = true] (A1 kf15) [((((routingB p) && true) && (nodesB p)) && (linksB p)) && (decide ((p.dests.length:Int) ≤ (4 : Int))),(((((routingB p) && true) && (nodesB p)) && (linksB p)) && (decide ((p.dests.length:Int) ≤ (4 : Int)))) && (decide ((p.checks.length:Int) ≤ (16 : Int)))] trivial ?_
     by_cases g4 : (p.dests.length:Int) ≤ (4 : Int)
     ·have kf18 : (((((routingB p) && true) && (nodesB p)) && (linksB p)) && (decide ((p.dests.length:Int) ≤ (4 : Int)))) = true := by rw [show ((((routingB p) && true) && (nodesB p)) && (linksB p)) = true from kf15,show (decide ((p.dests.length:Int) ≤ (4 : Int))) = true from decide_eq_true g4]; first | done | rfl
      by_cases g5 : (p.checks.length:Int) ≤ (16 : Int)
      ·have kf20 : ((((((routingB p) && true) && (nodesB p)) && (linksB p)) && (decide ((p.dests.length:Int) ≤ (4 : Int)))) && (decide ((p.checks.length:Int) ≤ (16 : Int)))) = true := by rw [show (((((routingB p) && true) && (nodesB p)) && (linksB p)) && (decide ((p.dests.length:Int) ≤ (4 : Int)))) = true from kf18,show (decide ((p.checks.length:Int) ≤ (16 : Int))) = true from decide_eq_true g5]; first | done | rfl
       have hn0 : 1 ≤ p.nodes.length ∧ p.nodes.length ≤ 12 := by have h := g2; unfold nodesB at h; simp only [Bool.and_eq_true,withinB_iff] at h; omega
       refine Zo 0 [.exec] _ [((((((routingB p) && true) && (nodesB p)) && (linksB p)) && (decide ((p.dests.length:Int) ≤ (4 : Int)))) && (decide ((p.checks.length:Int) ≤ (16 : Int)))) = true,((((((routingB p) && true) && (nodesB p)) && (linksB p)) && (decide ((p.dests.length:Int) ≤ (4 : Int)))) && (decide ((p.checks.length:Int) ≤ (16 : Int)))) = true] (AC kf20 (A1 (by simp_all))) (runs_call E32 (named_any p q v3 (hP.ext hE12) hn0.1 hn0.2 (by omega))) ?_
       rintro _ v6 ⟨rfl,hx6⟩
       obtain ⟨hE21,hM22⟩ := Xt hE12 hM13 hx6
       by_cases g6 : (namedB p) = true
       ·have kf24 : (((((((routingB p) && true) && (nodesB p)) && (linksB p)) && (decide ((p.dests.length:Int) ≤ (4 : Int)))) && (decide ((p.checks.length:Int) ≤ (16 : Int)))) && (namedB p)) = true := by rw [show ((((((routingB p) && true) && (nodesB p)) && (linksB p)) && (decide ((p.dests.length:Int) ≤ (4 : Int)))) && (decide ((p.checks.length:Int) ≤ (16 : Int)))) = true from kf20,show (namedB p) = true from g6]; first | done | rfl
        refine Zf 5 [.xg 0,.xg 0,.c 0 5,.xg 0] hM22 [(((((((routingB p) && true) && (nodesB p)) && (linksB p)) && (decide ((p.dests.length:Int) ≤ (4 : Int)))) && (decide ((p.checks.length:Int) ≤ (16 : Int)))) && (namedB p)) = true] (A1 kf24) [] trivial ?_
        refine Zo 0 [.exec] (.call 33 [.slice q.a3 p.dests.length q.c3,.func (.func 24) #[] #[pt b1 0]]) [(((((((routingB p) && true) && (nodesB p)) && (linksB p)) && (decide ((p.dests.length:Int) ≤ (4 : Int)))) && (decide ((p.checks.length:Int) ≤ (16 : Int)))) && (namedB p)) = true] (A1 kf24) (runs_call E33 (by have h := hasDest1 q.ds q.a3 q.c3 24 b1 (fun x => !destB x.d p.nodes.length) v6 E24 (fun k hk w' hx => right1_any p q _ b1 w' (hx.heap (hM22.blk 0 rfl)) ((hP.orig _ (getD_mem' _ hk)).1.ext (Ext.trans hE21 hx)) (by have := (hP.orig _ (getD_mem' d0A hk)).2; omega)) (hP.dests.ext hE21) (by have := hP.l3; omega); rw [hq] at h; exact h)) ?_
        rintro _ v7 ⟨rfl,hx7⟩
        obtain ⟨hE25,hM26⟩ := Xt hE21 hM22 hx7
        by_cases g7 : (q.ds.any fun x => !destB x.d p.nodes.length) = true
        ·refine Zw 0 46 (.bool (q.ds.any fun x => !destB x.d p.nodes.length)) (.bool true) (by rw [show (q.ds.any fun x => !destB x.d p.nodes.length) = true from g7] <;> rfl) ?_
         have kf27 : ((((((((routingB p) && true) && (nodesB p)) && (linksB p)) && (decide ((p.dests.length:Int) ≤ (4 : Int)))) && (decide ((p.checks.length:Int) ≤ (16 : Int)))) && (namedB p)) && false) = false := by rw [show (((((((routingB p) && true) && (nodesB p)) && (linksB p)) && (decide ((p.dests.length:Int) ≤ (4 : Int)))) && (decide ((p.checks.length:Int) ≤ (16 : Int)))) && (namedB p)) = true from kf24]; first | done | rfl
         refine Zi 11 [.p (fun _ => (((((((routingB p) && true) && (nodesB p)) && (linksB p)) && (decide ((p.dests.length:Int) ≤ (4 : Int)))) && (decide ((p.checks.length:Int) ≤ (16 : Int)))) && (namedB p)) = true),.xg 0,.sg 0,.sg 0,.sg 0,.sg 0,.p (fun _ => ((((((((routingB p) && true) && (nodesB p)) && (linksB p)) && (decide ((p.dests.length:Int) ≤ (4 : Int)))) && (decide ((p.checks.length:Int) ≤ (16 : Int)))) && (namedB p)) && false) = false),.s] [((((((((routingB p) && true) && (nodesB p)) && (linksB p)) && (decide ((p.dests.length:Int) ≤ (4 : Int)))) && (decide ((p.checks.length:Int) ≤ (16 : Int)))) && (namedB p)) && false) = (!true)] (A1 kf27) [] (AC kf24 (A1 kf27)) ?_
         exact Z1 0 (.bool false) (⟨by unfold rightB; rw [show routingB p = true from g0,show withinB p.k 0 (min 4 p.links.length) = true from g1,show nodesB p = true from g2,show linksB p = true from g3,decide_eq_true g4,decide_eq_true g5,show namedB p = true from g6,show (p.dests.all fun d => destB d p.nodes.length) = false from by rw [← notAnyD hP.deq,g7]; rfl]; simp,hE25⟩)
        refine Zw 0 46 (.bool (q.ds.any fun x => !destB x.d p.nodes.length)) (.bool false) (by rw [show (q.ds.any fun x => !destB x.d p.nodes.length) = false from Bool.eq_false_iff.2 g7] <;> rfl) ?_
        have kf28 : ((((((((routingB p) && true) && (nodesB p)) && (linksB p)) && (decide ((p.dests.length:Int) ≤ (4 : Int)))) && (decide ((p.checks.length:Int) ≤ (16 : Int)))) && (namedB p)) && true) = true := by rw [show (((((((routingB p) && true) && (nodesB p)) && (linksB p)) && (decide ((p.dests.length:Int) ≤ (4 : Int)))) && (decide ((p.checks.length:Int) ≤ (16 : Int)))) && (namedB p)) = true from kf24]; first | done | rfl
        refine Zf 6 [.p (fun _ => (((((((routingB p) && true) && (nodesB p)) && (linksB p)) && (decide ((p.dests.length:Int) ≤ (4 : Int)))) && (decide ((p.checks.length:Int) ≤ (16 : Int)))) && (namedB p)) = true),.xg 0,.xg 0,.x,.c 0 6,.xg 0] hM26 [((((((((routingB p) && true) && (nodesB p)) && (linksB p)) && (decide ((p.dests.length:Int) ≤ (4 : Int)))) && (decide ((p.checks.length:Int) ≤ (16 : Int)))) && (namedB p)) && true) = true] (A1 kf28) [] (A1 kf24) ?_
        refine Zo 0 [.exec] _ [((((((((routingB p) && true) && (nodesB p)) && (linksB p)) && (decide ((p.dests.length:Int) ≤ (4 : Int)))) && (decide ((p.checks.length:Int) ≤ (16 : Int)))) && (namedB p)) && true) = true] (A1 kf28) (runs_call E34 (hasCheck1 p.checks q.a4 q.c4 26 b1 (fun x => !checkB p x) v7 E26 (fun k hk w' hx => right2_any p q _ b1 w' (hx.heap (hM26.blk 0 rfl))) (hP.checks.ext hE25) (by have := hP.l4; omega))) ?_
        rintro _ v8 ⟨rfl,hx8⟩
        obtain ⟨hE29,hM30⟩ := Xt hE25 hM26 hx8
        refine Zs 4 [.exec] [((((((((routingB p) && true) && (nodesB p)) && (linksB p)) && (decide ((p.dests.length:Int) ≤ (4 : Int)))) && (decide ((p.checks.length:Int) ≤ (16 : Int)))) && (namedB p)) && true) = true] (A1 kf28) ?_
        exact Z1 0 (.bool (((((((((routingB p) && true) && (nodesB p)) && (linksB p)) && (decide ((p.dests.length:Int) ≤ (4 : Int)))) && (decide ((p.checks.length:Int) ≤ (16 : Int)))) && (namedB p)) && true) && (!(p.checks.any fun x => !checkB p x)))) (⟨by unfold rightB; rw [show routingB p = true from g0,show withinB p.k 0 (min 4 p.links.length) = true from g1,show nodesB p = true from g2,show linksB p = true from g3,decide_eq_true g4,decide_eq_true g5,show namedB p = true from g6,show (p.dests.all fun d => destB d p.nodes.length) = true from by rw [← notAnyD hP.deq,Bool.eq_false_iff.2 g7]; rfl,notAny (checkB p)] <;> simp,hE29⟩)
       have kf23 : (((((((routingB p) && true) && (nodesB p)) && (linksB p)) && (decide ((p.dests.length:Int) ≤ (4 : Int)))) && (decide ((p.checks.length:Int) ≤ (16 : Int)))) && (namedB p)) = false := by rw [show ((((((routingB p) && true) && (nodesB p)) && (linksB p)) && (decide ((p.dests.length:Int) ≤ (4 : Int)))) && (decide ((p.checks.length:Int) ≤ (16 : Int)))) = true from kf20,show (namedB p) = false from Bool.eq_false_iff.2 g6]; first | done | rfl
       refine Zi 17 [.sg 0,.sg 0,.sg 0,.sg 0,.sg 0,.p (fun _ => (((((((routingB p) && true) && (nodesB p)) && (linksB p)) && (decide ((p.dests.length:Int) ≤ (4 : Int)))) && (decide ((p.checks.length:Int) ≤ (16 : Int)))) && (namedB p)) = false),.sf,.sf,.sf,.sf,.sf,.g 1] [(((((((routingB p) && true) && (nodesB p)) && (linksB p)) && (decide ((p.dests.length:Int) ≤ (4 : Int)))) && (decide ((p.checks.length:Int) ≤ (16 : Int)))) && (namedB p)) = (!true),false = false] (AC kf23 (A1 rfl)) [] (A1 kf23) ?_
       exact Z1 0 (.bool false) (⟨by unfold rightB; rw [show routingB p = true from g0,show withinB p.k 0 (min 4 p.links.length) = true from g1,show nodesB p = true from g2,show linksB p = true from g3,decide_eq_true g4,decide_eq_true g5,show namedB p = false from Bool.eq_false_iff.2 g6]; simp,hE21⟩)
      have kf19 : ((((((routingB p) && true) && (nodesB p)) && (linksB p)) && (decide ((p.dests.length:Int) ≤ (4 : Int)))) && (decide ((p.checks.length:Int) ≤ (16 : Int)))) = false := by rw [show (((((routingB p) && true) && (nodesB p)) && (linksB p)) && (decide ((p.dests.length:Int) ≤ (4 : Int)))) = true from kf18,show (decide ((p.checks.length:Int) ≤ (16 : Int))) = false from decide_eq_false g5]; first | done | rfl
      refine Zi 18 [.p (fun _ => ((((((routingB p) && true) && (nodesB p)) && (linksB p)) && (decide ((p.dests.length:Int) ≤ (4 : Int)))) && (decide ((p.checks.length:Int) ≤ (16 : Int)))) = (!true)),.p (fun _ => ((((((routingB p) && true) && (nodesB p)) && (linksB p)) && (decide ((p.dests.length:Int) ≤ (4 : Int)))) && (decide ((p.checks.length:Int) ≤ (16 : Int)))) = false),.sf,.sf,.sf,.sf,.sf,.sf,.sf,.sf,.sf,.sf,.sf,.g 0] [false = false] (A1 rfl) [] (AC kf19 (A1 kf19)) ?_
      exact Z1 0 (.bool false) (⟨by unfold rightB; rw [show routingB p = true from g0,show withinB p.k 0 (min 4 p.links.length) = true from g1,show nodesB p = true from g2,show linksB p = true from g3,decide_eq_true g4,decide_eq_false g5]; simp,hE12⟩)
     have kf16 : (((((routingB p) && true) && (nodesB p)) && (linksB p)) && (decide ((p.dests.length:Int) ≤ (4 : Int)))) = false := by rw [show ((((routingB p) && true) && (nodesB p)) && (linksB p)) = true from kf15,show (decide ((p.dests.length:Int) ≤ (4 : Int))) = false from decide_eq_false g4]; first | done | rfl
     have kf17 : ((((((routingB p) && true) && (nodesB p)) && (linksB p)) && (decide ((p.dests.length:Int) ≤ (4 : Int)))) && (decide ((p.checks.length:Int) ≤ (16 : Int)))) = false := by rw [show (((((routingB p) && true) && (nodesB p)) && (linksB p)) && (decide ((p.dests.length:Int) ≤ (4 : Int)))) = false from kf16]; first | done | rfl
     refine Zi 18 [.p (fun _ => ((((((routingB p) && true) && (nodesB p)) && (linksB p)) && (decide ((p.dests.length:Int) ≤ (4 : Int)))) && (decide ((p.checks.length:Int) ≤ (16 : Int)))) = (!true)),.p (fun _ => ((((((routingB p) && true) && (nodesB p)) && (linksB p)) && (decide ((p.dests.length:Int) ≤ (4 : Int)))) && (decide ((p.checks.length:Int) ≤ (16 : Int)))) = false),.sf,.sf,.sf,.sf,.sf,.sf,.sf,.sf,.sf,.sf,.sf,.g 0] [false = false] (A1 rfl) [] (AC kf17 (A1 kf17)) ?_
     exact Z1 0 (.bool false) (⟨by unfold rightB; rw [show routingB p = true from g0,show withinB p.k 0 (min 4 p.links.length) = true from g1,show nodesB p = true from g2,show linksB p = true from g3,decide_eq_false g4]; simp,hE12⟩)
    have kf14 : ((((routingB p) && true) && (nodesB p)) && (linksB p)) = false := by rw [show (((routingB p) && true) && (nodesB p)) = true from kf11,show (linksB p) = false from Bool.eq_false_iff.2 g3]; first | done | rfl
    refine Zi 33 [.sg 0,.sg 0,.sg 0,.sg 0,.p (fun _ => ((((routingB p) && true) && (nodesB p)) && (linksB p)) = false),.sf,.sf,.sf,.sf,.sf,.sf,.sf,.sf,.sf,.sf,.sf,.sf,.sf,.sf,.sf,.sf,.g 1,.g 1,.g 1,.g 2] [((((routingB p) && true) && (nodesB p)) && (linksB p)) = (!true),false = (!true),false = false] (AC kf14 (AC rfl (A1 rfl))) [] (A1 kf14) ?_
    exact Z1 0 (.bool false) (⟨by unfold rightB; rw [show routingB p = true from g0,show withinB p.k 0 (min 4 p.links.length) = true from g1,show nodesB p = true from g2,show linksB p = false from Bool.eq_false_iff.2 g3]; simp,hE12⟩)
   have kf10 : (((routingB p) && true) && (nodesB p)) = false := by rw [show ((routingB p) && true) = true from by rw [show (routingB p) = true from g0]; first | done | rfl,show (nodesB p) = false from Bool.eq_false_iff.2 g2]; first | done | rfl
   refine Zi 37 [.sg 0,.sg 0,.p (fun _ => (((routingB p) && true) && (nodesB p)) = false),.sf,.sf,.sf,.sf,.sf,.sf,.sf,.sf,.sf,.sf,.sf,.sf,.sf,.sf,.sf,.sf,.sf,.sf,.sf,.sf,.g 1,.g 1,.g 1,.g 1,.g 2] [(((routingB p) && true) && (nodesB p)) = (!true),false = (!true),false = false] (AC kf10 (AC rfl (A1 rfl))) [] (A1 kf10) ?_
   exact Z1 0 (.bool false) (⟨by unfold rightB; rw [show routingB p = true from g0,show withinB p.k 0 (min 4 p.links.length) = true from g1,show nodesB p = false from Bool.eq_false_iff.2 g2]; simp,hE8⟩)
  refine Zw 0 16 (.bool (withinB p.k 0 (min 4 p.links.length))) (.bool false) (by rw [show (withinB p.k 0 (min 4 p.links.length)) = false from Bool.eq_false_iff.2 g1] <;> rfl) ?_
  refine Zi 41 [Ce.sg 0,Ce.sg 0,Ce.p (fun _ => ((routingB p) && false) = false),Ce.sf,Ce.sf,Ce.sf,Ce.sf,Ce.sf,Ce.sf,Ce.sf,Ce.sf,Ce.sf,Ce.sf,Ce.sf,Ce.sf,Ce.sf,Ce.sf,Ce.sf,Ce.sf,Ce.sf,Ce.sf,Ce.sf,Ce.sf,Ce.sf,Ce.sf,Ce.g 1,Ce.g 1,Ce.g 1,Ce.g 1,Ce.g 1,Ce.g 2] [((routingB p) && false) = (!true),false = (!true),false = false] (AC (by rw [show (routingB p) = true from g0]; first | done | rfl) (AC rfl (A1 rfl))) [] (A1 (by rw [show (routingB p) = true from g0]; first | done | rfl)) ?_
  exact Z1 0 (.bool false) (⟨by unfold rightB; rw [show routingB p = true from g0,show withinB p.k 0 (min 4 p.links.length) = false from Bool.eq_false_iff.2 g1]; simp,hE6⟩)
 refine Zi 49 [Ce.sg 0,Ce.sg 0,Ce.sg 0,Ce.sg 0,Ce.sg 0,Ce.sg 0,Ce.sg 0,Ce.p (fun _ => (routingB p) = false),Ce.sf,Ce.sf,Ce.sf,Ce.sf,Ce.sf,Ce.sf,Ce.sf,Ce.sf,Ce.sf,Ce.sf,Ce.sf,Ce.sf,Ce.sf,Ce.sf,Ce.sf,Ce.sf,Ce.sf,Ce.sf,Ce.sf,Ce.sf,Ce.sf,Ce.sf,Ce.sf,Ce.sf,Ce.g 1,Ce.g 2,Ce.g 2,Ce.g 2,Ce.g 2,Ce.g 2,Ce.g 1] [(routingB p) = (!true),false = false,false = (!true)] (AC (Bool.eq_false_iff.2 g0) (AC rfl (A1 rfl))) [] (A1 (Bool.eq_false_iff.2 g0)) ?_
 exact Z1 0 (.bool false) (⟨by unfold rightB; rw [show routingB p = false from Bool.eq_false_iff.2 g0]; simp,hE6⟩)

end Go.Proofs.YtcbclephakfemaaGreatRRRDoor
