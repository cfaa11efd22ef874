/-
  PLAN: contracts of nodes, check, of the closures, of Node, Dest and Same.
-/
import Derived.Test.YtcbclephakfemaaGreatRRRDoorPlanC
import Derived.Test.YtcbclephakfemaaGreatRRRDoorMore
import Derived.Test.YtcbclephakfemaaGreatRRRDoorLz
import Derived.Test.YtcbclephakfemaaGreatRRRDoorFns
namespace Go.Proofs.YtcbclephakfemaaGreatRRRDoor
open Go.Bk Go.Proofs

theorem E30 : Proofs.Enters Tryz.prog 30 := Proofs.enters_of Tryz.func30 (by kernel_rfl) rfl

theorem E54 : Proofs.Enters Tryz.prog 54 := Proofs.enters_of Tryz.func54 (by kernel_rfl) rfl

theorem E27 : Proofs.Enters Tryz.prog 27 := Proofs.enters_of Tryz.func27 (by kernel_rfl) rfl

theorem E24 : Proofs.Enters Tryz.prog 24 := Proofs.enters_of Tryz.func24 (by kernel_rfl) rfl

theorem E26 : Proofs.Enters Tryz.prog 26 := Proofs.enters_of Tryz.func26 (by kernel_rfl) rfl

theorem E13 : Proofs.Enters Tryz.prog 13 := Proofs.enters_of Tryz.func13 (by kernel_rfl) rfl

theorem E46 : Proofs.Enters Tryz.prog 46 := Proofs.enters_of Tryz.func46 (by kernel_rfl) rfl

theorem E15 : Proofs.Enters Tryz.prog 15 := Proofs.enters_of Tryz.func15 (by kernel_rfl) rfl

theorem E48 : Proofs.Enters Tryz.prog 48 := Proofs.enters_of Tryz.func48 (by kernel_rfl) rfl

theorem E11 : Proofs.Enters Tryz.prog 11 := Proofs.enters_of Tryz.func11 (by kernel_rfl) rfl

theorem E39 : Proofs.Enters Tryz.prog 39 := Proofs.enters_of Tryz.func39 (by kernel_rfl) rfl

theorem E43 : Proofs.Enters Tryz.prog 43 := Proofs.enters_of Tryz.func43 (by kernel_rfl) rfl

set_option maxRecDepth 20000 in
theorem nodes1_any (x : PNode) (w : World)  :
    Does Tryz.prog 54 [(vN x)] w (fun v w' => v = .bool (!asB x) ∧ Ext w w') := by
 refine startZ (c := Y54) Tryz.func54 rfl (by kernel_rfl) ?_
 show H _ 7 [] _ (kAt Y54 [] []) (stz [(0,(vN x))]) w
 have hE1 : Ext w w := Ext.refl w
 have hM2 : Hold w w.heap.size [] := Hold.nil hE1.le
 refine Zb 2 41 (vN x) [sv x.name,iv x.asn] hE1 hM2 ?_
 intro b1 w1 hE4 hM5
 refine Zh 6 [.c 0 1] hM5 trivial ?_
 refine Zl 0 E29 (within_any x.asn 1 65535 w1) ?_
 rintro _ _ ⟨rfl,rfl⟩
 exact Z1 3 (.bool (!(withinB x.asn 1 65535))) (⟨rfl,hE4⟩)

set_option maxRecDepth 20000 in
theorem nodes_any (p : PPlan) (q : PAd) (w : World) (hP : PlanAt w p q) :
    Does Tryz.prog 30 [(pv p q)] w (fun v w' => v = .bool (nodesB p) ∧ Ext w w') := by
 refine startZ (c := Y30) Tryz.func30 rfl (by kernel_rfl) ?_
 show H _ 15 [] _ (kAt Y30 [] []) (stz [(0,(pv p q))]) w
 have hE1 : Ext w w := Ext.refl w
 have hM2 : Hold w w.heap.size [] := Hold.nil hE1.le
 refine Zb 2 29 (pv p q) (pc p q) hE1 hM2 ?_
 intro b1 w1 hE4 hM5
 refine Zh 11 [.c 0 3] hM5 trivial ?_
 refine Zl 0 E29 (within_any p.nodes.length 1 12 w1) ?_
 rintro _ _ ⟨rfl,rfl⟩
 refine Zf 4 [.gn 0,.y,.y,.gc 0 0 3,.y] hM5 [] trivial [withinB p.nodes.length 1 12] trivial ?_
 by_cases h1 : (withinB p.nodes.length 1 12) = true
 ·refine Zo 0 [.exec] _ [(withinB p.nodes.length 1 12) = true,(withinB p.nodes.length 1 12) = true,(withinB p.nodes.length 1 12) = true] (AC h1 (AC (by simp_all) (A1 (by simp_all)))) (runs_call E55 (hasNode0 p.nodes q.a1 q.c1 54 (fun x => !asB x) w1 E54 (fun k hk w' hx => nodes1_any _ w') (hP.nodes.ext hE4) (by have := hP.l1; omega))) ?_
  rintro _ w2 ⟨rfl,hx⟩
  obtain ⟨hE6,hM7⟩ := Xt hE4 hM5 hx
  refine Zs 4 [.exec] [(withinB p.nodes.length 1 12) = true] (A1 h1) ?_
  exact Z1 0 (.bool ((withinB p.nodes.length 1 12) && (!(p.nodes.any fun x => !asB x)))) (⟨by unfold nodesB; rw [h1,notAny asB,Bool.true_and],hE6⟩)
 refine Zi 5 [.sg 0,.sg 0,.p (fun _ => (withinB p.nodes.length 1 12) = false)] [(withinB p.nodes.length 1 12) = (!true)] (A1 (Bool.eq_false_iff.2 h1)) [] (A1 (Bool.eq_false_iff.2 h1)) ?_
 exact Z1 0 (.bool false) (⟨by unfold nodesB; rw [Bool.eq_false_iff.2 h1]; rfl,hE4⟩)

set_option maxRecDepth 20000 in
theorem check_any (p : PPlan) (q : PAd) (c : PCheck) (w : World)  :
    Does Tryz.prog 27 [(pv p q),(vC c)] w (fun v w' => v = .bool (checkB p c) ∧ Ext w w') := by
 refine startZ (c := Y27) Tryz.func27 rfl (by kernel_rfl) ?_
 show H _ 45 [] _ (kAt Y27 [] []) (stz [(0,(pv p q)),(1,(vC c))]) w
 have hE1 : Ext w w := Ext.refl w
 have hM2 : Hold w w.heap.size [] := Hold.nil hE1.le
 refine Zb 2 29 (pv p q) (pc p q) hE1 hM2 ?_
 intro b1 w1 hE4 hM5
 refine Zb 0 51 (vC c) [iv c.kind,iv c.node,iv c.dest,iv c.limit,iv c.other] hE4 hM5 ?_
 intro b2 w2 hE7 hM8
 refine Zh 19 [.c 0 0] hM8 trivial ?_
 have tl : ∀ (lim oth : Int),checkB p c = checkR p.nodes.length p.dests.length c lim oth → H Tryz.prog 45 [] (bodyPost Tryz.prog Tryz.f27 (Ret fun v w' => v = .bool (checkB p c) ∧ Ext w w')) (kAt Y27 [1,1,1,0] []) (stz [(2,pt b1 0),(3,pt b2 0),(4,.bool false),(5,iv lim),(6,iv oth)]) w2 := by
   intro lim oth hce
   refine Zh 6 [.c 0 1,.c 1 3] hM8 trivial ?_
   refine Zl 0 E53 (place_any c.node p.nodes.length w2) ?_
   rintro _ _ ⟨rfl,rfl⟩
   by_cases g0 : (placeB c.node p.nodes.length) = true
   ·refine Zw 0 24 (.bool (placeB c.node p.nodes.length)) (.bool true) (by rw [show (placeB c.node p.nodes.length) = true from g0] <;> rfl) ?_
    refine Zh 6 [.xt,.xt,.c 0 2,.xt,.xt,.c 1 5,.xt] hM8 trivial ?_
    refine Zo 0 [.exec] _ [true = true] (A1 rfl) (runs_call E53 (place_any c.dest p.dests.length w2)) ?_
    rintro _ _ ⟨rfl,rfl⟩
    by_cases g1 : (placeB c.dest p.dests.length) = true
    ·refine Zw 0 31 (.bool (placeB c.dest p.dests.length)) (.bool true) (by rw [show (placeB c.dest p.dests.length) = true from g1] <;> rfl) ?_
     refine Zh 5 [.xt,.xt,.c 0 3,.xt] hM8 trivial ?_
     refine Zo 0 [.exec] _ [true = true] (A1 rfl) (runs_call E29 (within_any c.limit 0 lim w2)) ?_
     rintro _ _ ⟨rfl,rfl⟩
     by_cases g2 : (withinB c.limit 0 lim) = true
     ·refine Zw 0 37 (.bool (withinB c.limit 0 lim)) (.bool true) (by rw [show (withinB c.limit 0 lim) = true from g2] <;> rfl) ?_
      refine Zh 5 [.xt,.xt,.c 0 4,.xt] hM8 trivial ?_
      refine Zo 0 [.exec] _ [true = true] (A1 rfl) (runs_call E53 (place_any c.other oth w2)) ?_
      rintro _ _ ⟨rfl,rfl⟩
      exact Z1 3 (.bool (placeB c.other oth)) (⟨by rw [hce]; unfold checkR; simp [g0,g1,g2],hE7⟩)
     refine Zw 0 37 (.bool (withinB c.limit 0 lim)) (.bool false) (by rw [show (withinB c.limit 0 lim) = false from Bool.eq_false_iff.2 g2] <;> rfl) ?_
     refine Zi 9 [.sf,.sf,.sf,.sf,.g 0] [false = false] (A1 rfl) [] trivial ?_
     exact Z1 0 (.bool false) (⟨by rw [hce]; unfold checkR; simp [g0,g1,g2],hE7⟩)
    refine Zw 0 31 (.bool (placeB c.dest p.dests.length)) (.bool false) (by rw [show (placeB c.dest p.dests.length) = false from Bool.eq_false_iff.2 g1] <;> rfl) ?_
    refine Zi 15 [.sf,.sf,.sf,.sf,.sf,.sf,.sf,.sf,.g 0,.g 1] [false = (!true),false = false] (AC rfl (A1 rfl)) [] trivial ?_
    exact Z1 0 (.bool false) (⟨by rw [hce]; unfold checkR; simp [g0,g1],hE7⟩)
   refine Zw 0 24 (.bool (placeB c.node p.nodes.length)) (.bool false) (by rw [show (placeB c.node p.nodes.length) = false from Bool.eq_false_iff.2 g0] <;> rfl) ?_
   refine Zi 22 [.sf,.sf,.sf,.sf,.sf,.sf,.sf,.sf,.sf,.sf,.sf,.sf,.sf,.sf,.g 0,.g 0,.g 1] [false = (!true),false = false] (AC rfl (A1 rfl)) [] trivial ?_
   exact Z1 0 (.bool false) (⟨by rw [hce]; unfold checkR; simp [g0],hE7⟩)
 refine Zq 0 ((c.kind : Int) = (1 : Int)) (fun h1 => ?_) (fun h1 => ?_)
 ·refine Zz 3 (kAt Y27 [1,1,1,0] []) [(2,pt b1 0),(3,pt b2 0),(4,.bool false),(5,iv 0),(6,iv 1)] ?_
  exact tl (0) (1) (by unfold checkB checkN; rw [if_pos h1])
 refine Zq 5 ((c.kind : Int) = (2 : Int)) (fun h2 => ?_) (fun h2 => ?_)
 ·refine Zz 5 (kAt Y27 [1,1,1,0] []) [(2,pt b1 0),(3,pt b2 0),(4,.bool false),(5,iv 65535),(6,iv 1)] ?_
  exact tl (65535) (1) (by unfold checkB checkN; rw [if_neg h1,if_pos h2])
 refine Zq 6 ((c.kind : Int) = (3 : Int)) (fun h3 => ?_) (fun h3 => ?_)
 ·refine Zh 10 [.p (fun _ => (decide ((c.kind : Int) = (3 : Int))) = true),.x,.c 1 3] hM8 (A1 (decide_eq_true h3)) ?_
  refine Zz 0 (kAt Y27 [1,1,1,0] []) [(2,pt b1 0),(3,pt b2 0),(4,.bool false),(5,iv 0),(6,iv (p.nodes.length:Int))] ?_
  exact tl (0) (p.nodes.length) (by unfold checkB checkN; rw [if_neg h1,if_neg h2,if_pos (.inl h3)])
 refine Zq 4 ((c.kind : Int) = (4 : Int)) (fun h4 => ?_) (fun h4 => ?_)
 ·refine Zh 8 [.c 1 3] hM8 trivial ?_
  refine Zz 0 (kAt Y27 [1,1,1,0] []) [(2,pt b1 0),(3,pt b2 0),(4,.bool false),(5,iv 0),(6,iv (p.nodes.length:Int))] ?_
  exact tl (0) (p.nodes.length) (by unfold checkB checkN; rw [if_neg h1,if_neg h2,if_pos (.inr h4)])
 exact Z1 4 (.bool false) (⟨by unfold checkB checkN; simp [h1,h2,h3,h4],hE7⟩)

set_option maxRecDepth 20000 in
theorem right1_any (p : PPlan) (q : PAd) (x : DA) (b0 : Nat) (w : World) (hb : w.heap[b0]? = some (.cells #[iv p.proto,iv p.cap,iv p.k,.slice q.a1 p.nodes.length q.c1,.slice q.a2 p.links.length q.c2,.slice q.a3 p.dests.length q.c3,.slice q.a4 p.checks.length q.c4] 29 (0,0))) (ho : Cells w x.a (x.d.origins.flatMap intCells)) (hl : x.d.origins.length ≤ 140737488355328) :
    Does Tryz.prog 24 [(vD x),pt b0 0] w (fun v w' => v = .bool (!destB x.d p.nodes.length) ∧ Ext w w') := by
 refine startZ (c := Y24) Tryz.func24 rfl (by kernel_rfl) ?_
 show H _ 10 [] _ (kAt Y24 [] []) (stz [(0,(vD x)),(1,pt b0 0)]) w
 have hE1 : Ext w w := Ext.refl w
 have hM2 : Hold w w.heap.size [] := Hold.nil hE1.le
 refine Zb 2 49 (vD x) [sv x.d.name,.slice x.a x.d.origins.length x.c] hE1 hM2 ?_
 intro b1 w1 hE4 hM5
 refine Zs 8 [.ld (vD x),.ld (.slice q.a1 p.nodes.length q.c1)] [cl w1 b1 0 (sv x.d.name),cl w1 b1 1 (.slice x.a x.d.origins.length x.c),cl w1 b0 3 (.slice q.a1 p.nodes.length q.c1)] (AC (cell_of (hM5.blk 0 rfl) rfl) (AC (cell_of (hM5.blk 0 rfl) rfl) (A1 (hE4.cell (cell_of hb rfl))))) ?_
 refine Zl 0 E25 (dest_any x.d x.a x.c p.nodes.length w1 (ho.ext hE4) hl) ?_
 rintro _ w2 ⟨rfl,hx⟩
 obtain ⟨hE6,hM7⟩ := Xt hE4 hM5 hx
 exact Z1 3 (.bool (!(destB x.d p.nodes.length))) (⟨rfl,hE6⟩)

set_option maxRecDepth 20000 in
theorem right2_any (p : PPlan) (q : PAd) (c : PCheck) (b0 : Nat) (w : World) (hb : w.heap[b0]? = some (.cells #[iv p.proto,iv p.cap,iv p.k,.slice q.a1 p.nodes.length q.c1,.slice q.a2 p.links.length q.c2,.slice q.a3 p.dests.length q.c3,.slice q.a4 p.checks.length q.c4] 29 (0,0))) :
    Does Tryz.prog 26 [(vC c),pt b0 0] w (fun v w' => v = .bool (!checkB p c) ∧ Ext w w') := by
 refine startZ (c := Y26) Tryz.func26 rfl (by kernel_rfl) ?_
 show H _ 8 [] _ (kAt Y26 [] []) (stz [(0,(vC c)),(1,pt b0 0)]) w
 have hE1 : Ext w w := Ext.refl w
 have hM2 : Hold w w.heap.size [] := Hold.nil hE1.le
 refine Zb 2 51 (vC c) [iv c.kind,iv c.node,iv c.dest,iv c.limit,iv c.other] hE1 hM2 ?_
 intro b1 w1 hE4 hM5
 refine Zs 6 [.ld (pv p q),.ld (vC c)] [cl w1 b0 0 (iv p.proto),cl w1 b0 1 (iv p.cap),cl w1 b0 2 (iv p.k),cl w1 b0 3 (.slice q.a1 p.nodes.length q.c1),cl w1 b0 4 (.slice q.a2 p.links.length q.c2),cl w1 b0 5 (.slice q.a3 p.dests.length q.c3),cl w1 b0 6 (.slice q.a4 p.checks.length q.c4),cl w1 b1 0 (iv c.kind),cl w1 b1 1 (iv c.node),cl w1 b1 2 (iv c.dest),cl w1 b1 3 (iv c.limit),cl w1 b1 4 (iv c.other)] (AC (hE4.cell (cell_of hb rfl)) (AC (hE4.cell (cell_of hb rfl)) (AC (hE4.cell (cell_of hb rfl)) (AC (hE4.cell (cell_of hb rfl)) (AC (hE4.cell (cell_of hb rfl)) (AC (hE4.cell (cell_of hb rfl)) (AC (hE4.cell (cell_of hb rfl)) (AC (cell_of (hM5.blk 0 rfl) rfl) (AC (cell_of (hM5.blk 0 rfl) rfl) (AC (cell_of (hM5.blk 0 rfl) rfl) (AC (cell_of (hM5.blk 0 rfl) rfl) (A1 (cell_of (hM5.blk 0 rfl) rfl))))))))))))) ?_
 refine Zl 0 E27 (check_any p q c w1) ?_
 rintro _ w2 ⟨rfl,hx⟩
 obtain ⟨hE6,hM7⟩ := Xt hE4 hM5 hx
 exact Z1 3 (.bool (!(checkB p c))) (⟨rfl,hE6⟩)

set_option maxRecDepth 20000 in
theorem node1_any (x : PNode) (b0 : Nat) (nm : Bytes) (w : World) (hb : w.heap[b0]? = some (.cells #[sv nm] 9 (0,0))) :
    Does Tryz.prog 46 [(vN x),pt b0 0] w (fun v w' => v = .bool (decide (x.name = nm)) ∧ Ext w w') := by
 refine startZ (c := Y46) Tryz.func46 rfl (by kernel_rfl) ?_
 show H _ 8 [] _ (kAt Y46 [] []) (stz [(0,(vN x)),(1,pt b0 0)]) w
 have hE1 : Ext w w := Ext.refl w
 have hM2 : Hold w w.heap.size [] := Hold.nil hE1.le
 refine Zb 2 41 (vN x) [sv x.name,iv x.asn] hE1 hM2 ?_
 intro b1 w1 hE4 hM5
 refine Zh 10 [.c 0 0,.p (fun _ => w1.cell? ⟨b0,0,none⟩ = some (sv nm)),.v (sv nm)] hM5 (A1 (hE4.cell (cell_of hb rfl))) ?_
 exact Z1 0 (.bool (decide (x.name = nm))) (⟨rfl,hE4⟩)

set_option maxRecDepth 20000 in
theorem dest1_any (x : DA) (b0 : Nat) (nm : Bytes) (w : World) (hb : w.heap[b0]? = some (.cells #[sv nm] 9 (0,0))) :
    Does Tryz.prog 48 [(vD x),pt b0 0] w (fun v w' => v = .bool (decide (x.d.name = nm)) ∧ Ext w w') := by
 refine startZ (c := Y48) Tryz.func48 rfl (by kernel_rfl) ?_
 show H _ 8 [] _ (kAt Y48 [] []) (stz [(0,(vD x)),(1,pt b0 0)]) w
 have hE1 : Ext w w := Ext.refl w
 have hM2 : Hold w w.heap.size [] := Hold.nil hE1.le
 refine Zb 2 49 (vD x) [sv x.d.name,.slice x.a x.d.origins.length x.c] hE1 hM2 ?_
 intro b1 w1 hE4 hM5
 refine Zh 10 [.c 0 0,.p (fun _ => w1.cell? ⟨b0,0,none⟩ = some (sv nm)),.v (sv nm)] hM5 (A1 (hE4.cell (cell_of hb rfl))) ?_
 exact Z1 0 (.bool (decide (x.d.name = nm))) (⟨rfl,hE4⟩)

set_option maxRecDepth 20000 in
theorem Node_any (p : PPlan) (q : PAd) (nm : Bytes) (w : World) (hP : PlanAt w p q) :
    Does Tryz.prog 13 [(pv p q),sv nm] w (fun v w' => v = .int .i64 (idxI (fun x => decide (x.name = nm)) p.nodes) ∧ Ext w w') := by
 refine startZ (c := Y13) Tryz.func13 rfl (by kernel_rfl) ?_
 show H _ 9 [] _ (kAt Y13 [] []) (stz [(0,(pv p q)),(1,sv nm)]) w
 have hE1 : Ext w w := Ext.refl w
 have hM2 : Hold w w.heap.size [] := Hold.nil hE1.le
 refine Zb 2 29 (pv p q) (pc p q) hE1 hM2 ?_
 intro b1 w1 hE4 hM5
 refine Zb 0 9 (sv nm) [sv nm] hE4 hM5 ?_
 intro b2 w2 hE7 hM8
 refine Zh 7 [.c 1 3] hM8 trivial ?_
 refine Zl 0 E45 (idxNode1 p.nodes q.a1 q.c1 46 b2 (fun x => decide (x.name = nm)) w2 E46 (fun k hk w' hx => node1_any _ b2 nm w' (hx.heap (hM8.blk 0 rfl))) (hP.nodes.ext hE7) (by have := hP.l1; omega)) ?_
 rintro _ w3 ⟨rfl,hx⟩
 obtain ⟨hE9,hM10⟩ := Xt hE7 hM8 hx
 exact Z1 2 (iv (idxI (fun x => decide (x.name = nm)) p.nodes)) (⟨rfl,hE9⟩)

theorem idxI_map {α β : Type} (f : α → β) (p : β → Bool) (l : List α) : idxI (fun x => p (f x)) l = idxI p (l.map f) := by
  unfold idxI
  rw [List.findIdx?_map]
  rfl

set_option maxRecDepth 20000 in
theorem Dest_any (p : PPlan) (q : PAd) (nm : Bytes) (w : World) (hP : PlanAt w p q) :
    Does Tryz.prog 15 [(pv p q),sv nm] w (fun v w' => v = .int .i64 (idxI (fun x => decide (x.name = nm)) p.dests) ∧ Ext w w') := by
 refine startZ (c := Y15) Tryz.func15 rfl (by kernel_rfl) ?_
 show H _ 9 [] _ (kAt Y15 [] []) (stz [(0,(pv p q)),(1,sv nm)]) w
 have hq := hP.dlen
 have hE1 : Ext w w := Ext.refl w
 have hM2 : Hold w w.heap.size [] := Hold.nil hE1.le
 refine Zb 2 29 (pv p q) (pc p q) hE1 hM2 ?_
 intro b1 w1 hE4 hM5
 refine Zb 0 9 (sv nm) [sv nm] hE4 hM5 ?_
 intro b2 w2 hE7 hM8
 refine Zh 7 [.c 1 5] hM8 trivial ?_
 refine Zz 0 (kOp Y15 [1,0] 3 []) [(4,iv 0),(6,.slice q.a3 p.dests.length q.c3),(7,.func (.func 48) #[] #[pt b2 0])] ?_
 rw [← hq]
 refine Zl 0 E47 (idxDest1 q.ds q.a3 q.c3 48 b2 (fun x => decide (x.d.name = nm)) w2 E48 (fun k hk w' hx => dest1_any _ b2 nm w' (hx.heap (hM8.blk 0 rfl))) (hP.dests.ext hE7) (by have := hP.l3; omega)) ?_
 rintro _ w3 ⟨rfl,hx⟩
 obtain ⟨hE9,hM10⟩ := Xt hE7 hM8 hx
 exact Z1 2 (iv (idxI (fun x => decide (x.d.name = nm)) q.ds)) (⟨by rw [idxI_map (fun x : DA => x.d) (fun x => decide (x.name = nm)),hP.deq],hE9⟩)

set_option maxRecDepth 20000 in
theorem same1_any (x y : DA) (w : World) (ho : Cells w x.a (x.d.origins.flatMap intCells)) (hp : Cells w y.a (y.d.origins.flatMap intCells)) (hl : x.d.origins.length ≤ 140737488355328) :
    Does Tryz.prog 39 [(vD x),(vD y)] w (fun v w' => v = .bool (decide (x.d = y.d)) ∧ Ext w w') := by
 refine startZ (c := Y39) Tryz.func39 rfl (by kernel_rfl) ?_
 show H _ 17 [] _ (kAt Y39 [] []) (stz [(0,(vD x)),(1,(vD y))]) w
 have hE1 : Ext w w := Ext.refl w
 have hM2 : Hold w w.heap.size [] := Hold.nil hE1.le
 refine Zb 2 49 (vD x) [sv x.d.name,.slice x.a x.d.origins.length x.c] hE1 hM2 ?_
 intro b1 w1 hE4 hM5
 refine Zb 0 49 (vD y) [sv y.d.name,.slice y.a y.d.origins.length y.c] hE4 hM5 ?_
 intro b2 w2 hE7 hM8
 refine Zf 14 [.c 1 0,.c 0 0,.gn 0,.y,.y,.gc 0 1 1,.gn 0,.y,.y,.gc 0 0 1] hM8 [] trivial [decide (x.d.name = y.d.name)] trivial ?_
 by_cases h1 : x.d.name = y.d.name
 ·refine Zo 0 [.exec] _ [(decide (x.d.name = y.d.name)) = true,(decide (x.d.name = y.d.name)) = true,(decide (x.d.name = y.d.name)) = true] (AC (decide_eq_true h1) (AC (by simp_all) (A1 (by simp_all)))) (runs_call E40 (eqInt x.d.origins y.d.origins x.a y.a x.c y.c w2 (ho.ext hE7) (hp.ext hE7) hl)) ?_
  rintro _ w3 ⟨rfl,hx⟩
  obtain ⟨hE9,hM10⟩ := Xt hE7 hM8 hx
  exact Z1 3 (.bool ((decide (x.d.name = y.d.name)) && (decide (x.d.origins = y.d.origins)))) (⟨by congr 1; rw [Bool.eq_iff_iff]; simp only [Bool.and_eq_true,decide_eq_true_eq,destEq],hE9⟩)
 refine Zs 4 [.skip] [(decide (x.d.name = y.d.name)) = (!true),(decide (x.d.name = y.d.name)) = false] (AC (decide_eq_false h1) (A1 (decide_eq_false h1))) ?_
 exact Z1 0 (.bool false) (⟨by rw [decide_eq_false (fun e => h1 (by rw [e]))],hE7⟩)

def eqDestL (xs ys : List DA) (a a' : Option Addr) (c c' : Nat) (w : World) : Lp Nat where
  S := fun k => [(1,none,.slice a' ys.length (c')),(2,none,.func (.func 39) #[] #[]),(15,none,.slice a xs.length c),(16,none,iv (xs.length:Int)),(17,none,iv (k:Int))]
  J := fun k w' => Ext w w' ∧ k ≤ xs.length ∧ ∀ j,j < k → (xs.getD j d0A).d = (ys.getD j d0A).d
  M := fun k => xs.length - k
set_option maxRecDepth 20000 in
theorem eqDest (xs ys : List DA) (a a' : Option Addr) (c c' : Nat) (w : World) (hc : Cells w a (xs.flatMap destC)) (hc' : Cells w a' (ys.flatMap destC)) (hl : xs.length ≤ 140737488355328) (ho : ∀ x ∈ xs,Cells w x.a (x.d.origins.flatMap intCells) ∧ x.d.origins.length ≤ x.c ∧ x.d.origins.length ≤ 140737488355328) (hp : ∀ x ∈ ys,Cells w x.a (x.d.origins.flatMap intCells)) :
    Does Tryz.prog 43 [.slice a xs.length c,.slice a' ys.length (c'),.func (.func 39) #[] #[]] w (fun v w' => v = .bool (decide (xs.map (·.d) = ys.map (·.d))) ∧ Ext w w') := by
 refine startZ (c := Y43) Tryz.func43 rfl (by kernel_rfl) ?_
 show H _ 32 [] _ (kAt Y43 [] []) (stz [(0,.slice a xs.length c),(1,.slice a' ys.length (c')),(2,.func (.func 39) #[] #[])]) w
 have hE1 : Ext w w := Ext.refl w
 refine Zr 13 _ (¬ ((xs.length:Int) = (ys.length:Int))) ((iffNot iffDec)) (fun h0 => ?_) (fun h0 => ?_)
 ·exact Z1 4 (.bool false) (⟨by rw [decide_eq_false (fun e => h0 (by have := congrArg List.length e; simp at this; omega))],hE1⟩)
 have h0 : xs.length = ys.length := by omega
 refine Zs 9 [] [] trivial ?_
 refine ZLoop (eqDestL xs ys a a' c c' w) (k' := (kEnd Y43 [1,1,0,1,0] [])) (body := (cAt Y43 [1,1,0,1,0,0])) (by kernel_rfl) 0 [1,2,15,16,17] (by kernel_rfl) (⟨hE1,by omega,fun j h => by omega⟩) ?_
 rintro k w0 ⟨K1,hk,hq⟩
 refine Zq 5 ((k:Int) < (xs.length:Int)) (fun h1 => ?_) (fun h1 => ?_)
 ·have hk2 : k < xs.length := by omega
  have hk3 : k < ys.length := by omega
  have ha := hc.addrE destC_len (by decide) hk2
  have hb := hc'.addrE destC_len (by decide) hk3
  have hM2 : Hold w0 w.heap.size [] := Hold.nil K1.le
  refine Zs 8 [.ld (vD (xs.getD k d0A))] [(0 ≤ (k:Int) ∧ (k:Int) < (xs.length:Int)),(a : Option Addr) = some ⟨(slB a),slO a,none⟩,cl w0 (slB a) (slO a + k * 2) (sv ((xs.getD k d0A).d.name)),cl w0 (slB a) (slO a + k * 2 + 1) (.slice (xs.getD k d0A).a ((xs.getD k d0A).d.origins.length) ((xs.getD k d0A).c))] (AC (by omega) (AC (by assumption) (AC (K1.cell (cellAt destC_len d0A hc hk2 (j := 0) rfl)) (A1 (K1.cell (cellAt destC_len d0A hc hk2 (j := 1) rfl)))))) ?_
  refine Za 0 49 [sv ([]),.slice none 0 0] K1 hM2 ?_
  intro b8 w1 hE4 hM5
  refine Zt 1 0 0 (vD (xs.getD k d0A)) rfl hE4 hM5 ?_
  intro w2 hE7 hM8
  refine Zs 7 [.ld (vD (ys.getD k d0A))] [(0 ≤ (k:Int) ∧ (k:Int) < (ys.length:Int)),(a' : Option Addr) = some ⟨(slB a'),slO a',none⟩,cl w2 (slB a') (slO a' + k * 2) (sv ((ys.getD k d0A).d.name)),cl w2 (slB a') (slO a' + k * 2 + 1) (.slice (ys.getD k d0A).a ((ys.getD k d0A).d.origins.length) ((ys.getD k d0A).c))] (AC (by omega) (AC (by assumption) (AC (hE7.cell (cellAt destC_len d0A hc' hk3 (j := 0) rfl)) (A1 (hE7.cell (cellAt destC_len d0A hc' hk3 (j := 1) rfl)))))) ?_
  refine Za 0 49 [sv ([]),.slice none 0 0] hE7 hM8 ?_
  intro b9 w3 hE10 hM11
  refine Zt 0 0 0 (vD (ys.getD k d0A)) rfl hE10 hM11 ?_
  intro w4 hE13 hM14
  refine Zh 6 [.a 1 0 2,.a 0 0 2] hM14 trivial ?_
  refine Zl 0 E39 (same1_any (xs.getD k d0A) (ys.getD k d0A) w4 ((ho _ (getD_mem' _ hk2)).1.ext hE13) ((hp _ (getD_mem' _ hk3)).ext hE13) (by have := (ho _ (getD_mem' d0A hk2)).2; omega)) ?_
  rintro _ w5 ⟨rfl,hx⟩
  obtain ⟨hE15,hM16⟩ := Xt hE13 hM14 hx
  refine Zr 2 _ (¬ ((xs.getD k d0A).d = (ys.getD k d0A).d)) ((iffNot iffDec)) (fun h2 => ?_) (fun h2 => ?_)
  ·exact Z1 4 (.bool false) (⟨by rw [decide_eq_false (fun e => h2 (by have h4 := congrArg (fun l => l.getD k d0D) e; simpa [List.getD_eq_getElem?_getD,List.getElem?_map,List.getElem?_eq_getElem hk2,List.getElem?_eq_getElem hk3] using h4))],hE15⟩)
  have h3 := Classical.not_not.1 h2
  refine Zs 6 [] [I64 ((k + 1:Nat):Int)] (A1 (i64 (by omega))) ?_
  exact ZA 0 (eqDestL xs ys a a' c c' w) k (k + 1) [1,2,15,16,17] (⟨hE15,by omega,fun j hj => by by_cases e : j = k; (subst e; exact h3); exact hq j (by omega)⟩) (show xs.length - (k + 1) < xs.length - k by omega)
 exact Z1 5 (.bool true) (⟨by rw [decide_eq_true (eq_of_getD d0D (by simpa using h0) (fun j hj => by have hj' : j < xs.length := (by simpa using hj); have h4 := hq j (by omega); simpa [List.getD_eq_getElem?_getD,List.getElem?_map,List.getElem?_eq_getElem hj',List.getElem?_eq_getElem (h0 ▸ hj')] using h4))],K1⟩)

set_option maxRecDepth 20000 in
theorem Same_any (p p' : PPlan) (q q' : PAd) (w : World) (hP : PlanAt w p q) (hQ : PlanAt w p' q') :
    Does Tryz.prog 11 [(pv p q),(pv p' q')] w (fun v w' => v = .bool (decide (p = p')) ∧ Ext w w') := by
 refine startZ (c := Y11) Tryz.func11 rfl (by kernel_rfl) ?_
 show H _ 54 [] _ (kAt Y11 [] []) (stz [(0,(pv p q)),(1,(pv p' q'))]) w
 have hq := hP.dlen
 have hr := hQ.dlen
 have hE1 : Ext w w := Ext.refl w
 have hM2 : Hold w w.heap.size [] := Hold.nil hE1.le
 refine Zb 2 29 (pv p q) (pc p q) hE1 hM2 ?_
 intro b1 w1 hE4 hM5
 refine Zb 0 29 (pv p' q') (pc p' q') hE4 hM5 ?_
 intro b2 w2 hE7 hM8
 refine Zf 32 [Ce.c 1 0,Ce.c 0 0,Ce.gn 0,Ce.y,Ce.y,Ce.gc 0 1 1,Ce.gn 0,Ce.y,Ce.y,Ce.gc 0 0 1,Ce.gn 0,Ce.gn 0,Ce.gn 0,Ce.gn 1,Ce.y,Ce.y,Ce.y,Ce.gc 1 1 2,Ce.gn 1,Ce.y,Ce.y,Ce.gc 1 0 2,Ce.gn 1,Ce.gn 1,Ce.gn 1,Ce.gn 2,Ce.y,Ce.y,Ce.y,Ce.gc 2 1 3,Ce.gn 2,Ce.y,Ce.y,Ce.gc 2 0 3] hM8 [] trivial [decide ((p.proto : Int) = p'.proto),(decide ((p.proto : Int) = p'.proto)) && (decide ((p.cap : Int) = p'.cap)),((decide ((p.proto : Int) = p'.proto)) && (decide ((p.cap : Int) = p'.cap))) && (decide ((p.k : Int) = p'.k))] trivial ?_
 by_cases h1 : (((p.proto : Int) = p'.proto) ∧ ((p.cap : Int) = p'.cap)) ∧ ((p.k : Int) = p'.k)
 ·refine Zo 0 [.exec] _ [(((decide ((p.proto : Int) = p'.proto)) && (decide ((p.cap : Int) = p'.cap))) && (decide ((p.k : Int) = p'.k))) = true,(((decide ((p.proto : Int) = p'.proto)) && (decide ((p.cap : Int) = p'.cap))) && (decide ((p.k : Int) = p'.k))) = true,(((decide ((p.proto : Int) = p'.proto)) && (decide ((p.cap : Int) = p'.cap))) && (decide ((p.k : Int) = p'.k))) = true] (AC (by simpa using h1) (AC (by simp_all) (A1 (by simp_all)))) (runs_call E41 (eqNode p.nodes p'.nodes q.a1 q'.a1 q.c1 q'.c1 w2 (hP.nodes.ext hE7) (hQ.nodes.ext hE7) (by have := hP.l1; omega))) ?_
  rintro _ vh1 ⟨rfl,hxh1⟩
  obtain ⟨hE9,hM10⟩ := Xt hE7 hM8 hxh1
  refine Zf 6 [.gn 0,.y,.y,.gc 0 1 4,.gn 0,.y,.y,.gc 0 0 4] hM10 [] trivial [(((decide ((p.proto : Int) = p'.proto)) && (decide ((p.cap : Int) = p'.cap))) && (decide ((p.k : Int) = p'.k))) && (decide (p.nodes = p'.nodes))] trivial ?_
  by_cases h2 : ((((p.proto : Int) = p'.proto) ∧ ((p.cap : Int) = p'.cap)) ∧ ((p.k : Int) = p'.k)) ∧ (p.nodes = p'.nodes)
  ·refine Zo 0 [.exec] _ [((((decide ((p.proto : Int) = p'.proto)) && (decide ((p.cap : Int) = p'.cap))) && (decide ((p.k : Int) = p'.k))) && (decide (p.nodes = p'.nodes))) = true,((((decide ((p.proto : Int) = p'.proto)) && (decide ((p.cap : Int) = p'.cap))) && (decide ((p.k : Int) = p'.k))) && (decide (p.nodes = p'.nodes))) = true,((((decide ((p.proto : Int) = p'.proto)) && (decide ((p.cap : Int) = p'.cap))) && (decide ((p.k : Int) = p'.k))) && (decide (p.nodes = p'.nodes))) = true] (AC (by simpa using h2) (AC (by simp_all) (A1 (by simp_all)))) (runs_call E42 (eqLink p.links p'.links q.a2 q'.a2 q.c2 q'.c2 vh1 (hP.links.ext hE9) (hQ.links.ext hE9) (by have := hP.l2; omega))) ?_
   rintro _ vh2 ⟨rfl,hxh2⟩
   obtain ⟨hE11,hM12⟩ := Xt hE9 hM10 hxh2
   refine Zf 7 [.gn 0,.y,.y,.gc 0 1 5,.gn 0,.y,.y,.gc 0 0 5,.y] hM12 [] trivial [((((decide ((p.proto : Int) = p'.proto)) && (decide ((p.cap : Int) = p'.cap))) && (decide ((p.k : Int) = p'.k))) && (decide (p.nodes = p'.nodes))) && (decide (p.links = p'.links))] trivial ?_
   by_cases h3 : (((((p.proto : Int) = p'.proto) ∧ ((p.cap : Int) = p'.cap)) ∧ ((p.k : Int) = p'.k)) ∧ (p.nodes = p'.nodes)) ∧ (p.links = p'.links)
   ·refine Zo 0 [.exec] (.call 43 [.slice q.a3 p.dests.length q.c3,.slice q'.a3 (p'.dests.length) (q'.c3),.func (.func 39) #[] #[]]) [(((((decide ((p.proto : Int) = p'.proto)) && (decide ((p.cap : Int) = p'.cap))) && (decide ((p.k : Int) = p'.k))) && (decide (p.nodes = p'.nodes))) && (decide (p.links = p'.links))) = true,(((((decide ((p.proto : Int) = p'.proto)) && (decide ((p.cap : Int) = p'.cap))) && (decide ((p.k : Int) = p'.k))) && (decide (p.nodes = p'.nodes))) && (decide (p.links = p'.links))) = true,(((((decide ((p.proto : Int) = p'.proto)) && (decide ((p.cap : Int) = p'.cap))) && (decide ((p.k : Int) = p'.k))) && (decide (p.nodes = p'.nodes))) && (decide (p.links = p'.links))) = true,(((((decide ((p.proto : Int) = p'.proto)) && (decide ((p.cap : Int) = p'.cap))) && (decide ((p.k : Int) = p'.k))) && (decide (p.nodes = p'.nodes))) && (decide (p.links = p'.links))) = true] (AC (by simpa using h3) (AC (by simp_all) (AC (by simp_all) (A1 (by simp_all))))) (runs_call E43 (by have h := eqDest q.ds q'.ds q.a3 q'.a3 q.c3 q'.c3 vh2 (hP.dests.ext hE11) (hQ.dests.ext hE11) (by have := hP.l3; omega) (fun x hx => ⟨(hP.orig x hx).1.ext hE11,(hP.orig x hx).2⟩) (fun x hx => (hQ.orig x hx).1.ext hE11); rw [hq,hr,hP.deq,hQ.deq] at h; exact h)) ?_
    rintro _ vh3 ⟨rfl,hxh3⟩
    obtain ⟨hE13,hM14⟩ := Xt hE11 hM12 hxh3
    refine Zf 6 [.gn 0,.y,.y,.gc 0 1 6,.gn 0,.y,.y,.gc 0 0 6] hM14 [] trivial [(((((decide ((p.proto : Int) = p'.proto)) && (decide ((p.cap : Int) = p'.cap))) && (decide ((p.k : Int) = p'.k))) && (decide (p.nodes = p'.nodes))) && (decide (p.links = p'.links))) && (decide (p.dests = p'.dests))] trivial ?_
    by_cases h4 : ((((((p.proto : Int) = p'.proto) ∧ ((p.cap : Int) = p'.cap)) ∧ ((p.k : Int) = p'.k)) ∧ (p.nodes = p'.nodes)) ∧ (p.links = p'.links)) ∧ (p.dests = p'.dests)
    ·refine Zo 0 [.exec] _ [((((((decide ((p.proto : Int) = p'.proto)) && (decide ((p.cap : Int) = p'.cap))) && (decide ((p.k : Int) = p'.k))) && (decide (p.nodes = p'.nodes))) && (decide (p.links = p'.links))) && (decide (p.dests = p'.dests))) = true,((((((decide ((p.proto : Int) = p'.proto)) && (decide ((p.cap : Int) = p'.cap))) && (decide ((p.k : Int) = p'.k))) && (decide (p.nodes = p'.nodes))) && (decide (p.links = p'.links))) && (decide (p.dests = p'.dests))) = true,((((((decide ((p.proto : Int) = p'.proto)) && (decide ((p.cap : Int) = p'.cap))) && (decide ((p.k : Int) = p'.k))) && (decide (p.nodes = p'.nodes))) && (decide (p.links = p'.links))) && (decide (p.dests = p'.dests))) = true] (AC (by simpa using h4) (AC (by simp_all) (A1 (by simp_all)))) (runs_call E44 (eqCheck p.checks p'.checks q.a4 q'.a4 q.c4 q'.c4 vh3 (hP.checks.ext hE13) (hQ.checks.ext hE13) (by have := hP.l4; omega))) ?_
     rintro _ vh4 ⟨rfl,hxh4⟩
     obtain ⟨hE15,hM16⟩ := Xt hE13 hM14 hxh4
     exact Z1 3 (.bool (((((((decide ((p.proto : Int) = p'.proto)) && (decide ((p.cap : Int) = p'.cap))) && (decide ((p.k : Int) = p'.k))) && (decide (p.nodes = p'.nodes))) && (decide (p.links = p'.links))) && (decide (p.dests = p'.dests))) && (decide (p.checks = p'.checks)))) (⟨by congr 1; rw [Bool.eq_iff_iff]; simp only [Bool.and_eq_true,decide_eq_true_eq,planEq]; exact ⟨fun ⟨⟨⟨⟨⟨⟨a,b⟩,c⟩,d⟩,e⟩,f⟩,g⟩ => ⟨a,b,c,d,e,f,g⟩,fun ⟨a,b,c,d,e,f,g⟩ => ⟨⟨⟨⟨⟨⟨a,b⟩,c⟩,d⟩,e⟩,f⟩,g⟩⟩,hE15⟩)
    refine Zs 4 [.skip] ((fun (z1 : Bool) => ([z1 = (!true),z1 = false] : List Prop)) ((((((decide ((p.proto : Int) = p'.proto)) && (decide ((p.cap : Int) = p'.cap))) && (decide ((p.k : Int) = p'.k))) && (decide (p.nodes = p'.nodes))) && (decide (p.links = p'.links))) && (decide (p.dests = p'.dests)))) (AC (by simpa using h4) (A1 (by simpa using h4))) ?_
    exact Z1 0 (.bool false) (⟨by rw [decide_eq_false (fun e => h4 (by subst e; simp))],hE13⟩)
   refine Zi 11 [.p (fun _ => (((((decide ((p.proto : Int) = p'.proto)) && (decide ((p.cap : Int) = p'.cap))) && (decide ((p.k : Int) = p'.k))) && (decide (p.nodes = p'.nodes))) && (decide (p.links = p'.links))) = (!true)),.p (fun _ => (((((decide ((p.proto : Int) = p'.proto)) && (decide ((p.cap : Int) = p'.cap))) && (decide ((p.k : Int) = p'.k))) && (decide (p.nodes = p'.nodes))) && (decide (p.links = p'.links))) = false),.sf,.sf,.sf,.sf,.sf,.sf] [] trivial [] (AC (by simpa using h3) (A1 (by simpa using h3))) ?_
   exact Z1 0 (.bool false) (⟨by rw [decide_eq_false (fun e => h3 (by subst e; simp))],hE11⟩)
  refine Zi 19 [.p (fun _ => ((((decide ((p.proto : Int) = p'.proto)) && (decide ((p.cap : Int) = p'.cap))) && (decide ((p.k : Int) = p'.k))) && (decide (p.nodes = p'.nodes))) = (!true)),.p (fun _ => ((((decide ((p.proto : Int) = p'.proto)) && (decide ((p.cap : Int) = p'.cap))) && (decide ((p.k : Int) = p'.k))) && (decide (p.nodes = p'.nodes))) = false),.sf,.sf,.sf,.sf,.sf,.sf,.sf,.sf,.sf,.sf,.sf,.sf,.g 0] [false = false] (A1 rfl) [] (AC (by simpa using h2) (A1 (by simpa using h2))) ?_
  exact Z1 0 (.bool false) (⟨by rw [decide_eq_false (fun e => h2 (by subst e; simp))],hE9⟩)
 refine Zi 26 [.p (fun _ => (((decide ((p.proto : Int) = p'.proto)) && (decide ((p.cap : Int) = p'.cap))) && (decide ((p.k : Int) = p'.k))) = (!true)),.p (fun _ => (((decide ((p.proto : Int) = p'.proto)) && (decide ((p.cap : Int) = p'.cap))) && (decide ((p.k : Int) = p'.k))) = false),.sf,.sf,.sf,.sf,.sf,.sf,.sf,.sf,.sf,.sf,.sf,.sf,.sf,.sf,.sf,.sf,.sf,.g 0,.g 1] [false = (!true),false = false] (AC rfl (A1 rfl)) [] (AC (by simpa using h1) (A1 (by simpa using h1))) ?_
 exact Z1 0 (.bool false) (⟨by rw [decide_eq_false (fun e => h1 (by subst e; simp))],hE7⟩)

end Go.Proofs.YtcbclephakfemaaGreatRRRDoor
