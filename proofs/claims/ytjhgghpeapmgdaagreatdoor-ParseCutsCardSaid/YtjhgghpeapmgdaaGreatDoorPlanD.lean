/-
  PLAN: contracts of nodes, check, of the closures, of Node, Dest and Same.
-/
import Derived.Test.YtjhgghpeapmgdaaGreatDoorPlanC
import Derived.Test.YtjhgghpeapmgdaaGreatDoorMore
import Derived.Test.YtjhgghpeapmgdaaGreatDoorLz
import Derived.Test.YtjhgghpeapmgdaaGreatDoorMg2
namespace Go.Proofs.YtjhgghpeapmgdaaGreatDoor
open Go.Bk Go.Proofs

theorem E43 : Proofs.Enters Tryz.prog 43 := Proofs.enters_of Tryz.func43 (by kernel_rfl) rfl

theorem E75 : Proofs.Enters Tryz.prog 75 := Proofs.enters_of Tryz.func75 (by kernel_rfl) rfl

theorem E40 : Proofs.Enters Tryz.prog 40 := Proofs.enters_of Tryz.func40 (by kernel_rfl) rfl

theorem E37 : Proofs.Enters Tryz.prog 37 := Proofs.enters_of Tryz.func37 (by kernel_rfl) rfl

theorem E39 : Proofs.Enters Tryz.prog 39 := Proofs.enters_of Tryz.func39 (by kernel_rfl) rfl

theorem E21 : Proofs.Enters Tryz.prog 21 := Proofs.enters_of Tryz.func21 (by kernel_rfl) rfl

theorem E59 : Proofs.Enters Tryz.prog 59 := Proofs.enters_of Tryz.func59 (by kernel_rfl) rfl

theorem E23 : Proofs.Enters Tryz.prog 23 := Proofs.enters_of Tryz.func23 (by kernel_rfl) rfl

theorem E61 : Proofs.Enters Tryz.prog 61 := Proofs.enters_of Tryz.func61 (by kernel_rfl) rfl

set_option maxRecDepth 20000 in
theorem nodes1_any (x : PNode) (w : World)  :
    Does Tryz.prog 75 [(vN x)] w (fun v w' => v = .bool (!asB x) ∧ Ext w w') := by
 refine startZ (c := Y75) Tryz.func75 rfl (by kernel_rfl) ?_
 show H _ 7 [] _ (kAt Y75 [] []) (stz [(0,(vN x))]) w
 have hE1 : Ext w w := Ext.refl w
 have hM2 : Hold w w.heap.size [] := Hold.nil hE1.le
 refine Zb 2 52 (vN x) [sv x.name,iv x.asn] hE1 hM2 ?_
 intro b1 w1 hE4 hM5
 refine Zh 6 [.c 0 1] hM5 trivial ?_
 refine Zl 0 E42 (within_any x.asn 1 65535 w1) ?_
 rintro _ _ ⟨rfl,rfl⟩
 exact Z1 3 (.bool (!(withinB x.asn 1 65535))) (⟨rfl,hE4⟩)

set_option maxRecDepth 20000 in
theorem nodes_any (p : PPlan) (q : PAd) (w : World) (hP : PlanAt w p q) :
    Does Tryz.prog 43 [(pv p q)] w (fun v w' => v = .bool (nodesB p) ∧ Ext w w') := by
 refine startZ (c := Y43) Tryz.func43 rfl (by kernel_rfl) ?_
 show H _ 15 [] _ (kAt Y43 [] []) (stz [(0,(pv p q))]) w
 have hE1 : Ext w w := Ext.refl w
 have hM2 : Hold w w.heap.size [] := Hold.nil hE1.le
 refine Zb 2 29 (pv p q) (pc p q) hE1 hM2 ?_
 intro b1 w1 hE4 hM5
 refine Zh 11 [.c 0 3] hM5 trivial ?_
 refine Zl 0 E42 (within_any p.nodes.length 1 12 w1) ?_
 rintro _ _ ⟨rfl,rfl⟩
 refine Zf 4 [.gn 0,.y,.y,.gc 0 0 3,.y] hM5 [] trivial [withinB p.nodes.length 1 12] trivial ?_
 by_cases h1 : (withinB p.nodes.length 1 12) = true
 ·refine Zo 0 [.exec] _ [(withinB p.nodes.length 1 12) = true,(withinB p.nodes.length 1 12) = true,(withinB p.nodes.length 1 12) = true] (AC h1 (AC (by simp_all) (A1 (by simp_all)))) (runs_call E76 (hasNode0 p.nodes q.a1 q.c1 75 (fun x => !asB x) w1 E75 (fun k hk w' hx => nodes1_any _ w') (hP.nodes.ext hE4) (by have := hP.l1; omega))) ?_
  rintro _ w2 ⟨rfl,hx⟩
  obtain ⟨hE6,hM7⟩ := Xt hE4 hM5 hx
  refine Zs 4 [.exec] [(withinB p.nodes.length 1 12) = true] (A1 h1) ?_
  exact Z1 0 (.bool ((withinB p.nodes.length 1 12) && (!(p.nodes.any fun x => !asB x)))) (⟨by unfold nodesB; rw [h1,notAny asB,Bool.true_and],hE6⟩)
 refine Zi 5 [.sg 0,.sg 0,.p (fun _ => (withinB p.nodes.length 1 12) = false)] [(withinB p.nodes.length 1 12) = (!true)] (A1 (Bool.eq_false_iff.2 h1)) [] (A1 (Bool.eq_false_iff.2 h1)) ?_
 exact Z1 0 (.bool false) (⟨by unfold nodesB; rw [Bool.eq_false_iff.2 h1]; rfl,hE4⟩)

set_option maxRecDepth 20000 in
theorem check_any (p : PPlan) (q : PAd) (c : PCheck) (w : World)  :
    Does Tryz.prog 40 [(pv p q),(vC c)] w (fun v w' => v = .bool (checkB p c) ∧ Ext w w') := by
 refine startZ (c := Y40) Tryz.func40 rfl (by kernel_rfl) ?_
 show H _ 45 [] _ (kAt Y40 [] []) (stz [(0,(pv p q)),(1,(vC c))]) w
 have hE1 : Ext w w := Ext.refl w
 have hM2 : Hold w w.heap.size [] := Hold.nil hE1.le
 refine Zb 2 29 (pv p q) (pc p q) hE1 hM2 ?_
 intro b1 w1 hE4 hM5
 refine Zb 0 67 (vC c) [iv c.kind,iv c.node,iv c.dest,iv c.limit,iv c.other] hE4 hM5 ?_
 intro b2 w2 hE7 hM8
 refine Zh 19 [.c 0 0] hM8 trivial ?_
 have tl : ∀ (lim oth : Int),checkB p c = checkR p.nodes.length p.dests.length c lim oth → H Tryz.prog 45 [] (bodyPost Tryz.prog Tryz.f40 (Ret fun v w' => v = .bool (checkB p c) ∧ Ext w w')) (kAt Y40 [1,1,1,0] []) (stz [(2,pt b1 0),(3,pt b2 0),(4,.bool false),(5,iv lim),(6,iv oth)]) w2 := by
   intro lim oth hce
   refine Zh 6 [.c 0 1,.c 1 3] hM8 trivial ?_
   refine Zl 0 E74 (place_any c.node p.nodes.length w2) ?_
   rintro _ _ ⟨rfl,rfl⟩
   by_cases g0 : (placeB c.node p.nodes.length) = true
   ·refine Zw 0 24 (.bool (placeB c.node p.nodes.length)) (.bool true) (by rw [show (placeB c.node p.nodes.length) = true from g0] <;> rfl) ?_
    refine Zh 6 [.xt,.xt,.c 0 2,.xt,.xt,.c 1 5,.xt] hM8 trivial ?_
    refine Zo 0 [.exec] _ [true = true] (A1 rfl) (runs_call E74 (place_any c.dest p.dests.length w2)) ?_
    rintro _ _ ⟨rfl,rfl⟩
    by_cases g1 : (placeB c.dest p.dests.length) = true
    ·refine Zw 0 31 (.bool (placeB c.dest p.dests.length)) (.bool true) (by rw [show (placeB c.dest p.dests.length) = true from g1] <;> rfl) ?_
     refine Zh 5 [.xt,.xt,.c 0 3,.xt] hM8 trivial ?_
     refine Zo 0 [.exec] _ [true = true] (A1 rfl) (runs_call E42 (within_any c.limit 0 lim w2)) ?_
     rintro _ _ ⟨rfl,rfl⟩
     by_cases g2 : (withinB c.limit 0 lim) = true
     ·refine Zw 0 37 (.bool (withinB c.limit 0 lim)) (.bool true) (by rw [show (withinB c.limit 0 lim) = true from g2] <;> rfl) ?_
      refine Zh 5 [.xt,.xt,.c 0 4,.xt] hM8 trivial ?_
      refine Zo 0 [.exec] _ [true = true] (A1 rfl) (runs_call E74 (place_any c.other oth w2)) ?_
      rintro _ _ ⟨rfl,rfl⟩
      exact Z1 3 (.bool (placeB c.other oth)) (⟨by rw [hce]; unfold checkR; simp [g0,g1,g2],hE7⟩)
     refine Zw 0 37 (.bool (withinB c.limit 0 lim)) (.bool false) (by rw [show (withinB c.limit 0 lim) = false from Bool.eq_false_iff.2 g2] <;> rfl) ?_
     refine Zi 9 [.sf,.sf,.sf,.sf,.g 0] [false = false] (A1 rfl) [] trivial ?_
     exact Z1 0 (.bool false) (⟨by rw [hce]; unfold checkR; simp [g0,g1,g2],hE7⟩)
    refine Zw 0 31 (.bool (placeB c.dest p.dests.length)) (.bool false) (by rw [show (placeB c.dest p.dests.length) = false from Bool.eq_false_iff.2 g1] <;> rfl) ?_
    refine Zi 15 [.sf,.sf,.sf,.sf,.sf,.sf,.sf,.sf,.g 0,.g 1] [false = (!true),false = false] (AC rfl (A1 rfl)) [] trivial ?_
    exact Z1 0 (.bool false) (⟨by rw [hce]; unfold checkR; simp [g0,g1],hE7⟩)
   refine Zw 0 24 (.bool (placeB c.node p.nodes.length)) (.bool false) (by rw [show (placeB c.node p.nodes.length) = false from Bool.eq_false_iff.2 g0] <;> rfl) ?_
   refine Zi 22 [.sf,.sf,.sf,.sf,.sf,.sf,.sf,.sf,.sf,.sf,.sf,.sf,.sf,.sf,.g 0,.g 0,.g 1] [false = (!true),false = false] (AC rfl (A1 rfl)) [] trivial ?_
   exact Z1 0 (.bool false) (⟨by rw [hce]; unfold checkR; simp [g0],hE7⟩)
 refine Zq 0 ((c.kind : Int) = (1 : Int)) (fun h1 => ?_) (fun h1 => ?_)
 ·refine Zz 3 (kAt Y40 [1,1,1,0] []) [(2,pt b1 0),(3,pt b2 0),(4,.bool false),(5,iv 0),(6,iv 1)] ?_
  exact tl (0) (1) (by unfold checkB checkN; rw [if_pos h1])
 refine Zq 5 ((c.kind : Int) = (2 : Int)) (fun h2 => ?_) (fun h2 => ?_)
 ·refine Zz 5 (kAt Y40 [1,1,1,0] []) [(2,pt b1 0),(3,pt b2 0),(4,.bool false),(5,iv 65535),(6,iv 1)] ?_
  exact tl (65535) (1) (by unfold checkB checkN; rw [if_neg h1,if_pos h2])
 refine Zq 6 ((c.kind : Int) = (3 : Int)) (fun h3 => ?_) (fun h3 => ?_)
 ·refine Zh 10 [.p (fun _ => (decide ((c.kind : Int) = (3 : Int))) = true),.x,.c 1 3] hM8 (A1 (decide_eq_true h3)) ?_
  refine Zz 0 (kAt Y40 [1,1,1,0] []) [(2,pt b1 0),(3,pt b2 0),(4,.bool false),(5,iv 0),(6,iv (p.nodes.length:Int))] ?_
  exact tl (0) (p.nodes.length) (by unfold checkB checkN; rw [if_neg h1,if_neg h2,if_pos (.inl h3)])
 refine Zq 4 ((c.kind : Int) = (4 : Int)) (fun h4 => ?_) (fun h4 => ?_)
 ·refine Zh 8 [.c 1 3] hM8 trivial ?_
  refine Zz 0 (kAt Y40 [1,1,1,0] []) [(2,pt b1 0),(3,pt b2 0),(4,.bool false),(5,iv 0),(6,iv (p.nodes.length:Int))] ?_
  exact tl (0) (p.nodes.length) (by unfold checkB checkN; rw [if_neg h1,if_neg h2,if_pos (.inr h4)])
 exact Z1 4 (.bool false) (⟨by unfold checkB checkN; simp [h1,h2,h3,h4],hE7⟩)

set_option maxRecDepth 20000 in
theorem right1_any (p : PPlan) (q : PAd) (x : DA) (b0 : Nat) (w : World) (hb : w.heap[b0]? = some (.cells #[iv p.proto,iv p.cap,iv p.k,.slice q.a1 p.nodes.length q.c1,.slice q.a2 p.links.length q.c2,.slice q.a3 p.dests.length q.c3,.slice q.a4 p.checks.length q.c4] 29 (0,0))) (ho : Cells w x.a (x.d.origins.flatMap intCells)) (hl : x.d.origins.length ≤ 140737488355328) :
    Does Tryz.prog 37 [(vD x),pt b0 0] w (fun v w' => v = .bool (!destB x.d p.nodes.length) ∧ Ext w w') := by
 refine startZ (c := Y37) Tryz.func37 rfl (by kernel_rfl) ?_
 show H _ 10 [] _ (kAt Y37 [] []) (stz [(0,(vD x)),(1,pt b0 0)]) w
 have hE1 : Ext w w := Ext.refl w
 have hM2 : Hold w w.heap.size [] := Hold.nil hE1.le
 refine Zb 2 54 (vD x) [sv x.d.name,.slice x.a x.d.origins.length x.c] hE1 hM2 ?_
 intro b1 w1 hE4 hM5
 refine Zs 8 [.ld (vD x),.ld (.slice q.a1 p.nodes.length q.c1)] [cl w1 b1 0 (sv x.d.name),cl w1 b1 1 (.slice x.a x.d.origins.length x.c),cl w1 b0 3 (.slice q.a1 p.nodes.length q.c1)] (AC (cell_of (hM5.blk 0 rfl) rfl) (AC (cell_of (hM5.blk 0 rfl) rfl) (A1 (hE4.cell (cell_of hb rfl))))) ?_
 refine Zl 0 E38 (dest_any x.d x.a x.c p.nodes.length w1 (ho.ext hE4) hl) ?_
 rintro _ w2 ⟨rfl,hx⟩
 obtain ⟨hE6,hM7⟩ := Xt hE4 hM5 hx
 exact Z1 3 (.bool (!(destB x.d p.nodes.length))) (⟨rfl,hE6⟩)

set_option maxRecDepth 20000 in
theorem right2_any (p : PPlan) (q : PAd) (c : PCheck) (b0 : Nat) (w : World) (hb : w.heap[b0]? = some (.cells #[iv p.proto,iv p.cap,iv p.k,.slice q.a1 p.nodes.length q.c1,.slice q.a2 p.links.length q.c2,.slice q.a3 p.dests.length q.c3,.slice q.a4 p.checks.length q.c4] 29 (0,0))) :
    Does Tryz.prog 39 [(vC c),pt b0 0] w (fun v w' => v = .bool (!checkB p c) ∧ Ext w w') := by
 refine startZ (c := Y39) Tryz.func39 rfl (by kernel_rfl) ?_
 show H _ 8 [] _ (kAt Y39 [] []) (stz [(0,(vC c)),(1,pt b0 0)]) w
 have hE1 : Ext w w := Ext.refl w
 have hM2 : Hold w w.heap.size [] := Hold.nil hE1.le
 refine Zb 2 67 (vC c) [iv c.kind,iv c.node,iv c.dest,iv c.limit,iv c.other] hE1 hM2 ?_
 intro b1 w1 hE4 hM5
 refine Zs 6 [.ld (pv p q),.ld (vC c)] [cl w1 b0 0 (iv p.proto),cl w1 b0 1 (iv p.cap),cl w1 b0 2 (iv p.k),cl w1 b0 3 (.slice q.a1 p.nodes.length q.c1),cl w1 b0 4 (.slice q.a2 p.links.length q.c2),cl w1 b0 5 (.slice q.a3 p.dests.length q.c3),cl w1 b0 6 (.slice q.a4 p.checks.length q.c4),cl w1 b1 0 (iv c.kind),cl w1 b1 1 (iv c.node),cl w1 b1 2 (iv c.dest),cl w1 b1 3 (iv c.limit),cl w1 b1 4 (iv c.other)] (AC (hE4.cell (cell_of hb rfl)) (AC (hE4.cell (cell_of hb rfl)) (AC (hE4.cell (cell_of hb rfl)) (AC (hE4.cell (cell_of hb rfl)) (AC (hE4.cell (cell_of hb rfl)) (AC (hE4.cell (cell_of hb rfl)) (AC (hE4.cell (cell_of hb rfl)) (AC (cell_of (hM5.blk 0 rfl) rfl) (AC (cell_of (hM5.blk 0 rfl) rfl) (AC (cell_of (hM5.blk 0 rfl) rfl) (AC (cell_of (hM5.blk 0 rfl) rfl) (A1 (cell_of (hM5.blk 0 rfl) rfl))))))))))))) ?_
 refine Zl 0 E40 (check_any p q c w1) ?_
 rintro _ w2 ⟨rfl,hx⟩
 obtain ⟨hE6,hM7⟩ := Xt hE4 hM5 hx
 exact Z1 3 (.bool (!(checkB p c))) (⟨rfl,hE6⟩)

set_option maxRecDepth 20000 in
theorem node1_any (x : PNode) (b0 : Nat) (nm : Bytes) (w : World) (hb : w.heap[b0]? = some (.cells #[sv nm] 9 (0,0))) :
    Does Tryz.prog 59 [(vN x),pt b0 0] w (fun v w' => v = .bool (decide (x.name = nm)) ∧ Ext w w') := by
 refine startZ (c := Y59) Tryz.func59 rfl (by kernel_rfl) ?_
 show H _ 8 [] _ (kAt Y59 [] []) (stz [(0,(vN x)),(1,pt b0 0)]) w
 have hE1 : Ext w w := Ext.refl w
 have hM2 : Hold w w.heap.size [] := Hold.nil hE1.le
 refine Zb 2 52 (vN x) [sv x.name,iv x.asn] hE1 hM2 ?_
 intro b1 w1 hE4 hM5
 refine Zh 10 [.c 0 0,.p (fun _ => w1.cell? ⟨b0,0,none⟩ = some (sv nm)),.v (sv nm)] hM5 (A1 (hE4.cell (cell_of hb rfl))) ?_
 exact Z1 0 (.bool (decide (x.name = nm))) (⟨rfl,hE4⟩)

set_option maxRecDepth 20000 in
theorem dest1_any (x : DA) (b0 : Nat) (nm : Bytes) (w : World) (hb : w.heap[b0]? = some (.cells #[sv nm] 9 (0,0))) :
    Does Tryz.prog 61 [(vD x),pt b0 0] w (fun v w' => v = .bool (decide (x.d.name = nm)) ∧ Ext w w') := by
 refine startZ (c := Y61) Tryz.func61 rfl (by kernel_rfl) ?_
 show H _ 8 [] _ (kAt Y61 [] []) (stz [(0,(vD x)),(1,pt b0 0)]) w
 have hE1 : Ext w w := Ext.refl w
 have hM2 : Hold w w.heap.size [] := Hold.nil hE1.le
 refine Zb 2 54 (vD x) [sv x.d.name,.slice x.a x.d.origins.length x.c] hE1 hM2 ?_
 intro b1 w1 hE4 hM5
 refine Zh 10 [.c 0 0,.p (fun _ => w1.cell? ⟨b0,0,none⟩ = some (sv nm)),.v (sv nm)] hM5 (A1 (hE4.cell (cell_of hb rfl))) ?_
 exact Z1 0 (.bool (decide (x.d.name = nm))) (⟨rfl,hE4⟩)

set_option maxRecDepth 20000 in
theorem Node_any (p : PPlan) (q : PAd) (nm : Bytes) (w : World) (hP : PlanAt w p q) :
    Does Tryz.prog 21 [(pv p q),sv nm] w (fun v w' => v = .int .i64 (idxI (fun x => decide (x.name = nm)) p.nodes) ∧ Ext w w') := by
 refine startZ (c := Y21) Tryz.func21 rfl (by kernel_rfl) ?_
 show H _ 9 [] _ (kAt Y21 [] []) (stz [(0,(pv p q)),(1,sv nm)]) w
 have hE1 : Ext w w := Ext.refl w
 have hM2 : Hold w w.heap.size [] := Hold.nil hE1.le
 refine Zb 2 29 (pv p q) (pc p q) hE1 hM2 ?_
 intro b1 w1 hE4 hM5
 refine Zb 0 9 (sv nm) [sv nm] hE4 hM5 ?_
 intro b2 w2 hE7 hM8
 refine Zh 7 [.c 1 3] hM8 trivial ?_
 refine Zl 0 E58 (idxNode1 p.nodes q.a1 q.c1 59 b2 (fun x => decide (x.name = nm)) w2 E59 (fun k hk w' hx => node1_any _ b2 nm w' (hx.heap (hM8.blk 0 rfl))) (hP.nodes.ext hE7) (by have := hP.l1; omega)) ?_
 rintro _ w3 ⟨rfl,hx⟩
 obtain ⟨hE9,hM10⟩ := Xt hE7 hM8 hx
 exact Z1 2 (iv (idxI (fun x => decide (x.name = nm)) p.nodes)) (⟨rfl,hE9⟩)

theorem idxI_map {α β : Type} (f : α → β) (p : β → Bool) (l : List α) : idxI (fun x => p (f x)) l = idxI p (l.map f) := by
  unfold idxI
  rw [List.findIdx?_map]
  rfl

set_option maxRecDepth 20000 in
theorem Dest_any (p : PPlan) (q : PAd) (nm : Bytes) (w : World) (hP : PlanAt w p q) :
    Does Tryz.prog 23 [(pv p q),sv nm] w (fun v w' => v = .int .i64 (idxI (fun x => decide (x.name = nm)) p.dests) ∧ Ext w w') := by
 refine startZ (c := Y23) Tryz.func23 rfl (by kernel_rfl) ?_
 show H _ 9 [] _ (kAt Y23 [] []) (stz [(0,(pv p q)),(1,sv nm)]) w
 have hq := hP.dlen
 have hE1 : Ext w w := Ext.refl w
 have hM2 : Hold w w.heap.size [] := Hold.nil hE1.le
 refine Zb 2 29 (pv p q) (pc p q) hE1 hM2 ?_
 intro b1 w1 hE4 hM5
 refine Zb 0 9 (sv nm) [sv nm] hE4 hM5 ?_
 intro b2 w2 hE7 hM8
 refine Zh 7 [.c 1 5] hM8 trivial ?_
 refine Zz 0 (kOp Y23 [1,0] 3 []) [(4,iv 0),(6,.slice q.a3 p.dests.length q.c3),(7,.func (.func 61) #[] #[pt b2 0])] ?_
 rw [← hq]
 refine Zl 0 E60 (idxDest1 q.ds q.a3 q.c3 61 b2 (fun x => decide (x.d.name = nm)) w2 E61 (fun k hk w' hx => dest1_any _ b2 nm w' (hx.heap (hM8.blk 0 rfl))) (hP.dests.ext hE7) (by have := hP.l3; omega)) ?_
 rintro _ w3 ⟨rfl,hx⟩
 obtain ⟨hE9,hM10⟩ := Xt hE7 hM8 hx
 exact Z1 2 (iv (idxI (fun x => decide (x.d.name = nm)) q.ds)) (⟨by rw [idxI_map (fun x : DA => x.d) (fun x => decide (x.name = nm)),hP.deq],hE9⟩)

end Go.Proofs.YtjhgghpeapmgdaaGreatDoor
