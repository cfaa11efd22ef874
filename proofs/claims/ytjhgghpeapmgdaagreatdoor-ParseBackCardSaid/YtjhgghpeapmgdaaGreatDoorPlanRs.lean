/-
  PLAN: the contract of the reference's Same.
-/
import Derived.Test.YtjhgghpeapmgdaaGreatDoorPlanE
import Derived.Test.YtjhgghpeapmgdaaGreatDoorMg3
namespace Go.Proofs.YtjhgghpeapmgdaaGreatDoor
open Go.Bk Go.Proofs

theorem E20 : Proofs.Enters Tryz.prog 20 := Proofs.enters_of Tryz.func20 (by kernel_rfl) rfl

def rsL1 (p p' : PPlan) (q q' : PAd) (b1 b2 : Nat) (w : World) : Lp Nat where
  S := fun i => [(2,none,pt b1 0),(3,none,pt b2 0),(5,none,iv (i:Int))]
  J := fun i w' => Ext w w' ∧ Hold w' w.heap.size [.blk b2 (pc p' q') 29,.blk b1 (pc p q) 29] ∧ i ≤ p.nodes.length ∧ ∀ j,j < i → p.nodes.getD j d0N = p'.nodes.getD j d0N
  M := fun i => p.nodes.length - i
def rsL2 (p p' : PPlan) (q q' : PAd) (b1 b2 : Nat) (w : World) : Lp Nat where
  S := fun i => [(2,none,pt b1 0),(3,none,pt b2 0),(6,none,iv (i:Int))]
  J := fun i w' => Ext w w' ∧ Hold w' w.heap.size [.blk b2 (pc p' q') 29,.blk b1 (pc p q) 29] ∧ i ≤ p.links.length ∧ ∀ j,j < i → p.links.getD j d0L = p'.links.getD j d0L
  M := fun i => p.links.length - i
def rsL3 (p p' : PPlan) (q q' : PAd) (b1 b2 : Nat) (w : World) : Lp Nat where
  S := fun i => [(2,none,pt b1 0),(3,none,pt b2 0),(7,none,iv (i:Int))]
  J := fun i w' => Ext w w' ∧ Hold w' w.heap.size [.blk b2 (pc p' q') 29,.blk b1 (pc p q) 29] ∧ i ≤ p.dests.length ∧ ∀ j,j < i → p.dests.getD j d0D = p'.dests.getD j d0D
  M := fun i => p.dests.length - i
def rsL5 (p p' : PPlan) (q q' : PAd) (b1 b2 b8 b9 i : Nat) (w : World) : Lp Nat where
  S := fun k => [(2,none,pt b1 0),(3,none,pt b2 0),(7,none,iv (i:Int)),(8,none,pt b8 0),(9,none,pt b9 0),(10,none,iv (k:Int))]
  J := fun k w' => Ext w w' ∧ Hold w' w.heap.size [.blk b9 ([sv ((q'.ds.getD i d0A).d.name),.slice (q'.ds.getD i d0A).a ((q'.ds.getD i d0A).d.origins.length) ((q'.ds.getD i d0A).c)]) 54,.blk b8 ([sv ((q.ds.getD i d0A).d.name),.slice (q.ds.getD i d0A).a ((q.ds.getD i d0A).d.origins.length) ((q.ds.getD i d0A).c)]) 54,.blk b2 (pc p' q') 29,.blk b1 (pc p q) 29] ∧ k ≤ (q.ds.getD i d0A).d.origins.length ∧ ∀ j,j < k → (q.ds.getD i d0A).d.origins.getD j 0 = (q'.ds.getD i d0A).d.origins.getD j 0
  M := fun k => (q.ds.getD i d0A).d.origins.length - k
def rsL4 (p p' : PPlan) (q q' : PAd) (b1 b2 : Nat) (w : World) : Lp Nat where
  S := fun i => [(2,none,pt b1 0),(3,none,pt b2 0),(11,none,iv (i:Int))]
  J := fun i w' => Ext w w' ∧ Hold w' w.heap.size [.blk b2 (pc p' q') 29,.blk b1 (pc p q) 29] ∧ i ≤ p.checks.length ∧ ∀ j,j < i → p.checks.getD j d0C = p'.checks.getD j d0C
  M := fun i => p.checks.length - i
set_option maxRecDepth 20000 in
theorem rSame_any (p p' : PPlan) (q q' : PAd) (w : World) (hP : PlanAt w p q) (hQ : PlanAt w p' q') :
    Does Tryz.prog 20 [(pv p q),(pv p' q')] w (fun v w' => v = .bool (decide (p = p')) ∧ Ext w w') := by
 refine startD (c := Y20) Tryz.func20 rfl (by kernel_rfl) ?_
 show G _ 170 [] _ (kAt Y20 [] []) (stz [(0,(pv p q)),(1,(pv p' q'))]) w
 have hq := hP.dlen
 have hr := hQ.dlen
 have hl1 := hP.l1
 have hl2 := hP.l2
 have hl3 := hP.l3
 have hl4 := hP.l4
 have hE1 : Ext w w := Ext.refl w
 have hM2 : Hold w w.heap.size [] := Hold.nil hE1.le
 refine sg0 2 (kOp Y20 [0] 0 []) [(0,(pv p q)),(1,(pv p' q'))] ?_
 refine os0 (.box 29 (pv p q)) (some 2) (kOp Y20 [0] 1 []) (runs_box _ _) ?_
 rintro _ w1 ⟨b1,rfl,hN3⟩
 have hE4 := hE1.trans hN3.ext
 have hM5 := hM2.new hN3
 refine os0 (.box 29 (pv p' q')) (some 3) (kOp Y20 [0] 2 []) (runs_box _ _) ?_
 rintro _ w2 ⟨b2,rfl,hN6⟩
 have hE7 := hE4.trans hN6.ext
 have hM8 := hM5.new hN6
 refine sgz 61 [.ld (iv p.proto),.ld (iv (p'.proto)),.sym,.sym,.ld (iv p.cap),.sym,.sym,.ld (iv (p'.cap)),.sym,.sym,.sym,.ld (iv p.k),.sym,.sym,.ld (iv (p'.k)),.sym,.sym,.sym,.ld (.slice q.a1 p.nodes.length q.c1),.sym,.sym,.sym,.ld (.slice q'.a1 (p'.nodes.length) (q'.c1)),.sym,.sym,.sym,.sym,.ld (.slice q.a2 p.links.length q.c2),.sym,.sym,.sym,.ld (.slice q'.a2 (p'.links.length) (q'.c2)),.sym,.sym,.sym,.sym,.ld (.slice q.a3 p.dests.length q.c3),.sym,.sym,.sym,.ld (.slice q'.a3 (p'.dests.length) (q'.c3)),.sym,.sym,.sym,.sym,.ld (.slice q.a4 p.checks.length q.c4),.sym,.sym,.sym,.ld (.slice q'.a4 (p'.checks.length) (q'.c4)),.sym,.sym] (kAt Y20 [1,0,1] []) [(2,pt b1 0),(3,pt b2 0),(4,.bool false),(66,.bool (((((((!(decide ((p.proto : Int) = p'.proto))) || (!(decide ((p.cap : Int) = p'.cap)))) || (!(decide ((p.k : Int) = p'.k)))) || (!(decide ((p.nodes.length:Int) = (p'.nodes.length:Int))))) || (!(decide ((p.links.length:Int) = (p'.links.length:Int))))) || (!(decide ((p.dests.length:Int) = (p'.dests.length:Int))))) || (!(decide ((p.checks.length:Int) = (p'.checks.length:Int))))))] ((fun (z1 : Bool) => ((fun (z2 : Bool) => ((fun (z3 : Bool) => ((fun (z4 : Bool) => ((fun (z5 : Bool) => ((fun (z6 : Bool) => ([cl w2 b1 0 (iv p.proto),cl w2 b2 0 (iv (p'.proto)),z6 = true → z6 = true,z6 = true → cl w2 b1 1 (iv p.cap),z6 = true → z6 = true,z6 = true → cl w2 b2 1 (iv (p'.cap)),z6 = true → z6 = true,z6 = true → z6 = true,z6 = true → z6 = true,(!z2) = true → (!z2) = true,(!z2) = true → cl w2 b1 2 (iv p.k),(!z2) = true → (!z2) = true,(!z2) = true → cl w2 b2 2 (iv (p'.k)),(!z2) = true → (!z2) = true,(!z2) = true → (!z2) = true,(!z2) = true → (!z2) = true,z5 = true → z5 = true,z5 = true → cl w2 b1 3 (.slice q.a1 p.nodes.length q.c1),z5 = true → z5 = true,z5 = true → z5 = true,z5 = true → cl w2 b2 3 (.slice q'.a1 (p'.nodes.length) (q'.c1)),z5 = true → z5 = true,z5 = true → z5 = true,z5 = true → z5 = true,z5 = true → z5 = true,(!z1) = true → (!z1) = true,(!z1) = true → cl w2 b1 4 (.slice q.a2 p.links.length q.c2),(!z1) = true → (!z1) = true,(!z1) = true → (!z1) = true,(!z1) = true → cl w2 b2 4 (.slice q'.a2 (p'.links.length) (q'.c2)),(!z1) = true → (!z1) = true,(!z1) = true → (!z1) = true,(!z1) = true → (!z1) = true,(!z1) = true → (!z1) = true,(!z3) = true → (!z3) = true,(!z3) = true → cl w2 b1 5 (.slice q.a3 p.dests.length q.c3),(!z3) = true → (!z3) = true,(!z3) = true → (!z3) = true,(!z3) = true → cl w2 b2 5 (.slice q'.a3 (p'.dests.length) (q'.c3)),(!z3) = true → (!z3) = true,(!z3) = true → (!z3) = true,(!z3) = true → (!z3) = true,(!z3) = true → (!z3) = true,z4 = true → z4 = true,z4 = true → cl w2 b1 6 (.slice q.a4 p.checks.length q.c4),z4 = true → z4 = true,z4 = true → z4 = true,z4 = true → cl w2 b2 6 (.slice q'.a4 (p'.checks.length) (q'.c4)),z4 = true → z4 = true,z4 = true → z4 = true,z4 = true → z4 = true,z4 = true → z4 = true] : List Prop)) (!(!(decide ((p.proto : Int) = p'.proto)))))) (!(z2 || (!(decide ((p.k : Int) = p'.k))))))) (!(z3 || (!(decide ((p.dests.length:Int) = (p'.dests.length:Int)))))))) (z1 || (!(decide ((p.links.length:Int) = (p'.links.length:Int))))))) ((!(decide ((p.proto : Int) = p'.proto))) || (!(decide ((p.cap : Int) = p'.cap)))))) ((((!(decide ((p.proto : Int) = p'.proto))) || (!(decide ((p.cap : Int) = p'.cap)))) || (!(decide ((p.k : Int) = p'.k)))) || (!(decide ((p.nodes.length:Int) = (p'.nodes.length:Int)))))) (AC (cell_of (hM8.blk 1 rfl) rfl) (AC (cell_of (hM8.blk 0 rfl) rfl) (AC (fun h => h) (AC (fun _ => cell_of (hM8.blk 1 rfl) rfl) (AC (fun h => h) (AC (fun _ => cell_of (hM8.blk 0 rfl) rfl) (AC (fun h => h) (AC (fun h => h) (AC (fun h => h) (AC (fun h => h) (AC (fun _ => cell_of (hM8.blk 1 rfl) rfl) (AC (fun h => h) (AC (fun _ => cell_of (hM8.blk 0 rfl) rfl) (AC (fun h => h) (AC (fun h => h) (AC (fun h => h) (AC (fun h => h) (AC (fun _ => cell_of (hM8.blk 1 rfl) rfl) (AC (fun h => h) (AC (fun h => h) (AC (fun _ => cell_of (hM8.blk 0 rfl) rfl) (AC (fun h => h) (AC (fun h => h) (AC (fun h => h) (AC (fun h => h) (AC (fun h => h) (AC (fun _ => cell_of (hM8.blk 1 rfl) rfl) (AC (fun h => h) (AC (fun h => h) (AC (fun _ => cell_of (hM8.blk 0 rfl) rfl) (AC (fun h => h) (AC (fun h => h) (AC (fun h => h) (AC (fun h => h) (AC (fun h => h) (AC (fun _ => cell_of (hM8.blk 1 rfl) rfl) (AC (fun h => h) (AC (fun h => h) (AC (fun _ => cell_of (hM8.blk 0 rfl) rfl) (AC (fun h => h) (AC (fun h => h) (AC (fun h => h) (AC (fun h => h) (AC (fun h => h) (AC (fun _ => cell_of (hM8.blk 1 rfl) rfl) (AC (fun h => h) (AC (fun h => h) (AC (fun _ => cell_of (hM8.blk 0 rfl) rfl) (AC (fun h => h) (AC (fun h => h) (AC (fun h => h) (A1 (fun h => h))))))))))))))))))))))))))))))))))))))))))))))))))))) ?_
 refine brk _ (((((((¬ ((p.proto : Int) = p'.proto)) ∨ (¬ ((p.cap : Int) = p'.cap))) ∨ (¬ ((p.k : Int) = p'.k))) ∨ (¬ ((p.nodes.length:Int) = (p'.nodes.length:Int)))) ∨ (¬ ((p.links.length:Int) = (p'.links.length:Int)))) ∨ (¬ ((p.dests.length:Int) = (p'.dests.length:Int)))) ∨ (¬ ((p.checks.length:Int) = (p'.checks.length:Int)))) ((iffOr (iffOr (iffOr (iffOr (iffOr (iffOr (iffNot iffDec) (iffNot iffDec)) (iffNot iffDec)) (iffNot iffDec)) (iffNot iffDec)) (iffNot iffDec)) (iffNot iffDec))) (fun h0 => ?_) (fun h0 => ?_)
 ·refine sg0 4 (kAt Y20 [1,0,1,0,1] []) [(2,pt b1 0),(3,pt b2 0),(4,.bool false)] ?_
  exact ret1 (.bool false) (⟨by rw [decide_eq_false (fun e => by subst e; revert h0; simp)],hE7⟩)
 have hd : p.proto = p'.proto ∧ p.cap = p'.cap ∧ p.k = p'.k ∧ p.nodes.length = p'.nodes.length ∧ p.links.length = p'.links.length ∧ p.dests.length = p'.dests.length ∧ p.checks.length = p'.checks.length := by simp only [not_or,Classical.not_not] at h0; omega
 obtain ⟨d1,d2,d3,d4,d5,d6,d7⟩ := hd
 refine sg0 7 (kAt Y20 [1,1,0,1,0] []) [(2,pt b1 0),(3,pt b2 0),(4,.bool false),(5,iv 0)] ?_
 refine loopR (rsL1 p p' q q' b1 b2 w) (k' := (kEnd Y20 [1,1,0,1,0] [])) (body := (cAt Y20 [1,1,0,1,0,0])) (by kernel_rfl) 0 [2,3,5] (by kernel_rfl) (⟨hE7,hM8,Nat.zero_le _,fun j h => by omega⟩) ?_
 rintro i u1 ⟨Ku1,Mu1,hi,hj⟩
 refine sgz 9 [.ld (.slice q.a1 p.nodes.length q.c1)] (kAt (cAt Y20 [1,1,0,1,0,0]) [0,1] (.inv (LI 170 [] (rsL1 p p' q q' b1 b2 w) i) :: (kEnd Y20 [1,1,0,1,0] []))) [(2,pt b1 0),(3,pt b2 0),(5,iv (i:Int)),(71,.bool (decide ((i:Int) < (p.nodes.length:Int))))] [cl u1 b1 3 (.slice q.a1 p.nodes.length q.c1)] (A1 (cell_of (Mu1.blk 1 rfl) rfl)) ?_
 refine brd ((i:Int) < (p.nodes.length:Int)) (fun hu1 => ?_) (fun hu1 => ?_)
 ·generalize hKT : ((.inv (LI 170 [] (rsL1 p p' q q' b1 b2 w) i) :: (kEnd Y20 [1,1,0,1,0] [])) : List Fr) = KT
  have hk2 : i < p.nodes.length := by omega
  have hk3 : i < p'.nodes.length := by omega
  have ha := hP.nodes.addrE nodeC_len (by decide) hk2
  have hb := hQ.nodes.addrE nodeC_len (by decide) hk3
  refine sg0 4 (kAt (cAt Y20 [1,1,0,1,0,0]) [1,0,0,0] KT) [(2,pt b1 0),(3,pt b2 0),(5,iv (i:Int))] ?_
  refine dBegin (k' := (kAt (cAt Y20 [1,1,0,1,0,0]) [1,0,0,1] KT)) (id := 6) (m := 11) (ops := opsAt (cAt (cAt Y20 [1,1,0,1,0,0]) [1,0,0,0])) (fun w1 => Ext w1) (by kernel_rfl) (PQ.body _ _ _) (by kernel_rfl) (by kernel_rfl) ?_
  intro w9 hx10
  have hE11 := Ku1.trans hx10
  have hM12 := Mu1.ext hx10
  refine dtz [0,1,2,3,4,5,6,7,8,9,10] [.ld (.slice q.a1 p.nodes.length q.c1),.ld (vN (p.nodes.getD i d0N)),.ld (.slice q'.a1 (p'.nodes.length) (q'.c1)),.ld (vN (p'.nodes.getD i d0N))] 0 (lb 11 2047) [(2,pt b1 0),(3,pt b2 0),(5,iv (i:Int)),(84,.bool (!((decide (((p.nodes.getD i d0N).name) = ((p'.nodes.getD i d0N).name))) && (decide ((p.nodes.getD i d0N).asn = (p'.nodes.getD i d0N).asn)))))] (fun w' => [cl w' b1 3 (.slice q.a1 p.nodes.length q.c1),(0 ≤ (i:Int) ∧ (i:Int) < (p.nodes.length:Int)),(q.a1 : Option Addr) = some ⟨(slB q.a1),slO q.a1,none⟩,cl w' (slB q.a1) (slO q.a1 + i * 2) (sv ((p.nodes.getD i d0N).name)),cl w' (slB q.a1) (slO q.a1 + i * 2 + 1) (iv ((p.nodes.getD i d0N).asn)),cl w' b2 3 (.slice q'.a1 (p'.nodes.length) (q'.c1)),(0 ≤ (i:Int) ∧ (i:Int) < (p'.nodes.length:Int)),(q'.a1 : Option Addr) = some ⟨(slB q'.a1),slO q'.a1,none⟩,cl w' (slB q'.a1) (slO q'.a1 + i * 2) (sv ((p'.nodes.getD i d0N).name)),cl w' (slB q'.a1) (slO q'.a1 + i * 2 + 1) (iv ((p'.nodes.getD i d0N).asn))]) (fun w' hS => (AC (hS.cell (cell_of (hM12.blk 1 rfl) rfl)) (AC (by omega) (AC (by assumption) (AC (hS.cell (hE11.cell (cellAt nodeC_len d0N hP.nodes hk2 (j := 0) rfl))) (AC (hS.cell (hE11.cell (cellAt nodeC_len d0N hP.nodes hk2 (j := 1) rfl))) (AC (hS.cell (cell_of (hM12.blk 0 rfl) rfl)) (AC (by omega) (AC (by assumption) (AC (hS.cell (hE11.cell (cellAt nodeC_len d0N hQ.nodes hk3 (j := 0) rfl))) (A1 (hS.cell (hE11.cell (cellAt nodeC_len d0N hQ.nodes hk3 (j := 1) rfl)))))))))))))) (Ext.refl _) ?_
  refine dDone (by kernel_rfl) ?_
  refine brk _ (¬ ((((p.nodes.getD i d0N).name) = ((p'.nodes.getD i d0N).name)) ∧ ((p.nodes.getD i d0N).asn = (p'.nodes.getD i d0N).asn))) ((iffNot (iffAnd iffDec iffDec))) (fun h2 => ?_) (fun h2 => ?_)
  ·have h3 : ¬ (p.nodes.getD i d0N = p'.nodes.getD i d0N) := fun e => h2 (nodeEq.1 e)
   refine sg0 4 (kAt (cAt Y20 [1,1,0,1,0,0]) [1,0,0,1,0,1] KT) [(2,pt b1 0),(3,pt b2 0),(4,.bool false),(5,iv (i:Int))] ?_
   exact ret1 (.bool false) (⟨by rw [decide_eq_false (fun e => h3 (by rw [e]))],hE11⟩)
  have h3 : p.nodes.getD i d0N = p'.nodes.getD i d0N := nodeEq.2 (Classical.not_not.1 h2)
  refine sgz 7 [] KT [(2,pt b1 0),(3,pt b2 0),(5,iv ((i + 1:Nat):Int))] [I64 ((i + 1:Nat):Int)] (A1 (i64 (by omega))) ?_
  subst hKT
  exact again (i + 1) [2,3,5] (by kernel_rfl) (⟨hE11,hM12,by omega,fun j hj' => by by_cases e : j = i; (subst e; exact h3); exact hj j (by omega)⟩) (show p.nodes.length - (i + 1) < p.nodes.length - i by omega)
 have en : p.nodes = p'.nodes := eq_of_getD d0N d4 (fun j hj2 => hj j (by omega))
 refine sg0 7 (kAt Y20 [1,1,1,0,1,0] []) [(2,pt b1 0),(3,pt b2 0),(6,iv 0)] ?_
 refine loopR (rsL2 p p' q q' b1 b2 w) (k' := (kEnd Y20 [1,1,1,0,1,0] [])) (body := (cAt Y20 [1,1,1,0,1,0,0])) (by kernel_rfl) 0 [2,3,6] (by kernel_rfl) (⟨Ku1,Mu1,Nat.zero_le _,fun j h => by omega⟩) ?_
 rintro i u2 ⟨Ku2,Mu2,hi,hj⟩
 refine sgz 9 [.ld (.slice q.a2 p.links.length q.c2)] (kAt (cAt Y20 [1,1,1,0,1,0,0]) [0,1] (.inv (LI 170 [] (rsL2 p p' q q' b1 b2 w) i) :: (kEnd Y20 [1,1,1,0,1,0] []))) [(2,pt b1 0),(3,pt b2 0),(6,iv (i:Int)),(89,.bool (decide ((i:Int) < (p.links.length:Int))))] [cl u2 b1 4 (.slice q.a2 p.links.length q.c2)] (A1 (cell_of (Mu2.blk 1 rfl) rfl)) ?_
 refine brd ((i:Int) < (p.links.length:Int)) (fun hu2 => ?_) (fun hu2 => ?_)
 ·generalize hKT : ((.inv (LI 170 [] (rsL2 p p' q q' b1 b2 w) i) :: (kEnd Y20 [1,1,1,0,1,0] [])) : List Fr) = KT
  have hk2 : i < p.links.length := by omega
  have hk3 : i < p'.links.length := by omega
  have ha := hP.links.addrE linkC_len (by decide) hk2
  have hb := hQ.links.addrE linkC_len (by decide) hk3
  refine sg0 4 (kAt (cAt Y20 [1,1,1,0,1,0,0]) [1,0,0,0] KT) [(2,pt b1 0),(3,pt b2 0),(6,iv (i:Int))] ?_
  refine dBegin (k' := (kAt (cAt Y20 [1,1,1,0,1,0,0]) [1,0,0,1] KT)) (id := 11) (m := 11) (ops := opsAt (cAt (cAt Y20 [1,1,1,0,1,0,0]) [1,0,0,0])) (fun w1 => Ext w1) (by kernel_rfl) (PQ.body _ _ _) (by kernel_rfl) (by kernel_rfl) ?_
  intro w13 hx14
  have hE15 := Ku2.trans hx14
  have hM16 := Mu2.ext hx14
  refine dtz [0,1,2,3,4,5,6,7,8,9,10] [.ld (.slice q.a2 p.links.length q.c2),.ld (vL (p.links.getD i d0L)),.ld (.slice q'.a2 (p'.links.length) (q'.c2)),.ld (vL (p'.links.getD i d0L))] 0 (lb 11 2047) [(2,pt b1 0),(3,pt b2 0),(6,iv (i:Int)),(102,.bool (!((decide ((p.links.getD i d0L).a = (p'.links.getD i d0L).a)) && ((decide ((p.links.getD i d0L).b = (p'.links.getD i d0L).b)) && (decide ((p.links.getD i d0L).cost = (p'.links.getD i d0L).cost))))))] (fun w' => [cl w' b1 4 (.slice q.a2 p.links.length q.c2),(0 ≤ (i:Int) ∧ (i:Int) < (p.links.length:Int)),(q.a2 : Option Addr) = some ⟨(slB q.a2),slO q.a2,none⟩,cl w' (slB q.a2) (slO q.a2 + i * 3) (iv ((p.links.getD i d0L).a)),cl w' (slB q.a2) (slO q.a2 + i * 3 + 1) (iv ((p.links.getD i d0L).b)),cl w' (slB q.a2) (slO q.a2 + i * 3 + 2) (iv ((p.links.getD i d0L).cost)),cl w' b2 4 (.slice q'.a2 (p'.links.length) (q'.c2)),(0 ≤ (i:Int) ∧ (i:Int) < (p'.links.length:Int)),(q'.a2 : Option Addr) = some ⟨(slB q'.a2),slO q'.a2,none⟩,cl w' (slB q'.a2) (slO q'.a2 + i * 3) (iv ((p'.links.getD i d0L).a)),cl w' (slB q'.a2) (slO q'.a2 + i * 3 + 1) (iv ((p'.links.getD i d0L).b)),cl w' (slB q'.a2) (slO q'.a2 + i * 3 + 2) (iv ((p'.links.getD i d0L).cost))]) (fun w' hS => (AC (hS.cell (cell_of (hM16.blk 1 rfl) rfl)) (AC (by omega) (AC (by assumption) (AC (hS.cell (hE15.cell (cellAt linkC_len d0L hP.links hk2 (j := 0) rfl))) (AC (hS.cell (hE15.cell (cellAt linkC_len d0L hP.links hk2 (j := 1) rfl))) (AC (hS.cell (hE15.cell (cellAt linkC_len d0L hP.links hk2 (j := 2) rfl))) (AC (hS.cell (cell_of (hM16.blk 0 rfl) rfl)) (AC (by omega) (AC (by assumption) (AC (hS.cell (hE15.cell (cellAt linkC_len d0L hQ.links hk3 (j := 0) rfl))) (AC (hS.cell (hE15.cell (cellAt linkC_len d0L hQ.links hk3 (j := 1) rfl))) (A1 (hS.cell (hE15.cell (cellAt linkC_len d0L hQ.links hk3 (j := 2) rfl)))))))))))))))) (Ext.refl _) ?_
  refine dDone (by kernel_rfl) ?_
  refine brk _ (¬ (((p.links.getD i d0L).a = (p'.links.getD i d0L).a) ∧ (((p.links.getD i d0L).b = (p'.links.getD i d0L).b) ∧ ((p.links.getD i d0L).cost = (p'.links.getD i d0L).cost)))) ((iffNot (iffAnd iffDec (iffAnd iffDec iffDec)))) (fun h2 => ?_) (fun h2 => ?_)
  ·have h3 : ¬ (p.links.getD i d0L = p'.links.getD i d0L) := fun e => h2 (linkEq.1 e)
   refine sg0 4 (kAt (cAt Y20 [1,1,1,0,1,0,0]) [1,0,0,1,0,1] KT) [(2,pt b1 0),(3,pt b2 0),(4,.bool false),(6,iv (i:Int))] ?_
   exact ret1 (.bool false) (⟨by rw [decide_eq_false (fun e => h3 (by rw [e]))],hE15⟩)
  have h3 : p.links.getD i d0L = p'.links.getD i d0L := linkEq.2 (Classical.not_not.1 h2)
  refine sgz 7 [] KT [(2,pt b1 0),(3,pt b2 0),(6,iv ((i + 1:Nat):Int))] [I64 ((i + 1:Nat):Int)] (A1 (i64 (by omega))) ?_
  subst hKT
  exact again (i + 1) [2,3,6] (by kernel_rfl) (⟨hE15,hM16,by omega,fun j hj' => by by_cases e : j = i; (subst e; exact h3); exact hj j (by omega)⟩) (show p.links.length - (i + 1) < p.links.length - i by omega)
 have el : p.links = p'.links := eq_of_getD d0L d5 (fun j hj2 => hj j (by omega))
 refine sg0 7 (kAt Y20 (ro1 4 [0,1,0]) []) [(2,pt b1 0),(3,pt b2 0),(7,iv 0)] ?_
 refine loopR (rsL3 p p' q q' b1 b2 w) (k' := (kEnd Y20 (ro1 4 [0,1,0]) [])) (body := (cAt Y20 (ro1 4 [0,1,0,0]))) (by kernel_rfl) 0 [2,3,7] (by kernel_rfl) (⟨Ku2,Mu2,Nat.zero_le _,fun j h => by omega⟩) ?_
 rintro i u3 ⟨Ku3,Mu3,hi,hj⟩
 refine sgz 9 [.ld (.slice q.a3 p.dests.length q.c3)] (kAt (cAt Y20 (ro1 4 [0,1,0,0])) [0,1] (.inv (LI 170 [] (rsL3 p p' q q' b1 b2 w) i) :: (kEnd Y20 (ro1 4 [0,1,0]) []))) [(2,pt b1 0),(3,pt b2 0),(7,iv (i:Int)),(107,.bool (decide ((i:Int) < (p.dests.length:Int))))] [cl u3 b1 5 (.slice q.a3 p.dests.length q.c3)] (A1 (cell_of (Mu3.blk 1 rfl) rfl)) ?_
 refine brd ((i:Int) < (p.dests.length:Int)) (fun hu3 => ?_) (fun hu3 => ?_)
 ·generalize hKT : ((.inv (LI 170 [] (rsL3 p p' q q' b1 b2 w) i) :: (kEnd Y20 (ro1 4 [0,1,0]) [])) : List Fr) = KT
  have hk2 : i < q.ds.length := by omega
  have hk3 : i < q'.ds.length := by omega
  have ha := hP.dests.addrE destC_len (by decide) hk2
  have hb := hQ.dests.addrE destC_len (by decide) hk3
  have ea := hP.dget i
  have eb := hQ.dget i
  have oa := hP.orig _ (getD_mem' d0A hk2)
  have ob := hQ.orig _ (getD_mem' d0A hk3)
  refine sgz 10 [.ld (.slice q.a3 p.dests.length q.c3),.ld (vD (q.ds.getD i d0A))] (kOp (cAt Y20 (ro1 4 [0,1,0,0])) [1,0,0,0] 5 KT) [(2,pt b1 0),(3,pt b2 0),(7,iv (i:Int)),(114,(vD (q.ds.getD i d0A)))] [cl u3 b1 5 (.slice q.a3 p.dests.length q.c3),(0 ≤ (i:Int) ∧ (i:Int) < (p.dests.length:Int)),(q.a3 : Option Addr) = some ⟨(slB q.a3),slO q.a3,none⟩,cl u3 (slB q.a3) (slO q.a3 + i * 2) (sv ((q.ds.getD i d0A).d.name)),cl u3 (slB q.a3) (slO q.a3 + i * 2 + 1) (.slice (q.ds.getD i d0A).a ((q.ds.getD i d0A).d.origins.length) ((q.ds.getD i d0A).c))] (AC (cell_of (Mu3.blk 1 rfl) rfl) (AC (by omega) (AC (by assumption) (AC (Ku3.cell (cellAt destC_len d0A hP.dests hk2 (j := 0) rfl)) (A1 (Ku3.cell (cellAt destC_len d0A hP.dests hk2 (j := 1) rfl))))))) ?_
  refine os0 (.alloc 54) (some 8) (kOp (cAt Y20 (ro1 4 [0,1,0,0])) [1,0,0,0] 6 KT) (runs_alloc (z := .agg #[sv ([]),.slice none 0 0]) (by kernel_rfl)) ?_
  rintro _ v1 ⟨b8,rfl,hN17⟩
  have hE18 := Ku3.trans hN17.ext
  have hM19 := Mu3.new hN17
  refine os0 (.store 54 (pt b8 0) (vD (q.ds.getD i d0A))) none (kOp (cAt Y20 (ro1 4 [0,1,0,0])) [1,0,0,0] 7 KT) (runs_st (hM19.blk 0 rfl) (by kernel_rfl)) ?_
  rintro _ v2 hC20
  have hE21 := hM19.toExt hE18 hC20 0 rfl
  have hM22 := hM19.set 0 rfl hC20
  refine sgz 8 [.ld (.slice q'.a3 (p'.dests.length) (q'.c3)),.ld (vD (q'.ds.getD i d0A))] (kOp (cAt Y20 (ro1 4 [0,1,0,0])) [1,0,0,1,0] 5 KT) [(2,pt b1 0),(3,pt b2 0),(7,iv (i:Int)),(8,pt b8 0),(119,(vD (q'.ds.getD i d0A)))] [cl v2 b2 5 (.slice q'.a3 (p'.dests.length) (q'.c3)),(0 ≤ (i:Int) ∧ (i:Int) < (p'.dests.length:Int)),(q'.a3 : Option Addr) = some ⟨(slB q'.a3),slO q'.a3,none⟩,cl v2 (slB q'.a3) (slO q'.a3 + i * 2) (sv ((q'.ds.getD i d0A).d.name)),cl v2 (slB q'.a3) (slO q'.a3 + i * 2 + 1) (.slice (q'.ds.getD i d0A).a ((q'.ds.getD i d0A).d.origins.length) ((q'.ds.getD i d0A).c))] (AC (cell_of (hM22.blk 1 rfl) rfl) (AC (by omega) (AC (by assumption) (AC (hE21.cell (cellAt destC_len d0A hQ.dests hk3 (j := 0) rfl)) (A1 (hE21.cell (cellAt destC_len d0A hQ.dests hk3 (j := 1) rfl))))))) ?_
  refine os0 (.alloc 54) (some 9) (kOp (cAt Y20 (ro1 4 [0,1,0,0])) [1,0,0,1,0] 6 KT) (runs_alloc (z := .agg #[sv ([]),.slice none 0 0]) (by kernel_rfl)) ?_
  rintro _ v3 ⟨b9,rfl,hN23⟩
  have hE24 := hE21.trans hN23.ext
  have hM25 := hM22.new hN23
  refine os0 (.store 54 (pt b9 0) (vD (q'.ds.getD i d0A))) none (kOp (cAt Y20 (ro1 4 [0,1,0,0])) [1,0,0,1,0] 7 KT) (runs_st (hM25.blk 0 rfl) (by kernel_rfl)) ?_
  rintro _ v4 hC26
  have hE27 := hM25.toExt hE24 hC26 0 rfl
  have hM28 := hM25.set 0 rfl hC26
  refine sgz 19 [.ld (sv ((q.ds.getD i d0A).d.name)),.ld (sv ((q'.ds.getD i d0A).d.name)),.sym,.sym,.ld (.slice (q.ds.getD i d0A).a ((q.ds.getD i d0A).d.origins.length) ((q.ds.getD i d0A).c)),.sym,.sym,.sym,.ld (.slice (q'.ds.getD i d0A).a ((q'.ds.getD i d0A).d.origins.length) ((q'.ds.getD i d0A).c)),.sym,.sym] (kAt (cAt Y20 (ro1 4 [0,1,0,0])) [1,0,0,1,1,0,1] KT) [(2,pt b1 0),(3,pt b2 0),(7,iv (i:Int)),(8,pt b8 0),(9,pt b9 0),(133,.bool ((!(decide (((q.ds.getD i d0A).d.name) = ((q'.ds.getD i d0A).d.name)))) || (!(decide ((((q.ds.getD i d0A).d.origins.length:Nat):Int) = (((q'.ds.getD i d0A).d.origins.length:Nat):Int))))))] ((fun (z1 : Bool) => ([cl v4 b8 0 (sv ((q.ds.getD i d0A).d.name)),cl v4 b9 0 (sv ((q'.ds.getD i d0A).d.name)),z1 = true → z1 = true,z1 = true → cl v4 b8 1 (.slice (q.ds.getD i d0A).a ((q.ds.getD i d0A).d.origins.length) ((q.ds.getD i d0A).c)),z1 = true → z1 = true,z1 = true → z1 = true,z1 = true → cl v4 b9 1 (.slice (q'.ds.getD i d0A).a ((q'.ds.getD i d0A).d.origins.length) ((q'.ds.getD i d0A).c)),z1 = true → z1 = true,z1 = true → z1 = true,z1 = true → z1 = true,z1 = true → z1 = true] : List Prop)) (!(!(decide (((q.ds.getD i d0A).d.name) = ((q'.ds.getD i d0A).d.name)))))) (AC (cell_of (hM28.blk 1 rfl) rfl) (AC (cell_of (hM28.blk 0 rfl) rfl) (AC (fun h => h) (AC (fun _ => cell_of (hM28.blk 1 rfl) rfl) (AC (fun h => h) (AC (fun h => h) (AC (fun _ => cell_of (hM28.blk 0 rfl) rfl) (AC (fun h => h) (AC (fun h => h) (AC (fun h => h) (A1 (fun h => h)))))))))))) ?_
  refine brk _ ((¬ (((q.ds.getD i d0A).d.name) = ((q'.ds.getD i d0A).d.name))) ∨ (¬ ((((q.ds.getD i d0A).d.origins.length:Nat):Int) = (((q'.ds.getD i d0A).d.origins.length:Nat):Int)))) ((iffOr (iffNot iffDec) (iffNot iffDec))) (fun h2 => ?_) (fun h2 => ?_)
  ·have h3 : ¬ (p.dests.getD i d0D = p'.dests.getD i d0D) := fun e => by rw [← ea,← eb] at e; rw [e] at h2; simp at h2
   refine sg0 4 (kAt (cAt Y20 (ro1 4 [0,1,0,0])) [1,0,0,1,1,0,1,0,1] KT) [(2,pt b1 0),(3,pt b2 0),(4,.bool false),(7,iv (i:Int)),(8,pt b8 0),(9,pt b9 0)] ?_
   exact ret1 (.bool false) (⟨by rw [decide_eq_false (fun e => h3 (by rw [e]))],hE27⟩)
  have hd2 : (q.ds.getD i d0A).d.name = (q'.ds.getD i d0A).d.name ∧ (q.ds.getD i d0A).d.origins.length = (q'.ds.getD i d0A).d.origins.length := by simp only [not_or,Classical.not_not] at h2; exact ⟨h2.1,by omega⟩
  refine sg0 6 (kAt (cAt Y20 (ro1 4 [0,1,0,0])) [1,0,0,1,1,1,1,0] KT) [(2,pt b1 0),(3,pt b2 0),(7,iv (i:Int)),(8,pt b8 0),(9,pt b9 0),(10,iv 0)] ?_
  refine loopR (rsL5 p p' q q' b1 b2 b8 b9 i w) (k' := (kEnd (cAt Y20 (ro1 4 [0,1,0,0])) [1,0,0,1,1,1,1,0] KT)) (body := (cAt (cAt Y20 (ro1 4 [0,1,0,0])) [1,0,0,1,1,1,1,0,0])) (by kernel_rfl) 0 [2,3,7,8,9,10] (by kernel_rfl) (⟨hE27,hM28,Nat.zero_le _,fun j h => by omega⟩) ?_
  rintro k u5 ⟨Ku5,Mu5,hk,hkj⟩
  refine sgz 9 [.ld (.slice (q.ds.getD i d0A).a ((q.ds.getD i d0A).d.origins.length) ((q.ds.getD i d0A).c))] (kAt (cAt (cAt Y20 (ro1 4 [0,1,0,0])) [1,0,0,1,1,1,1,0,0]) [0,1] (.inv (LI 170 [] (rsL5 p p' q q' b1 b2 b8 b9 i w) k) :: (kEnd (cAt Y20 (ro1 4 [0,1,0,0])) [1,0,0,1,1,1,1,0] KT))) [(2,pt b1 0),(3,pt b2 0),(7,iv (i:Int)),(8,pt b8 0),(9,pt b9 0),(10,iv (k:Int)),(138,.bool (decide ((k:Int) < (((q.ds.getD i d0A).d.origins.length:Nat):Int))))] [cl u5 b8 1 (.slice (q.ds.getD i d0A).a ((q.ds.getD i d0A).d.origins.length) ((q.ds.getD i d0A).c))] (A1 (cell_of (Mu5.blk 1 rfl) rfl)) ?_
  refine brd ((k:Int) < (((q.ds.getD i d0A).d.origins.length:Nat):Int)) (fun hu5 => ?_) (fun hu5 => ?_)
  ·have ka : k < (q.ds.getD i d0A).d.origins.length := by omega
   have kb : k < (q'.ds.getD i d0A).d.origins.length := by omega
   have hc := oa.1.addrE intCells_len (by decide) ka
   have hd := ob.1.addrE intCells_len (by decide) kb
   refine sg0 4 (kAt (cAt (cAt Y20 (ro1 4 [0,1,0,0])) [1,0,0,1,1,1,1,0,0]) [1,0,0,0] (.inv (LI 170 [] (rsL5 p p' q q' b1 b2 b8 b9 i w) k) :: (kEnd (cAt Y20 (ro1 4 [0,1,0,0])) [1,0,0,1,1,1,1,0] KT))) [(2,pt b1 0),(3,pt b2 0),(7,iv (i:Int)),(8,pt b8 0),(9,pt b9 0),(10,iv (k:Int))] ?_
   refine dBegin (k' := (kAt (cAt (cAt Y20 (ro1 4 [0,1,0,0])) [1,0,0,1,1,1,1,0,0]) [1,0,0,1] (.inv (LI 170 [] (rsL5 p p' q q' b1 b2 b8 b9 i w) k) :: (kEnd (cAt Y20 (ro1 4 [0,1,0,0])) [1,0,0,1,1,1,1,0] KT)))) (id := 23) (m := 11) (ops := opsAt (cAt (cAt (cAt Y20 (ro1 4 [0,1,0,0])) [1,0,0,1,1,1,1,0,0]) [1,0,0,0])) (fun w1 => Ext w1) (by kernel_rfl) (PQ.body _ _ _) (by kernel_rfl) (by kernel_rfl) ?_
   intro w29 hx30
   have hE31 := Ku5.trans hx30
   have hM32 := Mu5.ext hx30
   refine dtz [0,1,2,3,4,5,6,7,8,9,10] [.ld (.slice (q.ds.getD i d0A).a ((q.ds.getD i d0A).d.origins.length) ((q.ds.getD i d0A).c)),.ld (iv ((q.ds.getD i d0A).d.origins.getD k 0)),.ld (.slice (q'.ds.getD i d0A).a ((q'.ds.getD i d0A).d.origins.length) ((q'.ds.getD i d0A).c)),.ld (iv ((q'.ds.getD i d0A).d.origins.getD k 0))] 0 (lb 11 2047) [(2,pt b1 0),(3,pt b2 0),(7,iv (i:Int)),(8,pt b8 0),(9,pt b9 0),(10,iv (k:Int)),(151,.bool (!(decide ((q.ds.getD i d0A).d.origins.getD k 0 = (q'.ds.getD i d0A).d.origins.getD k 0))))] (fun w' => [cl w' b8 1 (.slice (q.ds.getD i d0A).a ((q.ds.getD i d0A).d.origins.length) ((q.ds.getD i d0A).c)),(0 ≤ (k:Int) ∧ (k:Int) < (((q.ds.getD i d0A).d.origins.length:Nat):Int)),((q.ds.getD i d0A).a : Option Addr) = some ⟨(slB (q.ds.getD i d0A).a),slO (q.ds.getD i d0A).a,none⟩,cl w' ((slB (q.ds.getD i d0A).a)) (slO (q.ds.getD i d0A).a + k * 1) (iv ((q.ds.getD i d0A).d.origins.getD k 0)),cl w' b9 1 (.slice (q'.ds.getD i d0A).a ((q'.ds.getD i d0A).d.origins.length) ((q'.ds.getD i d0A).c)),(0 ≤ (k:Int) ∧ (k:Int) < (((q'.ds.getD i d0A).d.origins.length:Nat):Int)),((q'.ds.getD i d0A).a : Option Addr) = some ⟨(slB (q'.ds.getD i d0A).a),slO (q'.ds.getD i d0A).a,none⟩,cl w' ((slB (q'.ds.getD i d0A).a)) (slO (q'.ds.getD i d0A).a + k * 1) (iv ((q'.ds.getD i d0A).d.origins.getD k 0))]) (fun w' hS => (AC (hS.cell (cell_of (hM32.blk 1 rfl) rfl)) (AC (by omega) (AC (by assumption) (AC (hS.cell (hE31.cell (int_cell oa.1 ka))) (AC (hS.cell (cell_of (hM32.blk 0 rfl) rfl)) (AC (by omega) (AC (by assumption) (A1 (hS.cell (hE31.cell (int_cell ob.1 kb)))))))))))) (Ext.refl _) ?_
   refine dDone (by kernel_rfl) ?_
   refine brk _ (¬ ((q.ds.getD i d0A).d.origins.getD k 0 = (q'.ds.getD i d0A).d.origins.getD k 0)) ((iffNot iffDec)) (fun h4 => ?_) (fun h4 => ?_)
   ·have h3 : ¬ (p.dests.getD i d0D = p'.dests.getD i d0D) := fun e => h4 (by rw [← ea,← eb] at e; rw [e])
    refine sg0 4 (kAt (cAt (cAt Y20 (ro1 4 [0,1,0,0])) [1,0,0,1,1,1,1,0,0]) [1,0,0,1,0,1] (.inv (LI 170 [] (rsL5 p p' q q' b1 b2 b8 b9 i w) k) :: (kEnd (cAt Y20 (ro1 4 [0,1,0,0])) [1,0,0,1,1,1,1,0] KT))) [(2,pt b1 0),(3,pt b2 0),(4,.bool false),(7,iv (i:Int)),(8,pt b8 0),(9,pt b9 0),(10,iv (k:Int))] ?_
    exact ret1 (.bool false) (⟨by rw [decide_eq_false (fun e => h3 (by rw [e]))],hE31⟩)
   refine sgz 7 [] (.inv (LI 170 [] (rsL5 p p' q q' b1 b2 b8 b9 i w) k) :: (kEnd (cAt Y20 (ro1 4 [0,1,0,0])) [1,0,0,1,1,1,1,0] KT)) [(2,pt b1 0),(3,pt b2 0),(7,iv (i:Int)),(8,pt b8 0),(9,pt b9 0),(10,iv ((k + 1:Nat):Int))] [I64 ((k + 1:Nat):Int)] (A1 (i64 (by omega))) ?_
   exact again (k + 1) [2,3,7,8,9,10] (by kernel_rfl) (⟨hE31,hM32,by omega,fun j hj' => by by_cases e : j = k; (subst e; exact Classical.not_not.1 h4); exact hkj j (by omega)⟩) (show (q.ds.getD i d0A).d.origins.length - (k + 1) < (q.ds.getD i d0A).d.origins.length - k by omega)
  have h3 : p.dests.getD i d0D = p'.dests.getD i d0D := by rw [← ea,← eb]; exact destEq.2 ⟨hd2.1,eq_of_getD 0 hd2.2 (fun j hj2 => hkj j (by omega))⟩
  refine sgz 7 [] KT [(2,pt b1 0),(3,pt b2 0),(7,iv ((i + 1:Nat):Int))] [I64 ((i + 1:Nat):Int)] (A1 (i64 (by omega))) ?_
  have hM33 := Mu5.pickT 4 [2,3] (by kernel_rfl)
  subst hKT
  exact again (i + 1) [2,3,7] (by kernel_rfl) (⟨Ku5,hM33,by omega,fun j hj' => by by_cases e : j = i; (subst e; exact h3); exact hj j (by omega)⟩) (show p.dests.length - (i + 1) < p.dests.length - i by omega)
 have ed : p.dests = p'.dests := eq_of_getD d0D d6 (fun j hj2 => hj j (by omega))
 refine sg0 7 (kAt Y20 (ro1 5 [0,1,0]) []) [(2,pt b1 0),(3,pt b2 0),(11,iv 0)] ?_
 refine loopR (rsL4 p p' q q' b1 b2 w) (k' := (kEnd Y20 (ro1 5 [0,1,0]) [])) (body := (cAt Y20 (ro1 5 [0,1,0,0]))) (by kernel_rfl) 0 [2,3,11] (by kernel_rfl) (⟨Ku3,Mu3,Nat.zero_le _,fun j h => by omega⟩) ?_
 rintro i u4 ⟨Ku4,Mu4,hi,hj⟩
 refine sgz 9 [.ld (.slice q.a4 p.checks.length q.c4)] (kAt (cAt Y20 (ro1 5 [0,1,0,0])) [0,1] (.inv (LI 170 [] (rsL4 p p' q q' b1 b2 w) i) :: (kEnd Y20 (ro1 5 [0,1,0]) []))) [(2,pt b1 0),(3,pt b2 0),(11,iv (i:Int)),(156,.bool (decide ((i:Int) < (p.checks.length:Int))))] [cl u4 b1 6 (.slice q.a4 p.checks.length q.c4)] (A1 (cell_of (Mu4.blk 1 rfl) rfl)) ?_
 refine brd ((i:Int) < (p.checks.length:Int)) (fun hu4 => ?_) (fun hu4 => ?_)
 ·generalize hKT : ((.inv (LI 170 [] (rsL4 p p' q q' b1 b2 w) i) :: (kEnd Y20 (ro1 5 [0,1,0]) [])) : List Fr) = KT
  have hk2 : i < p.checks.length := by omega
  have hk3 : i < p'.checks.length := by omega
  have ha := hP.checks.addrE checkC_len (by decide) hk2
  have hb := hQ.checks.addrE checkC_len (by decide) hk3
  refine sg0 4 (kAt (cAt Y20 (ro1 5 [0,1,0,0])) [1,0,0,0] KT) [(2,pt b1 0),(3,pt b2 0),(11,iv (i:Int))] ?_
  refine dBegin (k' := (kAt (cAt Y20 (ro1 5 [0,1,0,0])) [1,0,0,1] KT)) (id := 28) (m := 11) (ops := opsAt (cAt (cAt Y20 (ro1 5 [0,1,0,0])) [1,0,0,0])) (fun w1 => Ext w1) (by kernel_rfl) (PQ.body _ _ _) (by kernel_rfl) (by kernel_rfl) ?_
  intro w34 hx35
  have hE36 := Ku4.trans hx35
  have hM37 := Mu4.ext hx35
  refine dtz [0,1,2,3,4,5,6,7,8,9,10] [.ld (.slice q.a4 p.checks.length q.c4),.ld (vC (p.checks.getD i d0C)),.ld (.slice q'.a4 (p'.checks.length) (q'.c4)),.ld (vC (p'.checks.getD i d0C))] 0 (lb 11 2047) [(2,pt b1 0),(3,pt b2 0),(11,iv (i:Int)),(169,.bool (!((decide ((p.checks.getD i d0C).kind = (p'.checks.getD i d0C).kind)) && ((decide ((p.checks.getD i d0C).node = (p'.checks.getD i d0C).node)) && ((decide ((p.checks.getD i d0C).dest = (p'.checks.getD i d0C).dest)) && ((decide ((p.checks.getD i d0C).limit = (p'.checks.getD i d0C).limit)) && (decide ((p.checks.getD i d0C).other = (p'.checks.getD i d0C).other))))))))] (fun w' => [cl w' b1 6 (.slice q.a4 p.checks.length q.c4),(0 ≤ (i:Int) ∧ (i:Int) < (p.checks.length:Int)),(q.a4 : Option Addr) = some ⟨(slB q.a4),slO q.a4,none⟩,cl w' (slB q.a4) (slO q.a4 + i * 5) (iv ((p.checks.getD i d0C).kind)),cl w' (slB q.a4) (slO q.a4 + i * 5 + 1) (iv ((p.checks.getD i d0C).node)),cl w' (slB q.a4) (slO q.a4 + i * 5 + 2) (iv ((p.checks.getD i d0C).dest)),cl w' (slB q.a4) (slO q.a4 + i * 5 + 3) (iv ((p.checks.getD i d0C).limit)),cl w' (slB q.a4) (slO q.a4 + i * 5 + 4) (iv ((p.checks.getD i d0C).other)),cl w' b2 6 (.slice q'.a4 (p'.checks.length) (q'.c4)),(0 ≤ (i:Int) ∧ (i:Int) < (p'.checks.length:Int)),(q'.a4 : Option Addr) = some ⟨(slB q'.a4),slO q'.a4,none⟩,cl w' (slB q'.a4) (slO q'.a4 + i * 5) (iv ((p'.checks.getD i d0C).kind)),cl w' (slB q'.a4) (slO q'.a4 + i * 5 + 1) (iv ((p'.checks.getD i d0C).node)),cl w' (slB q'.a4) (slO q'.a4 + i * 5 + 2) (iv ((p'.checks.getD i d0C).dest)),cl w' (slB q'.a4) (slO q'.a4 + i * 5 + 3) (iv ((p'.checks.getD i d0C).limit)),cl w' (slB q'.a4) (slO q'.a4 + i * 5 + 4) (iv ((p'.checks.getD i d0C).other))]) (fun w' hS => (AC (hS.cell (cell_of (hM37.blk 1 rfl) rfl)) (AC (by omega) (AC (by assumption) (AC (hS.cell (hE36.cell (cellAt checkC_len d0C hP.checks hk2 (j := 0) rfl))) (AC (hS.cell (hE36.cell (cellAt checkC_len d0C hP.checks hk2 (j := 1) rfl))) (AC (hS.cell (hE36.cell (cellAt checkC_len d0C hP.checks hk2 (j := 2) rfl))) (AC (hS.cell (hE36.cell (cellAt checkC_len d0C hP.checks hk2 (j := 3) rfl))) (AC (hS.cell (hE36.cell (cellAt checkC_len d0C hP.checks hk2 (j := 4) rfl))) (AC (hS.cell (cell_of (hM37.blk 0 rfl) rfl)) (AC (by omega) (AC (by assumption) (AC (hS.cell (hE36.cell (cellAt checkC_len d0C hQ.checks hk3 (j := 0) rfl))) (AC (hS.cell (hE36.cell (cellAt checkC_len d0C hQ.checks hk3 (j := 1) rfl))) (AC (hS.cell (hE36.cell (cellAt checkC_len d0C hQ.checks hk3 (j := 2) rfl))) (AC (hS.cell (hE36.cell (cellAt checkC_len d0C hQ.checks hk3 (j := 3) rfl))) (A1 (hS.cell (hE36.cell (cellAt checkC_len d0C hQ.checks hk3 (j := 4) rfl)))))))))))))))))))) (Ext.refl _) ?_
  refine dDone (by kernel_rfl) ?_
  refine brk _ (¬ (((p.checks.getD i d0C).kind = (p'.checks.getD i d0C).kind) ∧ (((p.checks.getD i d0C).node = (p'.checks.getD i d0C).node) ∧ (((p.checks.getD i d0C).dest = (p'.checks.getD i d0C).dest) ∧ (((p.checks.getD i d0C).limit = (p'.checks.getD i d0C).limit) ∧ ((p.checks.getD i d0C).other = (p'.checks.getD i d0C).other)))))) ((iffNot (iffAnd iffDec (iffAnd iffDec (iffAnd iffDec (iffAnd iffDec iffDec)))))) (fun h2 => ?_) (fun h2 => ?_)
  ·have h3 : ¬ (p.checks.getD i d0C = p'.checks.getD i d0C) := fun e => h2 (checkEq.1 e)
   refine sg0 4 (kAt (cAt Y20 (ro1 5 [0,1,0,0])) [1,0,0,1,0,1] KT) [(2,pt b1 0),(3,pt b2 0),(4,.bool false),(11,iv (i:Int))] ?_
   exact ret1 (.bool false) (⟨by rw [decide_eq_false (fun e => h3 (by rw [e]))],hE36⟩)
  have h3 : p.checks.getD i d0C = p'.checks.getD i d0C := checkEq.2 (Classical.not_not.1 h2)
  refine sgz 7 [] KT [(2,pt b1 0),(3,pt b2 0),(11,iv ((i + 1:Nat):Int))] [I64 ((i + 1:Nat):Int)] (A1 (i64 (by omega))) ?_
  subst hKT
  exact again (i + 1) [2,3,11] (by kernel_rfl) (⟨hE36,hM37,by omega,fun j hj' => by by_cases e : j = i; (subst e; exact h3); exact hj j (by omega)⟩) (show p.checks.length - (i + 1) < p.checks.length - i by omega)
 have ec : p.checks = p'.checks := eq_of_getD d0C d7 (fun j hj2 => hj j (by omega))
 refine sg0 5 (kAt Y20 (ro1 7 []) []) [(4,.bool true)] ?_
 exact ret1 (.bool true) (⟨by rw [decide_eq_true (planEq.2 ⟨d1,d2,d3,en,el,ed,ec⟩)],Ku4⟩)

end Go.Proofs.YtjhgghpeapmgdaaGreatDoor
