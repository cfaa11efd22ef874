/-
  PLAN: the contract of the reference's Same.
-/
import Derived.Test.YtcbclephakfemaaGreatRRRDoorPlanE
import Derived.Test.YtcbclephakfemaaGreatRRRDoorLz
import Derived.Test.YtcbclephakfemaaGreatRRRDoorFns
namespace Go.Proofs.YtcbclephakfemaaGreatRRRDoor
open Go.Bk Go.Proofs

theorem E12 : Proofs.Enters Tryz.prog 12 := Proofs.enters_of Tryz.func12 (by kernel_rfl) rfl

def rsL1 (p p' : PPlan) (q q' : PAd) (b1 b2 : Nat) (w : World) : Lp Nat where
  S := fun i => [(2,none,pt b1 0),(3,none,pt b2 0),(5,none,iv (i:Int))]
  J := fun i w' => Ext w w' ∧ Hold w' w.heap.size [.blk b2 (pc p' q') 29,.blk b1 (pc p q) 29] ∧ i ≤ p.nodes.length ∧ ∀ j,j < i → p.nodes.getD j d0N = p'.nodes.getD j d0N
  M := fun i => p.nodes.length - i
def rsL2 (p p' : PPlan) (q q' : PAd) (b1 b2 : Nat) (w : World) : Lp Nat where
  S := fun i => [(2,none,pt b1 0),(3,none,pt b2 0),(6,none,iv (i:Int))]
  J := fun i w' => Ext w w' ∧ Hold w' w.heap.size [.blk b2 (pc p' q') 29,.blk b1 (pc p q) 29] ∧ i ≤ p.links.length ∧ ∀ j,j < i → p.links.getD j d0L = p'.links.getD j d0L
  M := fun i => p.links.length - i
def rsL3 (p p' : PPlan) (q q' : PAd) (b1 b2 : Nat) (w : World) : Lp Nat where
  S := fun i => [(2,none,pt b1 0),(3,none,pt b2 0),(7,none,iv (i:Int))]
  J := fun i w' => Ext w w' ∧ Hold w' w.heap.size [.blk b2 (pc p' q') 29,.blk b1 (pc p q) 29] ∧ i ≤ p.dests.length ∧ ∀ j,j < i → p.dests.getD j d0D = p'.dests.getD j d0D
  M := fun i => p.dests.length - i
def rsL5 (p p' : PPlan) (q q' : PAd) (b1 b2 b8 b9 i : Nat) (w : World) : Lp Nat where
  S := fun k => [(2,none,pt b1 0),(3,none,pt b2 0),(7,none,iv (i:Int)),(8,none,pt b8 0),(9,none,pt b9 0),(10,none,iv (k:Int))]
  J := fun k w' => Ext w w' ∧ Hold w' w.heap.size [.blk b9 ([sv ((q'.ds.getD i d0A).d.name),.slice (q'.ds.getD i d0A).a ((q'.ds.getD i d0A).d.origins.length) ((q'.ds.getD i d0A).c)]) 49,.blk b8 ([sv ((q.ds.getD i d0A).d.name),.slice (q.ds.getD i d0A).a ((q.ds.getD i d0A).d.origins.length) ((q.ds.getD i d0A).c)]) 49,.blk b2 (pc p' q') 29,.blk b1 (pc p q) 29] ∧ k ≤ (q.ds.getD i d0A).d.origins.length ∧ ∀ j,j < k → (q.ds.getD i d0A).d.origins.getD j 0 = (q'.ds.getD i d0A).d.origins.getD j 0
  M := fun k => (q.ds.getD i d0A).d.origins.length - k
def rsL4 (p p' : PPlan) (q q' : PAd) (b1 b2 : Nat) (w : World) : Lp Nat where
  S := fun i => [(2,none,pt b1 0),(3,none,pt b2 0),(11,none,iv (i:Int))]
  J := fun i w' => Ext w w' ∧ Hold w' w.heap.size [.blk b2 (pc p' q') 29,.blk b1 (pc p q) 29] ∧ i ≤ p.checks.length ∧ ∀ j,j < i → p.checks.getD j d0C = p'.checks.getD j d0C
  M := fun i => p.checks.length - i
set_option maxRecDepth 20000 in
theorem rSame_any (p p' : PPlan) (q q' : PAd) (w : World) (hP : PlanAt w p q) (hQ : PlanAt w p' q') :
    Does Tryz.prog 12 [(pv p q),(pv p' q')] w (fun v w' => v = .bool (decide (p = p')) ∧ Ext w w') := by
 refine startZ (c := Y12) Tryz.func12 rfl (by kernel_rfl) ?_
 show H _ 170 [] _ (kAt Y12 [] []) (stz [(0,(pv p q)),(1,(pv p' q'))]) w
 have hq := hP.dlen
 have hr := hQ.dlen
 have hl1 := hP.l1
 have hl2 := hP.l2
 have hl3 := hP.l3
 have hl4 := hP.l4
 have hE1 : Ext w w := Ext.refl w
 have hM2 : Hold w w.heap.size [] := Hold.nil hE1.le
 refine Zb 2 29 (pv p q) (pc p q) hE1 hM2 ?_
 intro b1 w1 hE4 hM5
 refine Zb 0 29 (pv p' q') (pc p' q') hE4 hM5 ?_
 intro b2 w2 hE7 hM8
 refine Zf 61 [Ce.c 1 0,Ce.c 0 0,Ce.gn 0,Ce.y,Ce.y,Ce.gc 0 1 1,Ce.gn 0,Ce.y,Ce.y,Ce.gc 0 0 1,Ce.gn 0,Ce.gn 0,Ce.gn 0,Ce.gn 1,Ce.y,Ce.y,Ce.y,Ce.gc 1 1 2,Ce.gn 1,Ce.y,Ce.y,Ce.gc 1 0 2,Ce.gn 1,Ce.gn 1,Ce.gn 1,Ce.gn 2,Ce.y,Ce.y,Ce.y,Ce.gc 2 1 3,Ce.gn 2,Ce.gn 2,Ce.y,Ce.y,Ce.y,Ce.gc 2 0 3,Ce.gn 2,Ce.gn 2,Ce.gn 2,Ce.gn 2,Ce.gn 3,Ce.y,Ce.y,Ce.y,Ce.y,Ce.gc 3 1 4,Ce.gn 3,Ce.gn 3,Ce.y,Ce.y,Ce.y,Ce.gc 3 0 4,Ce.gn 3,Ce.gn 3,Ce.gn 3,Ce.gn 3,Ce.gn 4,Ce.y,Ce.y,Ce.y,Ce.y,Ce.gc 4 1 5,Ce.gn 4,Ce.gn 4,Ce.y,Ce.y,Ce.y,Ce.gc 4 0 5,Ce.gn 4,Ce.gn 4,Ce.gn 4,Ce.gn 4,Ce.gn 5,Ce.y,Ce.y,Ce.y,Ce.y,Ce.gc 5 1 6,Ce.gn 5,Ce.gn 5,Ce.y,Ce.y,Ce.y,Ce.gc 5 0 6,Ce.gn 5,Ce.gn 5,Ce.gn 5,Ce.gn 5,Ce.y,Ce.y] hM8 [] trivial [!(!(decide ((p.proto : Int) = p'.proto))),!((!(decide ((p.proto : Int) = p'.proto))) || (!(decide ((p.cap : Int) = p'.cap)))),!(((!(decide ((p.proto : Int) = p'.proto))) || (!(decide ((p.cap : Int) = p'.cap)))) || (!(decide ((p.k : Int) = p'.k)))),!((((!(decide ((p.proto : Int) = p'.proto))) || (!(decide ((p.cap : Int) = p'.cap)))) || (!(decide ((p.k : Int) = p'.k)))) || (!(decide ((p.nodes.length:Int) = (p'.nodes.length:Int))))),!(((((!(decide ((p.proto : Int) = p'.proto))) || (!(decide ((p.cap : Int) = p'.cap)))) || (!(decide ((p.k : Int) = p'.k)))) || (!(decide ((p.nodes.length:Int) = (p'.nodes.length:Int))))) || (!(decide ((p.links.length:Int) = (p'.links.length:Int))))),!((((((!(decide ((p.proto : Int) = p'.proto))) || (!(decide ((p.cap : Int) = p'.cap)))) || (!(decide ((p.k : Int) = p'.k)))) || (!(decide ((p.nodes.length:Int) = (p'.nodes.length:Int))))) || (!(decide ((p.links.length:Int) = (p'.links.length:Int))))) || (!(decide ((p.dests.length:Int) = (p'.dests.length:Int)))))] trivial ?_
 refine Zr 0 _ (((((((¬ ((p.proto : Int) = p'.proto)) ∨ (¬ ((p.cap : Int) = p'.cap))) ∨ (¬ ((p.k : Int) = p'.k))) ∨ (¬ ((p.nodes.length:Int) = (p'.nodes.length:Int)))) ∨ (¬ ((p.links.length:Int) = (p'.links.length:Int)))) ∨ (¬ ((p.dests.length:Int) = (p'.dests.length:Int)))) ∨ (¬ ((p.checks.length:Int) = (p'.checks.length:Int)))) ((iffOr (iffOr (iffOr (iffOr (iffOr (iffOr (iffNot iffDec) (iffNot iffDec)) (iffNot iffDec)) (iffNot iffDec)) (iffNot iffDec)) (iffNot iffDec)) (iffNot iffDec))) (fun h0 => ?_) (fun h0 => ?_)
 ·exact Z1 4 (.bool false) (⟨by rw [decide_eq_false (fun e => by subst e; revert h0; simp)],hE7⟩)
 have hd : p.proto = p'.proto ∧ p.cap = p'.cap ∧ p.k = p'.k ∧ p.nodes.length = p'.nodes.length ∧ p.links.length = p'.links.length ∧ p.dests.length = p'.dests.length ∧ p.checks.length = p'.checks.length := by simp only [not_or,Classical.not_not] at h0; omega
 obtain ⟨d1,d2,d3,d4,d5,d6,d7⟩ := hd
 refine Zs 7 [] [] trivial ?_
 refine ZLoop (rsL1 p p' q q' b1 b2 w) (k' := (kEnd Y12 [1,1,0,1,0] [])) (body := (cAt Y12 [1,1,0,1,0,0])) (by kernel_rfl) 0 [2,3,5] (by kernel_rfl) (⟨hE7,hM8,Nat.zero_le _,fun j h => by omega⟩) ?_
 rintro i u1 ⟨Ku1,Mu1,hi,hj⟩
 refine Zh 9 [.c 1 3] Mu1 trivial ?_
 refine Zq 0 ((i:Int) < (p.nodes.length:Int)) (fun hu1 => ?_) (fun hu1 => ?_)
 ·generalize hKT : ((.inv (LI 170 [] (rsL1 p p' q q' b1 b2 w) i) :: (kEnd Y12 [1,1,0,1,0] [])) : List Fr) = KT
  have hk2 : i < p.nodes.length := by omega
  have hk3 : i < p'.nodes.length := by omega
  have ha := hP.nodes.addrE nodeC_len (by decide) hk2
  have hb := hQ.nodes.addrE nodeC_len (by decide) hk3
  refine Zs 4 [] [] trivial ?_
  refine ZB 11 (kAt (cAt Y12 [1,1,0,1,0,0]) [1,0,0,1] KT) 6 (opsAt (cAt (cAt Y12 [1,1,0,1,0,0]) [1,0,0,0])) (fun w1 => Ext w1) ?_
  intro w9 hx10
  obtain ⟨hE11,hM12⟩ := Xt Ku1 Mu1 hx10
  refine dh [0,1,2,3,4,5,6,7,8,9,10] [.c 1 3,.p (fun _ => (0 ≤ (i:Int) ∧ (i:Int) < (p.nodes.length:Int))),.p (fun _ => (q.a1 : Option Addr) = some ⟨(slB q.a1),slO q.a1,none⟩),.p (fun w' => (w').cell? ⟨(slB q.a1),slO q.a1 + i * 2,none⟩ = some (sv ((p.nodes.getD i d0N).name))),.p (fun w' => (w').cell? ⟨(slB q.a1),slO q.a1 + i * 2 + 1,none⟩ = some (iv ((p.nodes.getD i d0N).asn))),.v (vN (p.nodes.getD i d0N)),.c 0 3,.p (fun _ => (0 ≤ (i:Int) ∧ (i:Int) < (p'.nodes.length:Int))),.p (fun _ => (q'.a1 : Option Addr) = some ⟨(slB q'.a1),slO q'.a1,none⟩),.p (fun w' => (w').cell? ⟨(slB q'.a1),slO q'.a1 + i * 2,none⟩ = some (sv ((p'.nodes.getD i d0N).name))),.p (fun w' => (w').cell? ⟨(slB q'.a1),slO q'.a1 + i * 2 + 1,none⟩ = some (iv ((p'.nodes.getD i d0N).asn))),.v (vN (p'.nodes.getD i d0N))] 0 (lb 11 2047) hM12 (fun _ h => h) [] trivial [] (fun w' hS => (AC (by omega) (AC (by assumption) (AC (hS.cell (hE11.cell (cellAt nodeC_len d0N hP.nodes hk2 (j := 0) rfl))) (AC (hS.cell (hE11.cell (cellAt nodeC_len d0N hP.nodes hk2 (j := 1) rfl))) (AC (by omega) (AC (by assumption) (AC (hS.cell (hE11.cell (cellAt nodeC_len d0N hQ.nodes hk3 (j := 0) rfl))) (A1 (hS.cell (hE11.cell (cellAt nodeC_len d0N hQ.nodes hk3 (j := 1) rfl)))))))))))) (Ext.refl _) ?_
  refine ZD ?_
  refine Zr 0 _ (¬ ((((p.nodes.getD i d0N).name) = ((p'.nodes.getD i d0N).name)) ∧ ((p.nodes.getD i d0N).asn = (p'.nodes.getD i d0N).asn))) ((iffNot (iffAnd iffDec iffDec))) (fun h2 => ?_) (fun h2 => ?_)
  ·have h3 : ¬ (p.nodes.getD i d0N = p'.nodes.getD i d0N) := fun e => h2 (nodeEq.1 e)
   exact Z1 4 (.bool false) (⟨by rw [decide_eq_false (fun e => h3 (by rw [e]))],hE11⟩)
  have h3 : p.nodes.getD i d0N = p'.nodes.getD i d0N := nodeEq.2 (Classical.not_not.1 h2)
  refine Zs 7 [] [I64 ((i + 1:Nat):Int)] (A1 (i64 (by omega))) ?_
  subst hKT
  exact ZA 0 (rsL1 p p' q q' b1 b2 w) i (i + 1) [2,3,5] (⟨hE11,hM12,by omega,fun j hj' => by by_cases e : j = i; (subst e; exact h3); exact hj j (by omega)⟩) (show p.nodes.length - (i + 1) < p.nodes.length - i by omega)
 have en : p.nodes = p'.nodes := eq_of_getD d0N d4 (fun j hj2 => hj j (by omega))
 refine Zs 7 [] [] trivial ?_
 refine ZLoop (rsL2 p p' q q' b1 b2 w) (k' := (kEnd Y12 [1,1,1,0,1,0] [])) (body := (cAt Y12 [1,1,1,0,1,0,0])) (by kernel_rfl) 0 [2,3,6] (by kernel_rfl) (⟨Ku1,Mu1,Nat.zero_le _,fun j h => by omega⟩) ?_
 rintro i u2 ⟨Ku2,Mu2,hi,hj⟩
 refine Zh 9 [.c 1 4] Mu2 trivial ?_
 refine Zq 0 ((i:Int) < (p.links.length:Int)) (fun hu2 => ?_) (fun hu2 => ?_)
 ·generalize hKT : ((.inv (LI 170 [] (rsL2 p p' q q' b1 b2 w) i) :: (kEnd Y12 [1,1,1,0,1,0] [])) : List Fr) = KT
  have hk2 : i < p.links.length := by omega
  have hk3 : i < p'.links.length := by omega
  have ha := hP.links.addrE linkC_len (by decide) hk2
  have hb := hQ.links.addrE linkC_len (by decide) hk3
  refine Zs 4 [] [] trivial ?_
  refine ZB 11 (kAt (cAt Y12 [1,1,1,0,1,0,0]) [1,0,0,1] KT) 11 (opsAt (cAt (cAt Y12 [1,1,1,0,1,0,0]) [1,0,0,0])) (fun w1 => Ext w1) ?_
  intro w13 hx14
  obtain ⟨hE15,hM16⟩ := Xt Ku2 Mu2 hx14
  refine dh [0,1,2,3,4,5,6,7,8,9,10] [.c 1 4,.p (fun _ => (0 ≤ (i:Int) ∧ (i:Int) < (p.links.length:Int))),.p (fun _ => (q.a2 : Option Addr) = some ⟨(slB q.a2),slO q.a2,none⟩),.p (fun w' => (w').cell? ⟨(slB q.a2),slO q.a2 + i * 3,none⟩ = some (iv ((p.links.getD i d0L).a))),.p (fun w' => (w').cell? ⟨(slB q.a2),slO q.a2 + i * 3 + 1,none⟩ = some (iv ((p.links.getD i d0L).b))),.p (fun w' => (w').cell? ⟨(slB q.a2),slO q.a2 + i * 3 + 2,none⟩ = some (iv ((p.links.getD i d0L).cost))),.v (vL (p.links.getD i d0L)),.c 0 4,.p (fun _ => (0 ≤ (i:Int) ∧ (i:Int) < (p'.links.length:Int))),.p (fun _ => (q'.a2 : Option Addr) = some ⟨(slB q'.a2),slO q'.a2,none⟩),.p (fun w' => (w').cell? ⟨(slB q'.a2),slO q'.a2 + i * 3,none⟩ = some (iv ((p'.links.getD i d0L).a))),.p (fun w' => (w').cell? ⟨(slB q'.a2),slO q'.a2 + i * 3 + 1,none⟩ = some (iv ((p'.links.getD i d0L).b))),.p (fun w' => (w').cell? ⟨(slB q'.a2),slO q'.a2 + i * 3 + 2,none⟩ = some (iv ((p'.links.getD i d0L).cost))),.v (vL (p'.links.getD i d0L))] 0 (lb 11 2047) hM16 (fun _ h => h) [] trivial [] (fun w' hS => (AC (by omega) (AC (by assumption) (AC (hS.cell (hE15.cell (cellAt linkC_len d0L hP.links hk2 (j := 0) rfl))) (AC (hS.cell (hE15.cell (cellAt linkC_len d0L hP.links hk2 (j := 1) rfl))) (AC (hS.cell (hE15.cell (cellAt linkC_len d0L hP.links hk2 (j := 2) rfl))) (AC (by omega) (AC (by assumption) (AC (hS.cell (hE15.cell (cellAt linkC_len d0L hQ.links hk3 (j := 0) rfl))) (AC (hS.cell (hE15.cell (cellAt linkC_len d0L hQ.links hk3 (j := 1) rfl))) (A1 (hS.cell (hE15.cell (cellAt linkC_len d0L hQ.links hk3 (j := 2) rfl)))))))))))))) (Ext.refl _) ?_
  refine ZD ?_
  refine Zr 0 _ (¬ (((p.links.getD i d0L).a = (p'.links.getD i d0L).a) ∧ (((p.links.getD i d0L).b = (p'.links.getD i d0L).b) ∧ ((p.links.getD i d0L).cost = (p'.links.getD i d0L).cost)))) ((iffNot (iffAnd iffDec (iffAnd iffDec iffDec)))) (fun h2 => ?_) (fun h2 => ?_)
  ·have h3 : ¬ (p.links.getD i d0L = p'.links.getD i d0L) := fun e => h2 (linkEq.1 e)
   exact Z1 4 (.bool false) (⟨by rw [decide_eq_false (fun e => h3 (by rw [e]))],hE15⟩)
  have h3 : p.links.getD i d0L = p'.links.getD i d0L := linkEq.2 (Classical.not_not.1 h2)
  refine Zs 7 [] [I64 ((i + 1:Nat):Int)] (A1 (i64 (by omega))) ?_
  subst hKT
  exact ZA 0 (rsL2 p p' q q' b1 b2 w) i (i + 1) [2,3,6] (⟨hE15,hM16,by omega,fun j hj' => by by_cases e : j = i; (subst e; exact h3); exact hj j (by omega)⟩) (show p.links.length - (i + 1) < p.links.length - i by omega)
 have el : p.links = p'.links := eq_of_getD d0L d5 (fun j hj2 => hj j (by omega))
 refine Zs 7 [] [] trivial ?_
 refine ZLoop (rsL3 p p' q q' b1 b2 w) (k' := (kEnd Y12 (ro1 4 [0,1,0]) [])) (body := (cAt Y12 (ro1 4 [0,1,0,0]))) (by kernel_rfl) 0 [2,3,7] (by kernel_rfl) (⟨Ku2,Mu2,Nat.zero_le _,fun j h => by omega⟩) ?_
 rintro i u3 ⟨Ku3,Mu3,hi,hj⟩
 refine Zh 9 [.c 1 5] Mu3 trivial ?_
 refine Zq 0 ((i:Int) < (p.dests.length:Int)) (fun hu3 => ?_) (fun hu3 => ?_)
 ·generalize hKT : ((.inv (LI 170 [] (rsL3 p p' q q' b1 b2 w) i) :: (kEnd Y12 (ro1 4 [0,1,0]) [])) : List Fr) = KT
  have hk2 : i < q.ds.length := by omega
  have hk3 : i < q'.ds.length := by omega
  have ha := hP.dests.addrE destC_len (by decide) hk2
  have hb := hQ.dests.addrE destC_len (by decide) hk3
  have ea := hP.dget i
  have eb := hQ.dget i
  have oa := hP.orig _ (getD_mem' d0A hk2)
  have ob := hQ.orig _ (getD_mem' d0A hk3)
  refine Zh 10 [.c 1 5,.p (fun _ => (0 ≤ (i:Int) ∧ (i:Int) < (p.dests.length:Int))),.p (fun _ => (q.a3 : Option Addr) = some ⟨(slB q.a3),slO q.a3,none⟩),.p (fun _ => u3.cell? ⟨(slB q.a3),slO q.a3 + i * 2,none⟩ = some (sv ((q.ds.getD i d0A).d.name))),.p (fun _ => u3.cell? ⟨(slB q.a3),slO q.a3 + i * 2 + 1,none⟩ = some (.slice (q.ds.getD i d0A).a ((q.ds.getD i d0A).d.origins.length) ((q.ds.getD i d0A).c))),.v (vD (q.ds.getD i d0A))] Mu3 (AC (by omega) (AC (by assumption) (AC (Ku3.cell (cellAt destC_len d0A hP.dests hk2 (j := 0) rfl)) (A1 (Ku3.cell (cellAt destC_len d0A hP.dests hk2 (j := 1) rfl)))))) ?_
  refine Za 0 49 [sv ([]),.slice none 0 0] Ku3 Mu3 ?_
  intro b8 v1 hE18 hM19
  refine Zt 0 0 0 (vD (q.ds.getD i d0A)) rfl hE18 hM19 ?_
  intro v2 hE21 hM22
  refine Zh 8 [.c 1 5,.p (fun _ => (0 ≤ (i:Int) ∧ (i:Int) < (p'.dests.length:Int))),.p (fun _ => (q'.a3 : Option Addr) = some ⟨(slB q'.a3),slO q'.a3,none⟩),.p (fun _ => v2.cell? ⟨(slB q'.a3),slO q'.a3 + i * 2,none⟩ = some (sv ((q'.ds.getD i d0A).d.name))),.p (fun _ => v2.cell? ⟨(slB q'.a3),slO q'.a3 + i * 2 + 1,none⟩ = some (.slice (q'.ds.getD i d0A).a ((q'.ds.getD i d0A).d.origins.length) ((q'.ds.getD i d0A).c))),.v (vD (q'.ds.getD i d0A))] hM22 (AC (by omega) (AC (by assumption) (AC (hE21.cell (cellAt destC_len d0A hQ.dests hk3 (j := 0) rfl)) (A1 (hE21.cell (cellAt destC_len d0A hQ.dests hk3 (j := 1) rfl)))))) ?_
  refine Za 0 49 [sv ([]),.slice none 0 0] hE21 hM22 ?_
  intro b9 v3 hE24 hM25
  refine Zt 0 0 0 (vD (q'.ds.getD i d0A)) rfl hE24 hM25 ?_
  intro v4 hE27 hM28
  refine Zf 19 [.c 1 0,.c 0 0,.gn 0,.y,.y,.gc 0 1 1,.gn 0,.gn 0,.y,.y,.y,.gc 0 0 1,.gn 0,.gn 0,.gn 0,.gn 0,.y,.y] hM28 [] trivial [!(!(decide (((q.ds.getD i d0A).d.name) = ((q'.ds.getD i d0A).d.name))))] trivial ?_
  refine Zr 0 _ ((¬ (((q.ds.getD i d0A).d.name) = ((q'.ds.getD i d0A).d.name))) ∨ (¬ ((((q.ds.getD i d0A).d.origins.length:Nat):Int) = (((q'.ds.getD i d0A).d.origins.length:Nat):Int)))) ((iffOr (iffNot iffDec) (iffNot iffDec))) (fun h2 => ?_) (fun h2 => ?_)
  ·have h3 : ¬ (p.dests.getD i d0D = p'.dests.getD i d0D) := fun e => by rw [← ea,← eb] at e; rw [e] at h2; simp at h2
   exact Z1 4 (.bool false) (⟨by rw [decide_eq_false (fun e => h3 (by rw [e]))],hE27⟩)
  have hd2 : (q.ds.getD i d0A).d.name = (q'.ds.getD i d0A).d.name ∧ (q.ds.getD i d0A).d.origins.length = (q'.ds.getD i d0A).d.origins.length := by simp only [not_or,Classical.not_not] at h2; exact ⟨h2.1,by omega⟩
  refine Zs 6 [] [] trivial ?_
  refine ZLoop (rsL5 p p' q q' b1 b2 b8 b9 i w) (k' := (kEnd (cAt Y12 (ro1 4 [0,1,0,0])) [1,0,0,1,1,1,1,0] KT)) (body := (cAt (cAt Y12 (ro1 4 [0,1,0,0])) [1,0,0,1,1,1,1,0,0])) (by kernel_rfl) 0 [2,3,7,8,9,10] (by kernel_rfl) (⟨hE27,hM28,Nat.zero_le _,fun j h => by omega⟩) ?_
  rintro k u5 ⟨Ku5,Mu5,hk,hkj⟩
  refine Zh 9 [.c 1 1] Mu5 trivial ?_
  refine Zq 0 ((k:Int) < (((q.ds.getD i d0A).d.origins.length:Nat):Int)) (fun hu5 => ?_) (fun hu5 => ?_)
  ·have ka : k < (q.ds.getD i d0A).d.origins.length := by omega
   have kb : k < (q'.ds.getD i d0A).d.origins.length := by omega
   have hc := oa.1.addrE intCells_len (by decide) ka
   have hd := ob.1.addrE intCells_len (by decide) kb
   refine Zs 4 [] [] trivial ?_
   refine ZB 11 (kAt (cAt (cAt Y12 (ro1 4 [0,1,0,0])) [1,0,0,1,1,1,1,0,0]) [1,0,0,1] (.inv (LI 170 [] (rsL5 p p' q q' b1 b2 b8 b9 i w) k) :: (kEnd (cAt Y12 (ro1 4 [0,1,0,0])) [1,0,0,1,1,1,1,0] KT))) 23 (opsAt (cAt (cAt (cAt Y12 (ro1 4 [0,1,0,0])) [1,0,0,1,1,1,1,0,0]) [1,0,0,0])) (fun w1 => Ext w1) ?_
   intro w29 hx30
   obtain ⟨hE31,hM32⟩ := Xt Ku5 Mu5 hx30
   refine dh [0,1,2,3,4,5,6,7,8,9,10] [.c 1 1,.p (fun _ => (0 ≤ (k:Int) ∧ (k:Int) < (((q.ds.getD i d0A).d.origins.length:Nat):Int))),.p (fun _ => ((q.ds.getD i d0A).a : Option Addr) = some ⟨(slB (q.ds.getD i d0A).a),slO (q.ds.getD i d0A).a,none⟩),.p (fun w' => (w').cell? ⟨(slB (q.ds.getD i d0A).a),slO (q.ds.getD i d0A).a + k * 1,none⟩ = some (iv ((q.ds.getD i d0A).d.origins.getD k 0))),.v (iv ((q.ds.getD i d0A).d.origins.getD k 0)),.c 0 1,.p (fun _ => (0 ≤ (k:Int) ∧ (k:Int) < (((q'.ds.getD i d0A).d.origins.length:Nat):Int))),.p (fun _ => ((q'.ds.getD i d0A).a : Option Addr) = some ⟨(slB (q'.ds.getD i d0A).a),slO (q'.ds.getD i d0A).a,none⟩),.p (fun w' => (w').cell? ⟨(slB (q'.ds.getD i d0A).a),slO (q'.ds.getD i d0A).a + k * 1,none⟩ = some (iv ((q'.ds.getD i d0A).d.origins.getD k 0))),.v (iv ((q'.ds.getD i d0A).d.origins.getD k 0))] 0 (lb 11 2047) hM32 (fun _ h => h) [] trivial [] (fun w' hS => (AC (by omega) (AC (by assumption) (AC (hS.cell (hE31.cell (int_cell oa.1 ka))) (AC (by omega) (AC (by assumption) (A1 (hS.cell (hE31.cell (int_cell ob.1 kb)))))))))) (Ext.refl _) ?_
   refine ZD ?_
   refine Zr 0 _ (¬ ((q.ds.getD i d0A).d.origins.getD k 0 = (q'.ds.getD i d0A).d.origins.getD k 0)) ((iffNot iffDec)) (fun h4 => ?_) (fun h4 => ?_)
   ·have h3 : ¬ (p.dests.getD i d0D = p'.dests.getD i d0D) := fun e => h4 (by rw [← ea,← eb] at e; rw [e])
    exact Z1 4 (.bool false) (⟨by rw [decide_eq_false (fun e => h3 (by rw [e]))],hE31⟩)
   refine Zs 7 [] [I64 ((k + 1:Nat):Int)] (A1 (i64 (by omega))) ?_
   exact ZA 0 (rsL5 p p' q q' b1 b2 b8 b9 i w) k (k + 1) [2,3,7,8,9,10] (⟨hE31,hM32,by omega,fun j hj' => by by_cases e : j = k; (subst e; exact Classical.not_not.1 h4); exact hkj j (by omega)⟩) (show (q.ds.getD i d0A).d.origins.length - (k + 1) < (q.ds.getD i d0A).d.origins.length - k by omega)
  have h3 : p.dests.getD i d0D = p'.dests.getD i d0D := by rw [← ea,← eb]; exact destEq.2 ⟨hd2.1,eq_of_getD 0 hd2.2 (fun j hj2 => hkj j (by omega))⟩
  refine Zs 7 [] [I64 ((i + 1:Nat):Int)] (A1 (i64 (by omega))) ?_
  have hM33 := Mu5.pickT 4 [2,3] (by kernel_rfl)
  subst hKT
  exact ZA 0 (rsL3 p p' q q' b1 b2 w) i (i + 1) [2,3,7] (⟨Ku5,hM33,by omega,fun j hj' => by by_cases e : j = i; (subst e; exact h3); exact hj j (by omega)⟩) (show p.dests.length - (i + 1) < p.dests.length - i by omega)
 have ed : p.dests = p'.dests := eq_of_getD d0D d6 (fun j hj2 => hj j (by omega))
 refine Zs 7 [] [] trivial ?_
 refine ZLoop (rsL4 p p' q q' b1 b2 w) (k' := (kEnd Y12 (ro1 5 [0,1,0]) [])) (body := (cAt Y12 (ro1 5 [0,1,0,0]))) (by kernel_rfl) 0 [2,3,11] (by kernel_rfl) (⟨Ku3,Mu3,Nat.zero_le _,fun j h => by omega⟩) ?_
 rintro i u4 ⟨Ku4,Mu4,hi,hj⟩
 refine Zh 9 [.c 1 6] Mu4 trivial ?_
 refine Zq 0 ((i:Int) < (p.checks.length:Int)) (fun hu4 => ?_) (fun hu4 => ?_)
 ·generalize hKT : ((.inv (LI 170 [] (rsL4 p p' q q' b1 b2 w) i) :: (kEnd Y12 (ro1 5 [0,1,0]) [])) : List Fr) = KT
  have hk2 : i < p.checks.length := by omega
  have hk3 : i < p'.checks.length := by omega
  have ha := hP.checks.addrE checkC_len (by decide) hk2
  have hb := hQ.checks.addrE checkC_len (by decide) hk3
  refine Zs 4 [] [] trivial ?_
  refine ZB 11 (kAt (cAt Y12 (ro1 5 [0,1,0,0])) [1,0,0,1] KT) 28 (opsAt (cAt (cAt Y12 (ro1 5 [0,1,0,0])) [1,0,0,0])) (fun w1 => Ext w1) ?_
  intro w34 hx35
  obtain ⟨hE36,hM37⟩ := Xt Ku4 Mu4 hx35
  refine dh [0,1,2,3,4,5,6,7,8,9,10] [.c 1 6,.p (fun _ => (0 ≤ (i:Int) ∧ (i:Int) < (p.checks.length:Int))),.p (fun _ => (q.a4 : Option Addr) = some ⟨(slB q.a4),slO q.a4,none⟩),.p (fun w' => (w').cell? ⟨(slB q.a4),slO q.a4 + i * 5,none⟩ = some (iv ((p.checks.getD i d0C).kind))),.p (fun w' => (w').cell? ⟨(slB q.a4),slO q.a4 + i * 5 + 1,none⟩ = some (iv ((p.checks.getD i d0C).node))),.p (fun w' => (w').cell? ⟨(slB q.a4),slO q.a4 + i * 5 + 2,none⟩ = some (iv ((p.checks.getD i d0C).dest))),.p (fun w' => (w').cell? ⟨(slB q.a4),slO q.a4 + i * 5 + 3,none⟩ = some (iv ((p.checks.getD i d0C).limit))),.p (fun w' => (w').cell? ⟨(slB q.a4),slO q.a4 + i * 5 + 4,none⟩ = some (iv ((p.checks.getD i d0C).other))),.v (vC (p.checks.getD i d0C)),.c 0 6,.p (fun _ => (0 ≤ (i:Int) ∧ (i:Int) < (p'.checks.length:Int))),.p (fun _ => (q'.a4 : Option Addr) = some ⟨(slB q'.a4),slO q'.a4,none⟩),.p (fun w' => (w').cell? ⟨(slB q'.a4),slO q'.a4 + i * 5,none⟩ = some (iv ((p'.checks.getD i d0C).kind))),.p (fun w' => (w').cell? ⟨(slB q'.a4),slO q'.a4 + i * 5 + 1,none⟩ = some (iv ((p'.checks.getD i d0C).node))),.p (fun w' => (w').cell? ⟨(slB q'.a4),slO q'.a4 + i * 5 + 2,none⟩ = some (iv ((p'.checks.getD i d0C).dest))),.p (fun w' => (w').cell? ⟨(slB q'.a4),slO q'.a4 + i * 5 + 3,none⟩ = some (iv ((p'.checks.getD i d0C).limit))),.p (fun w' => (w').cell? ⟨(slB q'.a4),slO q'.a4 + i * 5 + 4,none⟩ = some (iv ((p'.checks.getD i d0C).other))),.v (vC (p'.checks.getD i d0C))] 0 (lb 11 2047) hM37 (fun _ h => h) [] trivial [] (fun w' hS => (AC (by omega) (AC (by assumption) (AC (hS.cell (hE36.cell (cellAt checkC_len d0C hP.checks hk2 (j := 0) rfl))) (AC (hS.cell (hE36.cell (cellAt checkC_len d0C hP.checks hk2 (j := 1) rfl))) (AC (hS.cell (hE36.cell (cellAt checkC_len d0C hP.checks hk2 (j := 2) rfl))) (AC (hS.cell (hE36.cell (cellAt checkC_len d0C hP.checks hk2 (j := 3) rfl))) (AC (hS.cell (hE36.cell (cellAt checkC_len d0C hP.checks hk2 (j := 4) rfl))) (AC (by omega) (AC (by assumption) (AC (hS.cell (hE36.cell (cellAt checkC_len d0C hQ.checks hk3 (j := 0) rfl))) (AC (hS.cell (hE36.cell (cellAt checkC_len d0C hQ.checks hk3 (j := 1) rfl))) (AC (hS.cell (hE36.cell (cellAt checkC_len d0C hQ.checks hk3 (j := 2) rfl))) (AC (hS.cell (hE36.cell (cellAt checkC_len d0C hQ.checks hk3 (j := 3) rfl))) (A1 (hS.cell (hE36.cell (cellAt checkC_len d0C hQ.checks hk3 (j := 4) rfl)))))))))))))))))) (Ext.refl _) ?_
  refine ZD ?_
  refine Zr 0 _ (¬ (((p.checks.getD i d0C).kind = (p'.checks.getD i d0C).kind) ∧ (((p.checks.getD i d0C).node = (p'.checks.getD i d0C).node) ∧ (((p.checks.getD i d0C).dest = (p'.checks.getD i d0C).dest) ∧ (((p.checks.getD i d0C).limit = (p'.checks.getD i d0C).limit) ∧ ((p.checks.getD i d0C).other = (p'.checks.getD i d0C).other)))))) ((iffNot (iffAnd iffDec (iffAnd iffDec (iffAnd iffDec (iffAnd iffDec iffDec)))))) (fun h2 => ?_) (fun h2 => ?_)
  ·have h3 : ¬ (p.checks.getD i d0C = p'.checks.getD i d0C) := fun e => h2 (checkEq.1 e)
   exact Z1 4 (.bool false) (⟨by rw [decide_eq_false (fun e => h3 (by rw [e]))],hE36⟩)
  have h3 : p.checks.getD i d0C = p'.checks.getD i d0C := checkEq.2 (Classical.not_not.1 h2)
  refine Zs 7 [] [I64 ((i + 1:Nat):Int)] (A1 (i64 (by omega))) ?_
  subst hKT
  exact ZA 0 (rsL4 p p' q q' b1 b2 w) i (i + 1) [2,3,11] (⟨hE36,hM37,by omega,fun j hj' => by by_cases e : j = i; (subst e; exact h3); exact hj j (by omega)⟩) (show p.checks.length - (i + 1) < p.checks.length - i by omega)
 have ec : p.checks = p'.checks := eq_of_getD d0C d7 (fun j hj2 => hj j (by omega))
 exact Z1 5 (.bool true) (⟨by rw [decide_eq_true (planEq.2 ⟨d1,d2,d3,en,el,ed,ec⟩)],Ku4⟩)

end Go.Proofs.YtcbclephakfemaaGreatRRRDoor
