/-
  PLAN: the contract of the reference's Right.
-/
import Derived.Test.YtjhgghpeapmgdaaGreatDoorPlanR1
import Derived.Test.YtjhgghpeapmgdaaGreatDoorMg2
namespace Go.Proofs.YtjhgghpeapmgdaaGreatDoor
open Go.Bk Go.Proofs

theorem routing_iff {p : PPlan} : routingB p = true ↔ (p.proto = 1 ∧ p.cap = 0) ∨ (p.proto = 2 ∧ 1 ≤ p.cap ∧ p.cap ≤ 12) := by
  unfold routingB
  split
  · simp only [decide_eq_true_eq]; omega
  · split
    · rw [withinB_iff]; omega
    · simp only [Bool.false_eq_true,false_iff]; omega
theorem right_not {p : PPlan} (h : ¬ RightP p) : rightB p = false := Bool.eq_false_iff.2 fun hb => h (rightB_iff.1 hb)
theorem right_is {p : PPlan} (h1 : routingB p = true) (h2 : 0 ≤ p.k ∧ p.k ≤ 4 ∧ p.k ≤ p.links.length) (h3 : 1 ≤ p.nodes.length ∧ p.nodes.length ≤ 12) (h4 : ∀ j,j < p.nodes.length → asB (p.nodes.getD j d0N) = true) :
    rightB p = ((((((namesL p).all nameB && decide (namesL p).Nodup)) && linksB p) && ((p.dests.all fun d => destB d p.nodes.length) && decide ((p.dests.length : Int) ≤ 4))) && (p.checks.all (checkB p) && decide ((p.checks.length : Int) ≤ 16))) := by
  have h5 : nodesB p = true := by
    unfold nodesB
    rw [all_of_getD' d0N h4,Bool.and_true,withinB_iff]
    omega
  have h6 : withinB p.k 0 (min 4 p.links.length) = true := by rw [withinB_iff]; omega
  unfold rightB namedB
  rw [h1,h5,h6]
  simp only [Bool.true_and]
  rw [Bool.eq_iff_iff]
  simp only [Bool.and_eq_true]
  constructor
  · rintro ⟨⟨⟨⟨⟨a,b⟩,c⟩,d⟩,e⟩,g⟩
    exact ⟨⟨⟨d,a⟩,e,b⟩,g,c⟩
  · rintro ⟨⟨⟨d,a⟩,e,b⟩,g,c⟩
    exact ⟨⟨⟨⟨⟨a,b⟩,c⟩,d⟩,e⟩,g⟩
theorem row_atR {w : World} {B : Nat} {e : TypeId} {size n c : Nat} {a : Option Addr} {xs : List Value} (h : w.ownsRow B e size (.slice a n c) n xs) : Cells w a xs := by
  obtain ⟨a',c',hv,hc⟩ := SlV.of_owns h
  simp only [Value.slice.injEq] at hv
  rw [hv.1]; exact hc
theorem nameN_get {p : PPlan} {i : Nat} (hi : i < p.nodes.length) : (p.nodes.map (·.name)).take (i + 1) = (p.nodes.map (·.name)).take i ++ [(p.nodes.getD i d0N).name] := by
  rw [take_succ_getD' [] (by simpa using hi),List.getD_eq_getElem?_getD,List.getD_eq_getElem?_getD,List.getElem?_map,List.getElem?_eq_getElem hi]; rfl
theorem nameD_get {p : PPlan} {i : Nat} (hi : i < p.dests.length) : (p.dests.map (·.name)).take (i + 1) = (p.dests.map (·.name)).take i ++ [(p.dests.getD i d0D).name] := by
  rw [take_succ_getD' [] (by simpa using hi),List.getD_eq_getElem?_getD,List.getD_eq_getElem?_getD,List.getElem?_map,List.getElem?_eq_getElem hi]; rfl

def rrL1 (p : PPlan) (q : PAd) (b1 : Nat) (w : World) : Lp (List Bytes × Option Addr × Nat) where
  S := fun x => [(1,none,pt b1 0),(5,none,.slice x.2.1 x.1.length x.2.2),(6,none,iv (x.1.length:Int))]
  J := fun x w' => Ext w w' ∧ Hold w' w.heap.size [.row (.slice x.2.1 x.1.length x.2.2) 9 1 x.1.length (x.1.flatMap strC),.blk b1 (pc p q) 29] ∧ x.1.length ≤ p.nodes.length ∧ x.1 = (p.nodes.map (·.name)).take x.1.length ∧ ∀ j,j < x.1.length → asB (p.nodes.getD j d0N) = true
  M := fun x => p.nodes.length - x.1.length
def rrL2 (p : PPlan) (q : PAd) (b1 : Nat) (w : World) : Lp (List Bytes × Option Addr × Nat × Nat) where
  S := fun x => [(1,none,pt b1 0),(5,none,.slice x.2.1 x.1.length x.2.2.1),(7,none,iv (x.2.2.2:Int))]
  J := fun x w' => Ext w w' ∧ Hold w' w.heap.size [.row (.slice x.2.1 x.1.length x.2.2.1) 9 1 x.1.length (x.1.flatMap strC),.blk b1 (pc p q) 29] ∧ x.2.2.2 ≤ p.dests.length ∧ x.1 = p.nodes.map (·.name) ++ (p.dests.map (·.name)).take x.2.2.2
  M := fun x => p.dests.length - x.2.2.2
set_option maxRecDepth 20000 in
set_option maxHeartbeats 1000000 in
theorem rRight_any (p : PPlan) (q : PAd) (w : World) (hP : PlanAt w p q) :
    Does Tryz.prog 18 [(pv p q)] w (fun v w' => v = .bool (rightB p) ∧ Ext w w') := by
 refine startD (c := Y18) Tryz.func18 rfl (by kernel_rfl) ?_
 show G _ 145 [] _ (kAt Y18 [] []) (stz [(0,(pv p q))]) w
 have hq := hP.dlen
 have hl1 := hP.l1
 have hl2 := hP.l2
 have hl3 := hP.l3
 have hl4 := hP.l4
 have hE1 : Ext w w := Ext.refl w
 have hM2 : Hold w w.heap.size [] := Hold.nil hE1.le
 refine sg0 2 (kOp Y18 [0] 0 []) [(0,(pv p q))] ?_
 refine os0 (.box 29 (pv p q)) (some 1) (kOp Y18 [0] 1 []) (runs_box _ _) ?_
 rintro _ w1 ⟨b1,rfl,hN3⟩
 have hE4 := hE1.trans hN3.ext
 have hM5 := hM2.new hN3
 refine sgz 89 [.ld (iv p.proto),.sym,.sym,.ld (iv p.cap),.sym,.ld (iv p.proto),.sym,.sym,.ld (iv p.cap),.sym,.sym,.sym,.ld (iv p.cap),.sym,.sym,.sym,.sym,.sym,.ld (iv p.k),.sym,.sym,.sym,.ld (iv p.k),.sym,.sym,.sym,.ld (iv p.k),.sym,.sym,.ld (.slice q.a2 p.links.length q.c2),.sym,.sym,.sym,.sym,.ld (.slice q.a1 p.nodes.length q.c1),.sym,.sym,.sym,.sym,.ld (.slice q.a1 p.nodes.length q.c1),.sym,.sym,.sym,.sym,.ld (.slice q.a2 p.links.length q.c2),.sym,.sym,.sym,.sym,.ld (.slice q.a3 p.dests.length q.c3),.sym,.sym,.sym,.sym,.ld (.slice q.a4 p.checks.length q.c4),.sym,.sym] (kAt Y18 [1,1,1,0,1] []) [(1,pt b1 0),(2,.bool false),(82,.bool ((((((((((!((decide ((p.proto : Int) = (1 : Int))) && (decide ((p.cap : Int) = (0 : Int))))) && (!(((decide ((p.proto : Int) = (2 : Int))) && (decide ((1:Int) ≤ p.cap))) && (decide ((p.cap : Int) ≤ (12 : Int)))))) || (decide ((p.k : Int) < (0 : Int)))) || (decide ((4 : Int) < p.k))) || (decide ((p.links.length:Int) < p.k))) || (decide ((p.nodes.length:Int) < (1 : Int)))) || (decide ((12 : Int) < (p.nodes.length:Int)))) || (decide ((16 : Int) < (p.links.length:Int)))) || (decide ((4 : Int) < (p.dests.length:Int)))) || (decide ((16 : Int) < (p.checks.length:Int)))))] ((fun (z1 : Bool) => ((fun (z2 : Bool) => ((fun (z3 : Bool) => ((fun (z4 : Bool) => ((fun (z5 : Bool) => ((fun (z6 : Bool) => ((fun (z7 : Bool) => ((fun (z8 : Bool) => ((fun (z9 : Bool) => ((fun (z10 : Bool) => ((fun (z11 : Bool) => ([cl w1 b1 0 (iv p.proto),z9 = true → z9 = true,z9 = true → cl w1 b1 1 (iv p.cap),z9 = true → z9 = true,z9 = true → z9 = true,cl w1 b1 0 (iv p.proto),z6 = true → z6 = true,z6 = true → cl w1 b1 1 (iv p.cap),z6 = true → z6 = true,z6 = true → z6 = true,z11 = true → z11 = true,z11 = true → cl w1 b1 1 (iv p.cap),z11 = true → z11 = true,z11 = true → z11 = true,(!(z9 && (decide ((p.cap : Int) = (0 : Int))))) = true → (!(z9 && (decide ((p.cap : Int) = (0 : Int))))) = true,(!(z9 && (decide ((p.cap : Int) = (0 : Int))))) = true → (!(z9 && (decide ((p.cap : Int) = (0 : Int))))) = true,(!z3) = true → (!z3) = true,(!z3) = true → cl w1 b1 2 (iv p.k),(!z3) = true → (!z3) = true,(!z3) = true → (!z3) = true,z10 = true → z10 = true,z10 = true → cl w1 b1 2 (iv p.k),z10 = true → z10 = true,z10 = true → z10 = true,(!z1) = true → (!z1) = true,(!z1) = true → cl w1 b1 2 (iv p.k),(!z1) = true → (!z1) = true,(!z1) = true → cl w1 b1 4 (.slice q.a2 p.links.length q.c2),(!z1) = true → (!z1) = true,(!z1) = true → (!z1) = true,(!z1) = true → (!z1) = true,(!z1) = true → (!z1) = true,z8 = true → z8 = true,z8 = true → cl w1 b1 3 (.slice q.a1 p.nodes.length q.c1),z8 = true → z8 = true,z8 = true → z8 = true,z8 = true → z8 = true,z5 = true → z5 = true,z5 = true → cl w1 b1 3 (.slice q.a1 p.nodes.length q.c1),z5 = true → z5 = true,z5 = true → z5 = true,z5 = true → z5 = true,(!z2) = true → (!z2) = true,(!z2) = true → cl w1 b1 4 (.slice q.a2 p.links.length q.c2),(!z2) = true → (!z2) = true,(!z2) = true → (!z2) = true,(!z2) = true → (!z2) = true,(!z4) = true → (!z4) = true,(!z4) = true → cl w1 b1 5 (.slice q.a3 p.dests.length q.c3),(!z4) = true → (!z4) = true,(!z4) = true → (!z4) = true,(!z4) = true → (!z4) = true,z7 = true → z7 = true,z7 = true → cl w1 b1 6 (.slice q.a4 p.checks.length q.c4),z7 = true → z7 = true,z7 = true → z7 = true,z7 = true → z7 = true] : List Prop)) (z6 && (decide ((1:Int) ≤ p.cap))))) (!(z3 || (decide ((p.k : Int) < (0 : Int))))))) (decide ((p.proto : Int) = (1 : Int))))) (!(z1 || (decide ((p.links.length:Int) < p.k)))))) (!(z4 || (decide ((4 : Int) < (p.dests.length:Int))))))) (decide ((p.proto : Int) = (2 : Int))))) (!((z1 || (decide ((p.links.length:Int) < p.k))) || (decide ((p.nodes.length:Int) < (1 : Int))))))) (z2 || (decide ((16 : Int) < (p.links.length:Int)))))) ((!((decide ((p.proto : Int) = (1 : Int))) && (decide ((p.cap : Int) = (0 : Int))))) && (!(((decide ((p.proto : Int) = (2 : Int))) && (decide ((1:Int) ≤ p.cap))) && (decide ((p.cap : Int) ≤ (12 : Int)))))))) (((z1 || (decide ((p.links.length:Int) < p.k))) || (decide ((p.nodes.length:Int) < (1 : Int)))) || (decide ((12 : Int) < (p.nodes.length:Int)))))) ((((!((decide ((p.proto : Int) = (1 : Int))) && (decide ((p.cap : Int) = (0 : Int))))) && (!(((decide ((p.proto : Int) = (2 : Int))) && (decide ((1:Int) ≤ p.cap))) && (decide ((p.cap : Int) ≤ (12 : Int)))))) || (decide ((p.k : Int) < (0 : Int)))) || (decide ((4 : Int) < p.k)))) (AC (cell_of (hM5.blk 0 rfl) rfl) (AC (fun h => h) (AC (fun _ => cell_of (hM5.blk 0 rfl) rfl) (AC (fun h => h) (AC (fun h => h) (AC (cell_of (hM5.blk 0 rfl) rfl) (AC (fun h => h) (AC (fun _ => cell_of (hM5.blk 0 rfl) rfl) (AC (fun h => h) (AC (fun h => h) (AC (fun h => h) (AC (fun _ => cell_of (hM5.blk 0 rfl) rfl) (AC (fun h => h) (AC (fun h => h) (AC (fun h => h) (AC (fun h => h) (AC (fun h => h) (AC (fun _ => cell_of (hM5.blk 0 rfl) rfl) (AC (fun h => h) (AC (fun h => h) (AC (fun h => h) (AC (fun _ => cell_of (hM5.blk 0 rfl) rfl) (AC (fun h => h) (AC (fun h => h) (AC (fun h => h) (AC (fun _ => cell_of (hM5.blk 0 rfl) rfl) (AC (fun h => h) (AC (fun _ => cell_of (hM5.blk 0 rfl) rfl) (AC (fun h => h) (AC (fun h => h) (AC (fun h => h) (AC (fun h => h) (AC (fun h => h) (AC (fun _ => cell_of (hM5.blk 0 rfl) rfl) (AC (fun h => h) (AC (fun h => h) (AC (fun h => h) (AC (fun h => h) (AC (fun _ => cell_of (hM5.blk 0 rfl) rfl) (AC (fun h => h) (AC (fun h => h) (AC (fun h => h) (AC (fun h => h) (AC (fun _ => cell_of (hM5.blk 0 rfl) rfl) (AC (fun h => h) (AC (fun h => h) (AC (fun h => h) (AC (fun h => h) (AC (fun _ => cell_of (hM5.blk 0 rfl) rfl) (AC (fun h => h) (AC (fun h => h) (AC (fun h => h) (AC (fun h => h) (AC (fun _ => cell_of (hM5.blk 0 rfl) rfl) (AC (fun h => h) (AC (fun h => h) (A1 (fun h => h)))))))))))))))))))))))))))))))))))))))))))))))))))))))))) ?_
 refine brk _ ((((((((((¬ (((p.proto : Int) = (1 : Int)) ∧ ((p.cap : Int) = (0 : Int)))) ∧ (¬ ((((p.proto : Int) = (2 : Int)) ∧ ((1:Int) ≤ p.cap)) ∧ ((p.cap : Int) ≤ (12 : Int))))) ∨ ((p.k : Int) < (0 : Int))) ∨ ((4 : Int) < p.k)) ∨ ((p.links.length:Int) < p.k)) ∨ ((p.nodes.length:Int) < (1 : Int))) ∨ ((12 : Int) < (p.nodes.length:Int))) ∨ ((16 : Int) < (p.links.length:Int))) ∨ ((4 : Int) < (p.dests.length:Int))) ∨ ((16 : Int) < (p.checks.length:Int))) ((iffOr (iffOr (iffOr (iffOr (iffOr (iffOr (iffOr (iffOr (iffAnd (iffNot (iffAnd iffDec iffDec)) (iffNot (iffAnd (iffAnd iffDec iffDec) iffDec))) iffDec) iffDec) iffDec) iffDec) iffDec) iffDec) iffDec) iffDec)) (fun h0 => ?_) (fun h0 => ?_)
 ·refine sg0 4 (kAt Y18 [1,1,1,0,1,0,1] []) [(1,pt b1 0),(2,.bool false)] ?_
  exact ret1 (.bool false) (⟨by rw [right_not (fun hR => by have r1 := routing_iff.1 hR.routing; have r2 := hR.k0; have r3 := hR.k1; have r4 := hR.k2; have r5 := hR.n0; have r6 := hR.n1; have r7 := hR.l1; have r8 := hR.d1; have r9 := hR.c1; omega)],hE4⟩)
 have hro : routingB p = true := routing_iff.2 (by omega)
 have hka : 0 ≤ p.k ∧ p.k ≤ 4 ∧ p.k ≤ p.links.length := by omega
 have hna : 1 ≤ p.nodes.length ∧ p.nodes.length ≤ 12 := by omega
 have hda : p.dests.length ≤ 4 := by omega
 clear h0
 refine sg0 11 (kAt Y18 (ro1 5 [0,1,0]) []) [(1,pt b1 0),(2,.bool false),(5,.slice none 0 0),(6,iv 0)] ?_
 have hM6 := hM5.nilRow (e := 9) (size := 1)
 refine loopR (rrL1 p q b1 w) (k' := (kEnd Y18 (ro1 5 [0,1,0]) [])) (body := (cAt Y18 (ro1 5 [0,1,0,0]))) (by kernel_rfl) ([],none,0) [1,5,6] (by kernel_rfl) (⟨hE4,hM6,Nat.zero_le _,rfl,fun j h => by simp at h⟩) ?_
 rintro ⟨acc,av,cv⟩ w2 ⟨K1,M1,hi,hac,has⟩
 simp only at K1 M1 hi hac has
 show G _ _ _ _ (kAt (cAt Y18 (ro1 5 [0,1,0,0])) [] (.inv (LI 145 [] (rrL1 p q b1 w) (acc,av,cv)) :: (kEnd Y18 (ro1 5 [0,1,0]) []))) (stz [(1,pt b1 0),(5,.slice av acc.length cv),(6,iv (acc.length:Int))]) w2
 refine sgz 9 [.ld (.slice q.a1 p.nodes.length q.c1)] (kAt (cAt Y18 (ro1 5 [0,1,0,0])) [0,1] (.inv (LI 145 [] (rrL1 p q b1 w) (acc,av,cv)) :: (kEnd Y18 (ro1 5 [0,1,0]) []))) [(1,pt b1 0),(5,.slice av acc.length cv),(6,iv (acc.length:Int)),(87,.bool (decide ((acc.length:Int) < (p.nodes.length:Int))))] [cl w2 b1 3 (.slice q.a1 p.nodes.length q.c1)] (A1 (cell_of (M1.blk 1 rfl) rfl)) ?_
 refine brd ((acc.length:Int) < (p.nodes.length:Int)) (fun h1 => ?_) (fun h1 => ?_)
 ·have hi2 : acc.length < p.nodes.length := by omega
  have ha := hP.nodes.addrE nodeC_len (by decide) hi2
  generalize hKT : ((.inv (LI 145 [] (rrL1 p q b1 w) (acc,av,cv)) :: (kEnd Y18 (ro1 5 [0,1,0]) [])) : List Fr) = KT
  refine sgz 23 [.ld (.slice q.a1 p.nodes.length q.c1),.ld (iv ((p.nodes.getD acc.length d0N).asn)),.sym,.sym,.ld (.slice q.a1 p.nodes.length q.c1),.sym,.sym,.sym,.sym,.ld (iv ((p.nodes.getD acc.length d0N).asn)),.sym] (kAt (cAt Y18 (ro1 5 [0,1,0,0])) [1,0,0,0,1] KT) [(1,pt b1 0),(5,.slice av acc.length cv),(6,iv (acc.length:Int)),(105,.bool ((decide ((p.nodes.getD acc.length d0N).asn < (1 : Int))) || (decide ((65535 : Int) < (p.nodes.getD acc.length d0N).asn))))] ((fun (z1 : Bool) => ([cl w2 b1 3 (.slice q.a1 p.nodes.length q.c1),(0 ≤ (acc.length:Int) ∧ (acc.length:Int) < (p.nodes.length:Int)),(q.a1 : Option Addr) = some ⟨(slB q.a1),slO q.a1,none⟩,cl w2 (slB q.a1) (slO q.a1 + acc.length * 2 + 1) (iv ((p.nodes.getD acc.length d0N).asn)),z1 = true → z1 = true,z1 = true → cl w2 b1 3 (.slice q.a1 p.nodes.length q.c1),z1 = true → z1 = true,z1 = true → z1 = true,z1 = true → (0 ≤ (acc.length:Int) ∧ (acc.length:Int) < (p.nodes.length:Int)),z1 = true → (q.a1 : Option Addr) = some ⟨(slB q.a1),slO q.a1,none⟩,z1 = true → z1 = true,z1 = true → z1 = true,z1 = true → cl w2 (slB q.a1) (slO q.a1 + acc.length * 2 + 1) (iv ((p.nodes.getD acc.length d0N).asn)),z1 = true → z1 = true,z1 = true → z1 = true] : List Prop)) (!(decide ((p.nodes.getD acc.length d0N).asn < (1 : Int))))) (AC (cell_of (M1.blk 1 rfl) rfl) (AC (by omega) (AC (by assumption) (AC (K1.cell (cellAt nodeC_len d0N hP.nodes hi2 (j := 1) rfl)) (AC (fun h => h) (AC (fun _ => cell_of (M1.blk 1 rfl) rfl) (AC (fun h => h) (AC (fun h => h) (AC (by intro h; (try simp only [Bool.not_eq_true',decide_eq_false_iff_not] at h); first | done | omega) (AC (by intro _; assumption) (AC (fun h => h) (AC (fun h => h) (AC (fun _ => K1.cell (cellAt nodeC_len d0N hP.nodes hi2 (j := 1) rfl)) (AC (fun h => h) (A1 (fun h => h)))))))))))))))) ?_
  refine brk _ (((p.nodes.getD acc.length d0N).asn < (1 : Int)) ∨ ((65535 : Int) < (p.nodes.getD acc.length d0N).asn)) ((iffOr iffDec iffDec)) (fun h2 => ?_) (fun h2 => ?_)
  ·refine sg0 4 (kAt (cAt Y18 (ro1 5 [0,1,0,0])) [1,0,0,0,1,0,1] KT) [(1,pt b1 0),(2,.bool false),(5,.slice av acc.length cv),(6,iv (acc.length:Int))] ?_
   exact ret1 (.bool false) (⟨by rw [right_not (fun hR => by have := hR.asn _ (getD_mem' d0N hi2); omega)],K1⟩)
  refine sgz 9 [.ld (.slice q.a1 p.nodes.length q.c1),.ld (sv ((p.nodes.getD acc.length d0N).name))] (kOp (cAt Y18 (ro1 5 [0,1,0,0])) [1,0,0,1] 7 KT) [(1,pt b1 0),(5,.slice av acc.length cv),(6,iv (acc.length:Int)),(106,.slice av acc.length cv),(112,sv ((p.nodes.getD acc.length d0N).name))] [cl w2 b1 3 (.slice q.a1 p.nodes.length q.c1),(0 ≤ (acc.length:Int) ∧ (acc.length:Int) < (p.nodes.length:Int)),(q.a1 : Option Addr) = some ⟨(slB q.a1),slO q.a1,none⟩,cl w2 (slB q.a1) (slO q.a1 + acc.length * 2) (sv ((p.nodes.getD acc.length d0N).name))] (AC (cell_of (M1.blk 1 rfl) rfl) (AC (by omega) (AC (by assumption) (A1 (K1.cell (cellAt nodeC_len d0N hP.nodes hi2 (j := 0) rfl)))))) ?_
  refine os0 (.bslice 37 1 [(0,sv ((p.nodes.getD acc.length d0N).name))]) (some 113) (kOp (cAt Y18 (ro1 5 [0,1,0,0])) [1,0,0,1] 8 KT) (runs_bslice (cs := [sv ((p.nodes.getD acc.length d0N).name)]) (e := 9) (by kernel_rfl)) ?_
  rintro _ w3 ⟨be,rfl,hN7⟩
  have hE8 := K1.trans hN7.ext
  have hM9 := M1.new hN7
  refine os0 (.builtin .append #[37,37] 37 #[false,false] [.slice av acc.length cv,.slice (some ⟨be,0,none⟩) 1 1]) (some 114) (kOp (cAt Y18 (ro1 5 [0,1,0,0])) [1,0,0,1] 9 KT) (runs_appH (e := 9) (size := 1) (bytes := 16) (by kernel_rfl) (hM9.row 1 rfl) (m := 1) (news := [sv ((p.nodes.getD acc.length d0N).name)]) (hM9.blk 0 rfl) rfl (by simp [Value.oneCell']) (by omega) (by omega) hM9.base) ?_
  rintro vs10 w4 ⟨hr11,hg12,ho13⟩
  have hr14 : w4.ownsRow w.heap.size 9 1 vs10 ((acc ++ [(p.nodes.getD acc.length d0N).name]).length) ((acc ++ [(p.nodes.getD acc.length d0N).name]).flatMap strC) := by simpa [strC] using hr11
  have hE15 := hM9.toExtApp hE8 1 rfl hg12
  have hM16 := hM9.app 1 rfl hr14 hg12 ho13
  obtain ⟨av2,cv2,hvsvs10⟩ := row_slice (hM16.row 1 rfl)
  subst hvsvs10
  refine sgz 8 [] KT [(1,pt b1 0),(5,.slice av2 ((acc ++ [(p.nodes.getD acc.length d0N).name]).length) cv2),(6,iv ((acc.length + 1:Nat):Int))] [I64 ((acc.length + 1:Nat):Int)] (A1 (i64 (by omega))) ?_
  have hM17 := hM16.pickT 3 [1,2] (by kernel_rfl)
  have hal : (acc ++ [(p.nodes.getD acc.length d0N).name]).length = acc.length + 1 := by simp
  refine stEq (st' := (stz [(1,pt b1 0),(5,.slice av2 ((acc ++ [(p.nodes.getD acc.length d0N).name]).length) cv2),(6,iv (((acc ++ [(p.nodes.getD acc.length d0N).name]).length:Nat):Int))])) (by rw [show (((acc.length + 1:Nat):Int) : Int) = (((acc ++ [(p.nodes.getD acc.length d0N).name]).length:Nat):Int) from by rw [hal] <;> omega]) ?_
  subst hKT
  exact again ((acc ++ [(p.nodes.getD acc.length d0N).name]),av2,cv2) [1,5,6] (by kernel_rfl) (⟨hE15,hM17,by show (acc ++ [(p.nodes.getD acc.length d0N).name]).length ≤ _; omega,by show (acc ++ [(p.nodes.getD acc.length d0N).name]) = List.take (acc ++ [(p.nodes.getD acc.length d0N).name]).length _; rw [hal,nameN_get hi2,← hac],fun j hj => by by_cases e : j = acc.length; (subst e; unfold asB; rw [withinB_iff]; omega); exact has j (by have : j < (acc ++ [(p.nodes.getD acc.length d0N).name]).length := hj; omega)⟩) (show p.nodes.length - (acc ++ [(p.nodes.getD acc.length d0N).name]).length < p.nodes.length - acc.length by omega)
 have hlen : acc.length = p.nodes.length := by omega
 have hac2 : acc = p.nodes.map (·.name) := by rw [hac,hlen,List.take_of_length_le (by simp)]
 have has2 : ∀ j,j < p.nodes.length → asB (p.nodes.getD j d0N) = true := fun j hj => has j (by omega)
 refine sg0 7 (kAt Y18 (ro1 6 [0,1,0]) []) [(1,pt b1 0),(5,.slice av acc.length cv),(7,iv 0)] ?_
 refine loopR (rrL2 p q b1 w) (k' := (kEnd Y18 (ro1 6 [0,1,0]) [])) (body := (cAt Y18 (ro1 6 [0,1,0,0]))) (by kernel_rfl) (acc,av,cv,0) [1,5,7] (by kernel_rfl) (⟨K1,M1,Nat.zero_le _,by rw [hac2]; simp⟩) ?_
 rintro ⟨bcc,bv,cw,i⟩ w5 ⟨K2,M2,hi3,hbc⟩
 simp only at K2 M2 hi3 hbc
 show G _ _ _ _ (kAt (cAt Y18 (ro1 6 [0,1,0,0])) [] (.inv (LI 145 [] (rrL2 p q b1 w) (bcc,bv,cw,i)) :: (kEnd Y18 (ro1 6 [0,1,0]) []))) (stz [(1,pt b1 0),(5,.slice bv bcc.length cw),(7,iv (i:Int))]) w5
 have hbl : bcc.length = p.nodes.length + i := by rw [hbc]; simp; omega
 refine sgz 9 [.ld (.slice q.a3 p.dests.length q.c3)] (kAt (cAt Y18 (ro1 6 [0,1,0,0])) [0,1] (.inv (LI 145 [] (rrL2 p q b1 w) (bcc,bv,cw,i)) :: (kEnd Y18 (ro1 6 [0,1,0]) []))) [(1,pt b1 0),(5,.slice bv bcc.length cw),(7,iv (i:Int)),(119,.bool (decide ((i:Int) < (p.dests.length:Int))))] [cl w5 b1 5 (.slice q.a3 p.dests.length q.c3)] (A1 (cell_of (M2.blk 1 rfl) rfl)) ?_
 refine brd ((i:Int) < (p.dests.length:Int)) (fun h3 => ?_) (fun h3 => ?_)
 ·have hi4 : i < q.ds.length := by omega
  have hi5 : i < p.dests.length := by omega
  have ha := hP.dests.addrE destC_len (by decide) hi4
  generalize hKU : ((.inv (LI 145 [] (rrL2 p q b1 w) (bcc,bv,cw,i)) :: (kEnd Y18 (ro1 6 [0,1,0]) [])) : List Fr) = KU
  have hdg := hP.dget i
  refine sgz 11 [.ld (.slice q.a3 p.dests.length q.c3),.ld (sv ((q.ds.getD i d0A).d.name))] (kOp (cAt Y18 (ro1 6 [0,1,0,0])) [1,0,0] 7 KU) [(1,pt b1 0),(5,.slice bv bcc.length cw),(7,iv (i:Int)),(122,.slice bv bcc.length cw),(128,sv ((q.ds.getD i d0A).d.name))] [cl w5 b1 5 (.slice q.a3 p.dests.length q.c3),(0 ≤ (i:Int) ∧ (i:Int) < (p.dests.length:Int)),(q.a3 : Option Addr) = some ⟨(slB q.a3),slO q.a3,none⟩,cl w5 (slB q.a3) (slO q.a3 + i * 2) (sv ((q.ds.getD i d0A).d.name))] (AC (cell_of (M2.blk 1 rfl) rfl) (AC (by omega) (AC (by assumption) (A1 (K2.cell (cellAt destC_len d0A hP.dests hi4 (j := 0) rfl)))))) ?_
  refine os0 (.bslice 37 1 [(0,sv ((q.ds.getD i d0A).d.name))]) (some 129) (kOp (cAt Y18 (ro1 6 [0,1,0,0])) [1,0,0] 8 KU) (runs_bslice (cs := [sv ((q.ds.getD i d0A).d.name)]) (e := 9) (by kernel_rfl)) ?_
  rintro _ w6 ⟨be,rfl,hN18⟩
  have hE19 := K2.trans hN18.ext
  have hM20 := M2.new hN18
  refine os0 (.builtin .append #[37,37] 37 #[false,false] [.slice bv bcc.length cw,.slice (some ⟨be,0,none⟩) 1 1]) (some 130) (kOp (cAt Y18 (ro1 6 [0,1,0,0])) [1,0,0] 9 KU) (runs_appH (e := 9) (size := 1) (bytes := 16) (by kernel_rfl) (hM20.row 1 rfl) (m := 1) (news := [sv ((q.ds.getD i d0A).d.name)]) (hM20.blk 0 rfl) rfl (by simp [Value.oneCell']) (by omega) (by omega) hM20.base) ?_
  rintro vs21 w7 ⟨hr22,hg23,ho24⟩
  have hr25 : w7.ownsRow w.heap.size 9 1 vs21 ((bcc ++ [(q.ds.getD i d0A).d.name]).length) ((bcc ++ [(q.ds.getD i d0A).d.name]).flatMap strC) := by simpa [strC] using hr22
  have hE26 := hM20.toExtApp hE19 1 rfl hg23
  have hM27 := hM20.app 1 rfl hr25 hg23 ho24
  obtain ⟨bv2,cw2,hvsvs21⟩ := row_slice (hM27.row 1 rfl)
  subst hvsvs21
  refine sgz 8 [] KU [(1,pt b1 0),(5,.slice bv2 ((bcc ++ [(q.ds.getD i d0A).d.name]).length) cw2),(7,iv ((i + 1:Nat):Int))] [I64 ((i + 1:Nat):Int)] (A1 (i64 (by omega))) ?_
  have hM28 := hM27.pickT 3 [1,2] (by kernel_rfl)
  subst hKU
  exact again ((bcc ++ [(q.ds.getD i d0A).d.name]),bv2,cw2,i + 1) [1,5,7] (by kernel_rfl) (⟨hE26,hM28,by show i + 1 ≤ p.dests.length; omega,by show (bcc ++ [(q.ds.getD i d0A).d.name]) = _; rw [nameD_get hi5,← List.append_assoc,← hbc,hdg]⟩) (show p.dests.length - (i + 1) < p.dests.length - i by omega)
 have hil : i = p.dests.length := by omega
 have hxs : bcc = namesL p := by rw [hbc,hil,List.take_of_length_le (by simp)]; rfl
 subst hxs
 have hnl : ∀ x ∈ namesL p,x.length ≤ 9223372036854775807 := fun x hx => by have := hP.names x hx; omega
 refine sg0 4 (kOp Y18 (ro1 7 [0]) 1 []) [(1,pt b1 0),(131,.slice bv ((namesL p).length) cw)] ?_
 refine os0 _ (some 132) (kOp Y18 (ro1 7 [0]) 2 []) (runs_call E48 (rnames_any (namesL p) bv cw w5 (row_atR (M2.row 0 rfl)) hnl (by omega))) ?_
 rintro _ w8 ⟨rfl,hx8⟩
 have hE29 := K2.trans hx8
 have hM30 := M2.ext hx8
 refine sgs 2 [.sym,.ld (pv p q)] [1,133,134] (kOp Y18 (ro1 7 [0]) 4 []) [(1,none,pt b1 0),(133,none,.bool (((namesL p).all nameB) && (decide ((namesL p).Nodup)))),(134,some (((namesL p).all nameB) && (decide ((namesL p).Nodup))),(pv p q))] ((fun (z1 : Bool) => ([z1 = true → cl w8 b1 0 (iv p.proto),z1 = true → cl w8 b1 1 (iv p.cap),z1 = true → cl w8 b1 2 (iv p.k),z1 = true → cl w8 b1 3 (.slice q.a1 p.nodes.length q.c1),z1 = true → cl w8 b1 4 (.slice q.a2 p.links.length q.c2),z1 = true → cl w8 b1 5 (.slice q.a3 p.dests.length q.c3),z1 = true → cl w8 b1 6 (.slice q.a4 p.checks.length q.c4)] : List Prop)) (((namesL p).all nameB) && (decide ((namesL p).Nodup)))) (AC (fun _ => cell_of (hM30.blk 1 rfl) rfl) (AC (fun _ => cell_of (hM30.blk 1 rfl) rfl) (AC (fun _ => cell_of (hM30.blk 1 rfl) rfl) (AC (fun _ => cell_of (hM30.blk 1 rfl) rfl) (AC (fun _ => cell_of (hM30.blk 1 rfl) rfl) (AC (fun _ => cell_of (hM30.blk 1 rfl) rfl) (A1 (fun _ => cell_of (hM30.blk 1 rfl) rfl)))))))) ?_
 refine opCond (fun w' => Ext w8 w') (.bool (linksB p)) (e := .call 49 [(pv p q)]) (d := 135) (g := ((namesL p).all nameB) && (decide ((namesL p).Nodup))) (k' := (kOp Y18 (ro1 7 [0]) 5 [])) (ps := [(((namesL p).all nameB) && (decide ((namesL p).Nodup))) = true → (((namesL p).all nameB) && (decide ((namesL p).Nodup))) = true]) (by kernel_rfl) (A1 (fun h => h)) (Ext.refl w8) (fun hg => runs_call E49 (rlinks_any p q w8 (hP.ext hE29))) ?_
 rintro w9 hxw9
 have hE31 := hE29.trans hxw9
 have hM32 := hM30.ext hxw9
 refine sgs 3 [.sym,.ld (pv p q)] [1,137,138] (kOp Y18 (ro1 7 [0]) 8 []) [(1,none,pt b1 0),(137,none,.bool ((((namesL p).all nameB) && (decide ((namesL p).Nodup))) && (linksB p))),(138,some ((((namesL p).all nameB) && (decide ((namesL p).Nodup))) && (linksB p)),(pv p q))] ((fun (z1 : Bool) => ([z1 = true → z1 = true,(z1 && (linksB p)) = true → cl w9 b1 0 (iv p.proto),(z1 && (linksB p)) = true → cl w9 b1 1 (iv p.cap),(z1 && (linksB p)) = true → cl w9 b1 2 (iv p.k),(z1 && (linksB p)) = true → cl w9 b1 3 (.slice q.a1 p.nodes.length q.c1),(z1 && (linksB p)) = true → cl w9 b1 4 (.slice q.a2 p.links.length q.c2),(z1 && (linksB p)) = true → cl w9 b1 5 (.slice q.a3 p.dests.length q.c3),(z1 && (linksB p)) = true → cl w9 b1 6 (.slice q.a4 p.checks.length q.c4)] : List Prop)) (((namesL p).all nameB) && (decide ((namesL p).Nodup)))) (AC (fun h => h) (AC (fun _ => cell_of (hM32.blk 1 rfl) rfl) (AC (fun _ => cell_of (hM32.blk 1 rfl) rfl) (AC (fun _ => cell_of (hM32.blk 1 rfl) rfl) (AC (fun _ => cell_of (hM32.blk 1 rfl) rfl) (AC (fun _ => cell_of (hM32.blk 1 rfl) rfl) (AC (fun _ => cell_of (hM32.blk 1 rfl) rfl) (A1 (fun _ => cell_of (hM32.blk 1 rfl) rfl))))))))) ?_
 refine opCond (fun w' => Ext w9 w') (.bool ((p.dests.all fun d => destB d p.nodes.length) && (decide ((p.dests.length : Int) ≤ 4)))) (e := .call 50 [(pv p q)]) (d := 139) (g := (((namesL p).all nameB) && (decide ((namesL p).Nodup))) && (linksB p)) (k' := (kOp Y18 (ro1 7 [0]) 9 [])) (ps := [((((namesL p).all nameB) && (decide ((namesL p).Nodup))) && (linksB p)) = true → ((((namesL p).all nameB) && (decide ((namesL p).Nodup))) && (linksB p)) = true]) (by kernel_rfl) (A1 (fun h => h)) (Ext.refl w9) (fun hg => runs_call E50 (rdests_any p q w9 (hP.ext hE31))) ?_
 rintro wa hxwa
 have hE33 := hE31.trans hxwa
 have hM34 := hM32.ext hxwa
 refine sgs 3 [.sym,.ld (pv p q)] [141,142] (kOp Y18 (ro1 7 [0]) 12 []) [(141,none,.bool (((((namesL p).all nameB) && (decide ((namesL p).Nodup))) && (linksB p)) && ((p.dests.all fun d => destB d p.nodes.length) && (decide ((p.dests.length : Int) ≤ 4))))),(142,some (((((namesL p).all nameB) && (decide ((namesL p).Nodup))) && (linksB p)) && ((p.dests.all fun d => destB d p.nodes.length) && (decide ((p.dests.length : Int) ≤ 4)))),(pv p q))] ((fun (z1 : Bool) => ((fun (z2 : Bool) => ([z2 = true → z2 = true,z1 = true → cl wa b1 0 (iv p.proto),z1 = true → cl wa b1 1 (iv p.cap),z1 = true → cl wa b1 2 (iv p.k),z1 = true → cl wa b1 3 (.slice q.a1 p.nodes.length q.c1),z1 = true → cl wa b1 4 (.slice q.a2 p.links.length q.c2),z1 = true → cl wa b1 5 (.slice q.a3 p.dests.length q.c3),z1 = true → cl wa b1 6 (.slice q.a4 p.checks.length q.c4)] : List Prop)) ((((namesL p).all nameB) && (decide ((namesL p).Nodup))) && (linksB p)))) (((((namesL p).all nameB) && (decide ((namesL p).Nodup))) && (linksB p)) && ((p.dests.all fun d => destB d p.nodes.length) && (decide ((p.dests.length : Int) ≤ 4))))) (AC (fun h => h) (AC (fun _ => cell_of (hM34.blk 1 rfl) rfl) (AC (fun _ => cell_of (hM34.blk 1 rfl) rfl) (AC (fun _ => cell_of (hM34.blk 1 rfl) rfl) (AC (fun _ => cell_of (hM34.blk 1 rfl) rfl) (AC (fun _ => cell_of (hM34.blk 1 rfl) rfl) (AC (fun _ => cell_of (hM34.blk 1 rfl) rfl) (A1 (fun _ => cell_of (hM34.blk 1 rfl) rfl))))))))) ?_
 refine opCond (fun w' => Ext wa w') (.bool ((p.checks.all (checkB p)) && (decide ((p.checks.length : Int) ≤ 16)))) (e := .call 51 [(pv p q)]) (d := 143) (g := ((((namesL p).all nameB) && (decide ((namesL p).Nodup))) && (linksB p)) && ((p.dests.all fun d => destB d p.nodes.length) && (decide ((p.dests.length : Int) ≤ 4)))) (k' := (kOp Y18 (ro1 7 [0]) 13 [])) (ps := [(((((namesL p).all nameB) && (decide ((namesL p).Nodup))) && (linksB p)) && ((p.dests.all fun d => destB d p.nodes.length) && (decide ((p.dests.length : Int) ≤ 4)))) = true → (((((namesL p).all nameB) && (decide ((namesL p).Nodup))) && (linksB p)) && ((p.dests.all fun d => destB d p.nodes.length) && (decide ((p.dests.length : Int) ≤ 4)))) = true]) (by kernel_rfl) (A1 (fun h => h)) (Ext.refl wa) (fun hg => runs_call E51 (rchecks_any p q wa (hP.ext hE33))) ?_
 rintro wb hxwb
 have hE35 := hE33.trans hxwb
 have hM36 := hM34.ext hxwb
 refine sgz 3 [] (kAt Y18 (ro1 8 []) []) [(2,.bool ((((((namesL p).all nameB) && (decide ((namesL p).Nodup))) && (linksB p)) && ((p.dests.all fun d => destB d p.nodes.length) && (decide ((p.dests.length : Int) ≤ 4)))) && ((p.checks.all (checkB p)) && (decide ((p.checks.length : Int) ≤ 16)))))] ((fun (z1 : Bool) => ([z1 = true → z1 = true] : List Prop)) (((((namesL p).all nameB) && (decide ((namesL p).Nodup))) && (linksB p)) && ((p.dests.all fun d => destB d p.nodes.length) && (decide ((p.dests.length : Int) ≤ 4))))) (A1 (fun h => h)) ?_
 exact ret1 (.bool ((((((namesL p).all nameB) && (decide ((namesL p).Nodup))) && (linksB p)) && ((p.dests.all fun d => destB d p.nodes.length) && (decide ((p.dests.length : Int) ≤ 4)))) && ((p.checks.all (checkB p)) && (decide ((p.checks.length : Int) ≤ 16))))) (⟨by rw [right_is hro hka hna has2],hE35⟩)

end Go.Proofs.YtjhgghpeapmgdaaGreatDoor
