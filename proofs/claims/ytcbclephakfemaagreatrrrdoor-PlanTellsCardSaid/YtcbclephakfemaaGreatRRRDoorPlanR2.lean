/-
  PLAN: the contract of the reference's Right.
-/
import Derived.Test.YtcbclephakfemaaGreatRRRDoorPlanR1
import Derived.Test.YtcbclephakfemaaGreatRRRDoorLz
import Derived.Test.YtcbclephakfemaaGreatRRRDoorFns
namespace Go.Proofs.YtcbclephakfemaaGreatRRRDoor
open Go.Bk Go.Proofs

theorem routing_iff {p : PPlan} : routingB p = true ↔ (p.proto = 1 ∧ p.cap = 0) ∨ (p.proto = 2 ∧ 1 ≤ p.cap ∧ p.cap ≤ 12) := by
  unfold routingB
  split
  · simp only [decide_eq_true_eq]; omega
  · split
    · rw [withinB_iff]; omega
    · simp only [Bool.false_eq_true,false_iff]; omega
theorem right_not {p : PPlan} (h : ¬ RightP p) : rightB p = false := Bool.eq_false_iff.2 fun hb => h (rightB_iff.1 hb)
theorem right_is {p : PPlan} (h1 : routingB p = true) (h2 : 0 ≤ p.k ∧ p.k ≤ 4 ∧ p.k ≤ p.links.length) (h3 : 1 ≤ p.nodes.length ∧ p.nodes.length ≤ 12) (h4 : ∀ j,j < p.nodes.length → asB (p.nodes.getD j d0N) = true) :
    rightB p = ((((((namesL p).all nameB && decide (namesL p).Nodup)) && linksB p) && ((p.dests.all fun d => destB d p.nodes.length) && decide ((p.dests.length : Int) ≤ 4))) && (p.checks.all (checkB p) && decide ((p.checks.length : Int) ≤ 16))) := by
  have h5 : nodesB p = true := by
    unfold nodesB
    rw [all_of_getD' d0N h4,Bool.and_true,withinB_iff]
    omega
  have h6 : withinB p.k 0 (min 4 p.links.length) = true := by rw [withinB_iff]; omega
  unfold rightB namedB
  rw [h1,h5,h6]
  simp only [Bool.true_and]
  rw [Bool.eq_iff_iff]
  simp only [Bool.and_eq_true]
  constructor
  · rintro ⟨⟨⟨⟨⟨a,b⟩,c⟩,d⟩,e⟩,g⟩
    exact ⟨⟨⟨d,a⟩,e,b⟩,g,c⟩
  · rintro ⟨⟨⟨d,a⟩,e,b⟩,g,c⟩
    exact ⟨⟨⟨⟨⟨a,b⟩,c⟩,d⟩,e⟩,g⟩
theorem row_atR {w : World} {B : Nat} {e : TypeId} {size n c : Nat} {a : Option Addr} {xs : List Value} (h : w.ownsRow B e size (.slice a n c) n xs) : Cells w a xs := by
  obtain ⟨a',c',hv,hc⟩ := SlV.of_owns h
  simp only [Value.slice.injEq] at hv
  rw [hv.1]; exact hc
theorem nameN_get {p : PPlan} {i : Nat} (hi : i < p.nodes.length) : (p.nodes.map (·.name)).take (i + 1) = (p.nodes.map (·.name)).take i ++ [(p.nodes.getD i d0N).name] := by
  rw [take_succ_getD' [] (by simpa using hi),List.getD_eq_getElem?_getD,List.getD_eq_getElem?_getD,List.getElem?_map,List.getElem?_eq_getElem hi]; rfl
theorem nameD_get {p : PPlan} {i : Nat} (hi : i < p.dests.length) : (p.dests.map (·.name)).take (i + 1) = (p.dests.map (·.name)).take i ++ [(p.dests.getD i d0D).name] := by
  rw [take_succ_getD' [] (by simpa using hi),List.getD_eq_getElem?_getD,List.getD_eq_getElem?_getD,List.getElem?_map,List.getElem?_eq_getElem hi]; rfl

def rrL1 (p : PPlan) (q : PAd) (b1 : Nat) (w : World) : Lp (List Bytes × Option Addr × Nat) where
  S := fun x => [(1,none,pt b1 0),(5,none,.slice x.2.1 x.1.length x.2.2),(6,none,iv (x.1.length:Int))]
  J := fun x w' => Ext w w' ∧ Hold w' w.heap.size [.row (.slice x.2.1 x.1.length x.2.2) 9 1 x.1.length (x.1.flatMap strC),.blk b1 (pc p q) 29] ∧ x.1.length ≤ p.nodes.length ∧ x.1 = (p.nodes.map (·.name)).take x.1.length ∧ ∀ j,j < x.1.length → asB (p.nodes.getD j d0N) = true
  M := fun x => p.nodes.length - x.1.length
def rrL2 (p : PPlan) (q : PAd) (b1 : Nat) (w : World) : Lp (List Bytes × Option Addr × Nat × Nat) where
  S := fun x => [(1,none,pt b1 0),(5,none,.slice x.2.1 x.1.length x.2.2.1),(7,none,iv (x.2.2.2:Int))]
  J := fun x w' => Ext w w' ∧ Hold w' w.heap.size [.row (.slice x.2.1 x.1.length x.2.2.1) 9 1 x.1.length (x.1.flatMap strC),.blk b1 (pc p q) 29] ∧ x.2.2.2 ≤ p.dests.length ∧ x.1 = p.nodes.map (·.name) ++ (p.dests.map (·.name)).take x.2.2.2
  M := fun x => p.dests.length - x.2.2.2
set_option maxRecDepth 20000 in
set_option maxHeartbeats 1000000 in
theorem rRight_any (p : PPlan) (q : PAd) (w : World) (hP : PlanAt w p q) :
    Does Tryz.prog 10 [(pv p q)] w (fun v w' => v = .bool (rightB p) ∧ Ext w w') := by
 refine startZ (c := Y10) Tryz.func10 rfl (by kernel_rfl) ?_
 show H _ 145 [] _ (kAt Y10 [] []) (stz [(0,(pv p q))]) w
 have hq := hP.dlen
 have hl1 := hP.l1
 have hl2 := hP.l2
 have hl3 := hP.l3
 have hl4 := hP.l4
 have hE1 : Ext w w := Ext.refl w
 have hM2 : Hold w w.heap.size [] := Hold.nil hE1.le
 refine Zb 2 29 (pv p q) (pc p q) hE1 hM2 ?_
 intro b1 w1 hE4 hM5
 refine Zf 89 [Ce.c 0 0,Ce.gn 0,Ce.y,Ce.y,Ce.gc 0 0 1,Ce.gn 0,Ce.gn 0,Ce.y,Ce.c 0 0,Ce.gn 1,Ce.y,Ce.y,Ce.gc 1 0 1,Ce.gn 1,Ce.gn 1,Ce.gn 2,Ce.y,Ce.y,Ce.y,Ce.gc 2 0 1,Ce.gn 2,Ce.gn 2,Ce.gn 3,Ce.gn 3,Ce.gn 4,Ce.y,Ce.y,Ce.y,Ce.y,Ce.y,Ce.gc 4 0 2,Ce.gn 4,Ce.gn 4,Ce.gn 5,Ce.y,Ce.y,Ce.y,Ce.gc 5 0 2,Ce.gn 5,Ce.gn 5,Ce.gn 6,Ce.y,Ce.y,Ce.y,Ce.gc 6 0 2,Ce.gn 6,Ce.y,Ce.y,Ce.gc 6 0 4,Ce.gn 6,Ce.gn 6,Ce.gn 6,Ce.gn 6,Ce.gn 7,Ce.y,Ce.y,Ce.y,Ce.y,Ce.gc 7 0 3,Ce.gn 7,Ce.gn 7,Ce.gn 7,Ce.gn 8,Ce.y,Ce.y,Ce.y,Ce.y,Ce.gc 8 0 3,Ce.gn 8,Ce.gn 8,Ce.gn 8,Ce.gn 9,Ce.y,Ce.y,Ce.y,Ce.y,Ce.gc 9 0 4,Ce.gn 9,Ce.gn 9,Ce.gn 9,Ce.gn 10,Ce.y,Ce.y,Ce.y,Ce.y,Ce.gc 10 0 5,Ce.gn 10,Ce.gn 10,Ce.gn 10,Ce.gn 11,Ce.y,Ce.y,Ce.y,Ce.y,Ce.gc 11 0 6,Ce.gn 11,Ce.gn 11,Ce.gn 11,Ce.y,Ce.y] hM5 [] trivial [decide ((p.proto : Int) = (1 : Int)),decide ((p.proto : Int) = (2 : Int)),(decide ((p.proto : Int) = (2 : Int))) && (decide ((1:Int) ≤ p.cap)),!((decide ((p.proto : Int) = (1 : Int))) && (decide ((p.cap : Int) = (0 : Int)))),!((!((decide ((p.proto : Int) = (1 : Int))) && (decide ((p.cap : Int) = (0 : Int))))) && (!(((decide ((p.proto : Int) = (2 : Int))) && (decide ((1:Int) ≤ p.cap))) && (decide ((p.cap : Int) ≤ (12 : Int)))))),!(((!((decide ((p.proto : Int) = (1 : Int))) && (decide ((p.cap : Int) = (0 : Int))))) && (!(((decide ((p.proto : Int) = (2 : Int))) && (decide ((1:Int) ≤ p.cap))) && (decide ((p.cap : Int) ≤ (12 : Int)))))) || (decide ((p.k : Int) < (0 : Int)))),!((((!((decide ((p.proto : Int) = (1 : Int))) && (decide ((p.cap : Int) = (0 : Int))))) && (!(((decide ((p.proto : Int) = (2 : Int))) && (decide ((1:Int) ≤ p.cap))) && (decide ((p.cap : Int) ≤ (12 : Int)))))) || (decide ((p.k : Int) < (0 : Int)))) || (decide ((4 : Int) < p.k))),!(((((!((decide ((p.proto : Int) = (1 : Int))) && (decide ((p.cap : Int) = (0 : Int))))) && (!(((decide ((p.proto : Int) = (2 : Int))) && (decide ((1:Int) ≤ p.cap))) && (decide ((p.cap : Int) ≤ (12 : Int)))))) || (decide ((p.k : Int) < (0 : Int)))) || (decide ((4 : Int) < p.k))) || (decide ((p.links.length:Int) < p.k))),!((((((!((decide ((p.proto : Int) = (1 : Int))) && (decide ((p.cap : Int) = (0 : Int))))) && (!(((decide ((p.proto : Int) = (2 : Int))) && (decide ((1:Int) ≤ p.cap))) && (decide ((p.cap : Int) ≤ (12 : Int)))))) || (decide ((p.k : Int) < (0 : Int)))) || (decide ((4 : Int) < p.k))) || (decide ((p.links.length:Int) < p.k))) || (decide ((p.nodes.length:Int) < (1 : Int)))),!(((((((!((decide ((p.proto : Int) = (1 : Int))) && (decide ((p.cap : Int) = (0 : Int))))) && (!(((decide ((p.proto : Int) = (2 : Int))) && (decide ((1:Int) ≤ p.cap))) && (decide ((p.cap : Int) ≤ (12 : Int)))))) || (decide ((p.k : Int) < (0 : Int)))) || (decide ((4 : Int) < p.k))) || (decide ((p.links.length:Int) < p.k))) || (decide ((p.nodes.length:Int) < (1 : Int)))) || (decide ((12 : Int) < (p.nodes.length:Int)))),!((((((((!((decide ((p.proto : Int) = (1 : Int))) && (decide ((p.cap : Int) = (0 : Int))))) && (!(((decide ((p.proto : Int) = (2 : Int))) && (decide ((1:Int) ≤ p.cap))) && (decide ((p.cap : Int) ≤ (12 : Int)))))) || (decide ((p.k : Int) < (0 : Int)))) || (decide ((4 : Int) < p.k))) || (decide ((p.links.length:Int) < p.k))) || (decide ((p.nodes.length:Int) < (1 : Int)))) || (decide ((12 : Int) < (p.nodes.length:Int)))) || (decide ((16 : Int) < (p.links.length:Int)))),!(((((((((!((decide ((p.proto : Int) = (1 : Int))) && (decide ((p.cap : Int) = (0 : Int))))) && (!(((decide ((p.proto : Int) = (2 : Int))) && (decide ((1:Int) ≤ p.cap))) && (decide ((p.cap : Int) ≤ (12 : Int)))))) || (decide ((p.k : Int) < (0 : Int)))) || (decide ((4 : Int) < p.k))) || (decide ((p.links.length:Int) < p.k))) || (decide ((p.nodes.length:Int) < (1 : Int)))) || (decide ((12 : Int) < (p.nodes.length:Int)))) || (decide ((16 : Int) < (p.links.length:Int)))) || (decide ((4 : Int) < (p.dests.length:Int))))] trivial ?_
 refine Zr 0 _ ((((((((((¬ (((p.proto : Int) = (1 : Int)) ∧ ((p.cap : Int) = (0 : Int)))) ∧ (¬ ((((p.proto : Int) = (2 : Int)) ∧ ((1:Int) ≤ p.cap)) ∧ ((p.cap : Int) ≤ (12 : Int))))) ∨ ((p.k : Int) < (0 : Int))) ∨ ((4 : Int) < p.k)) ∨ ((p.links.length:Int) < p.k)) ∨ ((p.nodes.length:Int) < (1 : Int))) ∨ ((12 : Int) < (p.nodes.length:Int))) ∨ ((16 : Int) < (p.links.length:Int))) ∨ ((4 : Int) < (p.dests.length:Int))) ∨ ((16 : Int) < (p.checks.length:Int))) ((iffOr (iffOr (iffOr (iffOr (iffOr (iffOr (iffOr (iffOr (iffAnd (iffNot (iffAnd iffDec iffDec)) (iffNot (iffAnd (iffAnd iffDec iffDec) iffDec))) iffDec) iffDec) iffDec) iffDec) iffDec) iffDec) iffDec) iffDec)) (fun h0 => ?_) (fun h0 => ?_)
 ·exact Z1 4 (.bool false) (⟨by rw [right_not (fun hR => by have r1 := routing_iff.1 hR.routing; have r2 := hR.k0; have r3 := hR.k1; have r4 := hR.k2; have r5 := hR.n0; have r6 := hR.n1; have r7 := hR.l1; have r8 := hR.d1; have r9 := hR.c1; omega)],hE4⟩)
 have hro : routingB p = true := routing_iff.2 (by omega)
 have hka : 0 ≤ p.k ∧ p.k ≤ 4 ∧ p.k ≤ p.links.length := by omega
 have hna : 1 ≤ p.nodes.length ∧ p.nodes.length ≤ 12 := by omega
 have hda : p.dests.length ≤ 4 := by omega
 clear h0
 have hM6 := hM5.nilRow (e := 9) (size := 1)
 refine Zs 11 [] [] trivial ?_
 refine ZLoop (rrL1 p q b1 w) (k' := (kEnd Y10 (ro1 5 [0,1,0]) [])) (body := (cAt Y10 (ro1 5 [0,1,0,0]))) (by kernel_rfl) ([],none,0) [1,5,6] (by kernel_rfl) (⟨hE4,hM6,Nat.zero_le _,rfl,fun j h => by simp at h⟩) ?_
 rintro ⟨acc,av,cv⟩ w2 ⟨K1,M1,hi,hac,has⟩
 simp only at K1 M1 hi hac has
 show H _ _ _ _ (kAt (cAt Y10 (ro1 5 [0,1,0,0])) [] (.inv (LI 145 [] (rrL1 p q b1 w) (acc,av,cv)) :: (kEnd Y10 (ro1 5 [0,1,0]) []))) (stz [(1,pt b1 0),(5,.slice av acc.length cv),(6,iv (acc.length:Int))]) w2
 refine Zh 9 [.c 1 3] M1 trivial ?_
 refine Zq 0 ((acc.length:Int) < (p.nodes.length:Int)) (fun h1 => ?_) (fun h1 => ?_)
 ·have hi2 : acc.length < p.nodes.length := by omega
  have ha := hP.nodes.addrE nodeC_len (by decide) hi2
  generalize hKT : ((.inv (LI 145 [] (rrL1 p q b1 w) (acc,av,cv)) :: (kEnd Y10 (ro1 5 [0,1,0]) [])) : List Fr) = KT
  refine Zf 23 [.c 1 3,.p (fun _ => (0 ≤ (acc.length:Int) ∧ (acc.length:Int) < (p.nodes.length:Int))),.p (fun _ => (q.a1 : Option Addr) = some ⟨(slB q.a1),slO q.a1,none⟩),.p (fun _ => w2.cell? ⟨(slB q.a1),slO q.a1 + acc.length * 2 + 1,none⟩ = some (iv ((p.nodes.getD acc.length d0N).asn))),.gn 0,.v (iv ((p.nodes.getD acc.length d0N).asn)),.y,.y,.gc 0 1 3,.gn 0,.gn 0,.p (fun _ => (!(decide ((p.nodes.getD acc.length d0N).asn < (1 : Int)))) = true → (0 ≤ (acc.length:Int) ∧ (acc.length:Int) < (p.nodes.length:Int))),.p (fun _ => (!(decide ((p.nodes.getD acc.length d0N).asn < (1 : Int)))) = true → (q.a1 : Option Addr) = some ⟨(slB q.a1),slO q.a1,none⟩),.gn 0,.gn 0,.p (fun _ => (!(decide ((p.nodes.getD acc.length d0N).asn < (1 : Int)))) = true → cl w2 (slB q.a1) (slO q.a1 + acc.length * 2 + 1) (iv ((p.nodes.getD acc.length d0N).asn))),.gn 0,.gn 0,.y,.y,.y,.y,.v (iv ((p.nodes.getD acc.length d0N).asn)),.y] M1 [] trivial [!(decide ((p.nodes.getD acc.length d0N).asn < (1 : Int)))] (AC (by omega) (AC (by assumption) (AC (K1.cell (cellAt nodeC_len d0N hP.nodes hi2 (j := 1) rfl)) (AC (by intro h; (try simp only [Bool.not_eq_true',decide_eq_false_iff_not] at h); first | done | omega) (AC (by intro _; assumption) (A1 (fun _ => K1.cell (cellAt nodeC_len d0N hP.nodes hi2 (j := 1) rfl)))))))) ?_
  refine Zr 0 _ (((p.nodes.getD acc.length d0N).asn < (1 : Int)) ∨ ((65535 : Int) < (p.nodes.getD acc.length d0N).asn)) ((iffOr iffDec iffDec)) (fun h2 => ?_) (fun h2 => ?_)
  ·exact Z1 4 (.bool false) (⟨by rw [right_not (fun hR => by have := hR.asn _ (getD_mem' d0N hi2); omega)],K1⟩)
  refine Zh 9 [.c 1 3,.p (fun _ => (0 ≤ (acc.length:Int) ∧ (acc.length:Int) < (p.nodes.length:Int))),.p (fun _ => (q.a1 : Option Addr) = some ⟨(slB q.a1),slO q.a1,none⟩),.p (fun _ => w2.cell? ⟨(slB q.a1),slO q.a1 + acc.length * 2,none⟩ = some (sv ((p.nodes.getD acc.length d0N).name))),.v (sv ((p.nodes.getD acc.length d0N).name))] M1 (AC (by omega) (AC (by assumption) (A1 (K1.cell (cellAt nodeC_len d0N hP.nodes hi2 (j := 0) rfl))))) ?_
  refine Zd 0 1 [sv ((p.nodes.getD acc.length d0N).name)] 9 K1 M1 ?_
  intro be w3 hE8 hM9
  refine Zp 0 1 0 1 16 ((acc ++ [(p.nodes.getD acc.length d0N).name]).length) ((acc ++ [(p.nodes.getD acc.length d0N).name]).flatMap strC) rfl rfl ⟨by omega,by omega⟩ (fun _ _ h => by simpa [strC] using h) hE8 hM9 ?_
  intro av2 cv2 w4 hE10 hM11
  refine Zs 8 [] [I64 ((acc.length + 1:Nat):Int)] (A1 (i64 (by omega))) ?_
  have hM12 := hM11.pickT 3 [1,2] (by kernel_rfl)
  have hal : (acc ++ [(p.nodes.getD acc.length d0N).name]).length = acc.length + 1 := by simp
  refine Zw 0 6 (iv ((acc.length + 1:Nat):Int)) (iv (((acc ++ [(p.nodes.getD acc.length d0N).name]).length:Nat):Int)) (by rw [show (((acc.length + 1:Nat):Int) : Int) = (((acc ++ [(p.nodes.getD acc.length d0N).name]).length:Nat):Int) from by rw [hal] <;> omega]) ?_
  subst hKT
  exact ZA 0 (rrL1 p q b1 w) (acc,av,cv) ((acc ++ [(p.nodes.getD acc.length d0N).name]),av2,cv2) [1,5,6] (⟨hE10,hM12,by show (acc ++ [(p.nodes.getD acc.length d0N).name]).length ≤ _; omega,by show (acc ++ [(p.nodes.getD acc.length d0N).name]) = List.take (acc ++ [(p.nodes.getD acc.length d0N).name]).length _; rw [hal,nameN_get hi2,← hac],fun j hj => by by_cases e : j = acc.length; (subst e; unfold asB; rw [withinB_iff]; omega); exact has j (by have : j < (acc ++ [(p.nodes.getD acc.length d0N).name]).length := hj; omega)⟩) (show p.nodes.length - (acc ++ [(p.nodes.getD acc.length d0N).name]).length < p.nodes.length - acc.length by omega)
 have hlen : acc.length = p.nodes.length := by omega
 have hac2 : acc = p.nodes.map (·.name) := by rw [hac,hlen,List.take_of_length_le (by simp)]
 have has2 : ∀ j,j < p.nodes.length → asB (p.nodes.getD j d0N) = true := fun j hj => has j (by omega)
 refine Zs 7 [] [] trivial ?_
 refine ZLoop (rrL2 p q b1 w) (k' := (kEnd Y10 (ro1 6 [0,1,0]) [])) (body := (cAt Y10 (ro1 6 [0,1,0,0]))) (by kernel_rfl) (acc,av,cv,0) [1,5,7] (by kernel_rfl) (⟨K1,M1,Nat.zero_le _,by rw [hac2]; simp⟩) ?_
 rintro ⟨bcc,bv,cw,i⟩ w5 ⟨K2,M2,hi3,hbc⟩
 simp only at K2 M2 hi3 hbc
 show H _ _ _ _ (kAt (cAt Y10 (ro1 6 [0,1,0,0])) [] (.inv (LI 145 [] (rrL2 p q b1 w) (bcc,bv,cw,i)) :: (kEnd Y10 (ro1 6 [0,1,0]) []))) (stz [(1,pt b1 0),(5,.slice bv bcc.length cw),(7,iv (i:Int))]) w5
 have hbl : bcc.length = p.nodes.length + i := by rw [hbc]; simp; omega
 refine Zh 9 [.c 1 5] M2 trivial ?_
 refine Zq 0 ((i:Int) < (p.dests.length:Int)) (fun h3 => ?_) (fun h3 => ?_)
 ·have hi4 : i < q.ds.length := by omega
  have hi5 : i < p.dests.length := by omega
  have ha := hP.dests.addrE destC_len (by decide) hi4
  generalize hKU : ((.inv (LI 145 [] (rrL2 p q b1 w) (bcc,bv,cw,i)) :: (kEnd Y10 (ro1 6 [0,1,0]) [])) : List Fr) = KU
  have hdg := hP.dget i
  refine Zh 11 [.c 1 5,.p (fun _ => (0 ≤ (i:Int) ∧ (i:Int) < (p.dests.length:Int))),.p (fun _ => (q.a3 : Option Addr) = some ⟨(slB q.a3),slO q.a3,none⟩),.p (fun _ => w5.cell? ⟨(slB q.a3),slO q.a3 + i * 2,none⟩ = some (sv ((q.ds.getD i d0A).d.name))),.v (sv ((q.ds.getD i d0A).d.name))] M2 (AC (by omega) (AC (by assumption) (A1 (K2.cell (cellAt destC_len d0A hP.dests hi4 (j := 0) rfl))))) ?_
  refine Zd 0 1 [sv ((q.ds.getD i d0A).d.name)] 9 K2 M2 ?_
  intro be w6 hE14 hM15
  refine Zp 0 1 0 1 16 ((bcc ++ [(q.ds.getD i d0A).d.name]).length) ((bcc ++ [(q.ds.getD i d0A).d.name]).flatMap strC) rfl rfl ⟨by omega,by omega⟩ (fun _ _ h => by simpa [strC] using h) hE14 hM15 ?_
  intro bv2 cw2 w7 hE16 hM17
  refine Zs 8 [] [I64 ((i + 1:Nat):Int)] (A1 (i64 (by omega))) ?_
  have hM18 := hM17.pickT 3 [1,2] (by kernel_rfl)
  subst hKU
  exact ZA 0 (rrL2 p q b1 w) (bcc,bv,cw,i) ((bcc ++ [(q.ds.getD i d0A).d.name]),bv2,cw2,i + 1) [1,5,7] (⟨hE16,hM18,by show i + 1 ≤ p.dests.length; omega,by show (bcc ++ [(q.ds.getD i d0A).d.name]) = _; rw [nameD_get hi5,← List.append_assoc,← hbc,hdg]⟩) (show p.dests.length - (i + 1) < p.dests.length - i by omega)
 have hil : i = p.dests.length := by omega
 have hxs : bcc = namesL p := by rw [hbc,hil,List.take_of_length_le (by simp)]; rfl
 subst hxs
 have hnl : ∀ x ∈ namesL p,x.length ≤ 9223372036854775807 := fun x hx => by have := hP.names x hx; omega
 refine Zl 4 E35 (rnames_any (namesL p) bv cw w5 (row_atR (M2.row 0 rfl)) hnl (by omega)) ?_
 rintro _ w8 ⟨rfl,hx8⟩
 obtain ⟨hE19,hM20⟩ := Xt K2 M2 hx8
 refine Zf 2 [.y,.ga 0 1 0 7] hM20 [] trivial [((namesL p).all nameB) && (decide ((namesL p).Nodup))] trivial ?_
 refine ZCond (fun w' => Ext w8 w') (.bool (linksB p)) (e := .call 36 [(pv p q)]) (d := 135) (g := ((namesL p).all nameB) && (decide ((namesL p).Nodup))) (k' := (kOp Y10 (ro1 7 [0]) 5 [])) (ps := [(((namesL p).all nameB) && (decide ((namesL p).Nodup))) = true → (((namesL p).all nameB) && (decide ((namesL p).Nodup))) = true]) (by kernel_rfl) (A1 (fun h => h)) (Ext.refl w8) (fun hg => runs_call E36 (rlinks_any p q w8 (hP.ext hE19))) ?_
 rintro w9 hxw9
 obtain ⟨hE21,hM22⟩ := Xt hE19 hM20 hxw9
 refine Zf 3 [.gn 0,.y,.ga 1 1 0 7] hM22 [] trivial [((namesL p).all nameB) && (decide ((namesL p).Nodup)),(((namesL p).all nameB) && (decide ((namesL p).Nodup))) && (linksB p)] trivial ?_
 refine ZCond (fun w' => Ext w9 w') (.bool ((p.dests.all fun d => destB d p.nodes.length) && (decide ((p.dests.length : Int) ≤ 4)))) (e := .call 37 [(pv p q)]) (d := 139) (g := (((namesL p).all nameB) && (decide ((namesL p).Nodup))) && (linksB p)) (k' := (kOp Y10 (ro1 7 [0]) 9 [])) (ps := [((((namesL p).all nameB) && (decide ((namesL p).Nodup))) && (linksB p)) = true → ((((namesL p).all nameB) && (decide ((namesL p).Nodup))) && (linksB p)) = true]) (by kernel_rfl) (A1 (fun h => h)) (Ext.refl w9) (fun hg => runs_call E37 (rdests_any p q w9 (hP.ext hE21))) ?_
 rintro wa hxwa
 obtain ⟨hE23,hM24⟩ := Xt hE21 hM22 hxwa
 refine Zf 3 [.gn 0,.y,.ga 1 1 0 7] hM24 [] trivial [(((namesL p).all nameB) && (decide ((namesL p).Nodup))) && (linksB p),((((namesL p).all nameB) && (decide ((namesL p).Nodup))) && (linksB p)) && ((p.dests.all fun d => destB d p.nodes.length) && (decide ((p.dests.length : Int) ≤ 4)))] trivial ?_
 refine ZCond (fun w' => Ext wa w') (.bool ((p.checks.all (checkB p)) && (decide ((p.checks.length : Int) ≤ 16)))) (e := .call 38 [(pv p q)]) (d := 143) (g := ((((namesL p).all nameB) && (decide ((namesL p).Nodup))) && (linksB p)) && ((p.dests.all fun d => destB d p.nodes.length) && (decide ((p.dests.length : Int) ≤ 4)))) (k' := (kOp Y10 (ro1 7 [0]) 13 [])) (ps := [(((((namesL p).all nameB) && (decide ((namesL p).Nodup))) && (linksB p)) && ((p.dests.all fun d => destB d p.nodes.length) && (decide ((p.dests.length : Int) ≤ 4)))) = true → (((((namesL p).all nameB) && (decide ((namesL p).Nodup))) && (linksB p)) && ((p.dests.all fun d => destB d p.nodes.length) && (decide ((p.dests.length : Int) ≤ 4)))) = true]) (by kernel_rfl) (A1 (fun h => h)) (Ext.refl wa) (fun hg => runs_call E38 (rchecks_any p q wa (hP.ext hE23))) ?_
 rintro wb hxwb
 obtain ⟨hE25,hM26⟩ := Xt hE23 hM24 hxwb
 refine Zi 3 [.gn 0] [] trivial [((((namesL p).all nameB) && (decide ((namesL p).Nodup))) && (linksB p)) && ((p.dests.all fun d => destB d p.nodes.length) && (decide ((p.dests.length : Int) ≤ 4)))] trivial ?_
 exact Z1 0 (.bool ((((((namesL p).all nameB) && (decide ((namesL p).Nodup))) && (linksB p)) && ((p.dests.all fun d => destB d p.nodes.length) && (decide ((p.dests.length : Int) ≤ 4)))) && ((p.checks.all (checkB p)) && (decide ((p.checks.length : Int) ≤ 16))))) (⟨by rw [right_is hro hka hna has2],hE25⟩)

end Go.Proofs.YtcbclephakfemaaGreatRRRDoor
