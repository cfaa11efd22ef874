/-
  PLAN: contracts of the reference's small functions.
-/
import Derived.Test.YtcbclephakfemaaGreatRRRDoorPlanE
import Derived.Test.YtcbclephakfemaaGreatRRRDoorLexD
import Derived.Test.YtcbclephakfemaaGreatRRRDoorLz
import Derived.Test.YtcbclephakfemaaGreatRRRDoorFns
namespace Go.Proofs.YtcbclephakfemaaGreatRRRDoor
open Go.Bk Go.Proofs

theorem E64 : Proofs.Enters Tryz.prog 64 := Proofs.enters_of Tryz.func64 (by kernel_rfl) rfl

theorem E35 : Proofs.Enters Tryz.prog 35 := Proofs.enters_of Tryz.func35 (by kernel_rfl) rfl

theorem E36 : Proofs.Enters Tryz.prog 36 := Proofs.enters_of Tryz.func36 (by kernel_rfl) rfl

theorem E37 : Proofs.Enters Tryz.prog 37 := Proofs.enters_of Tryz.func37 (by kernel_rfl) rfl

theorem E38 : Proofs.Enters Tryz.prog 38 := Proofs.enters_of Tryz.func38 (by kernel_rfl) rfl

theorem E14 : Proofs.Enters Tryz.prog 14 := Proofs.enters_of Tryz.func14 (by kernel_rfl) rfl

theorem E16 : Proofs.Enters Tryz.prog 16 := Proofs.enters_of Tryz.func16 (by kernel_rfl) rfl

theorem E10 : Proofs.Enters Tryz.prog 10 := Proofs.enters_of Tryz.func10 (by kernel_rfl) rfl

theorem E22 : Proofs.Enters Tryz.prog 22 := Proofs.enters_of Tryz.func22 (by kernel_rfl) rfl

theorem E23 : Proofs.Enters Tryz.prog 23 := Proofs.enters_of Tryz.func23 (by kernel_rfl) rfl

theorem E8 : Proofs.Enters Tryz.prog 8 := Proofs.enters_of Tryz.func8 (by kernel_rfl) rfl

set_option maxRecDepth 20000 in
theorem rplace_any (k m : Int) (w : World)  :
    Does Tryz.prog 64 [iv k,iv m] w (fun v w' => v = .bool (placeB k m) ∧ w = w') := by
 refine startZ (c := Y64) Tryz.func64 rfl (by kernel_rfl) ?_
 show H _ 12 [] _ (kAt Y64 [] []) (stz [(0,iv k),(1,iv m)]) w
 refine Zi 15 [.gn 0,.gn 0,.gn 0,.y,.y,.y] [] trivial [decide ((0 : Int) ≤ k)] trivial ?_
 exact Z1 0 (.bool ((decide ((0 : Int) ≤ k)) && (decide ((k : Int) < m)))) (⟨rfl,rfl⟩)

theorem nodup_getD {α : Type} (d : α) {l : List α} (h : ∀ j,j < l.length → ∀ k,k < j → l.getD j d ≠ l.getD k d) : l.Nodup := by
  rw [List.Nodup,List.pairwise_iff_getElem]
  intro i j hi hj hij e
  refine h j hj i hij ?_
  rw [List.getD_eq_getElem?_getD,List.getD_eq_getElem?_getD,List.getElem?_eq_getElem hi,List.getElem?_eq_getElem hj]
  exact e.symm
theorem not_nodup {α : Type} {d : α} {l : List α} {j k : Nat} (hj : j < l.length) (hk : k < j) (e : l.getD j d = l.getD k d) : ¬ l.Nodup := by
  intro h
  rw [List.Nodup,List.pairwise_iff_getElem] at h
  refine h k j (by omega) hj hk ?_
  rw [List.getD_eq_getElem?_getD,List.getD_eq_getElem?_getD,List.getElem?_eq_getElem hj,List.getElem?_eq_getElem (show k < l.length by omega)] at e
  exact e.symm
theorem all_bad {α : Type} (d : α) {p : α → Bool} {l : List α} {k : Nat} (hk : k < l.length) (h : p (l.getD k d) = false) : l.all p = false := List.all_eq_false.2 ⟨_,getD_mem' d hk,by simpa using h⟩

def rnsL (xs : List Bytes) (a : Option Addr) (c : Nat) (w : World) : Lp Nat where
  S := fun i => [(0,none,.slice a xs.length c),(3,none,iv (i:Int))]
  J := fun i w' => Ext w w' ∧ i ≤ xs.length ∧ (∀ j,j < i → nameB (xs.getD j []) = true) ∧ ∀ j,j < i → ∀ k,k < j → xs.getD j [] ≠ xs.getD k []
  M := fun i => xs.length - i
def rnsM (xs : List Bytes) (a : Option Addr) (c i : Nat) (w : World) : Lp Nat where
  S := fun k => [(0,none,.slice a xs.length c),(3,none,iv (i:Int)),(4,none,iv (k:Int))]
  J := fun k w' => Ext w w' ∧ k ≤ i ∧ ∀ j,j < k → xs.getD i [] ≠ xs.getD j []
  M := fun k => i - k
set_option maxRecDepth 20000 in
theorem rnames_any (xs : List Bytes) (a : Option Addr) (c : Nat) (w : World) (hc : Cells w a (xs.flatMap strC)) (hx : ∀ x ∈ xs,x.length ≤ 9223372036854775807) (hl : xs.length ≤ 140737488355328) :
    Does Tryz.prog 35 [.slice a xs.length c] w (fun v w' => v = .bool (xs.all nameB && decide xs.Nodup) ∧ Ext w w') := by
 refine startZ (c := Y35) Tryz.func35 rfl (by kernel_rfl) ?_
 show H _ 31 [] _ (kAt Y35 [] []) (stz [(0,.slice a xs.length c)]) w
 have hE1 : Ext w w := Ext.refl w
 refine Zs 10 [] [] trivial ?_
 refine ZLoop (rnsL xs a c w) (k' := (kEnd Y35 [1,0,1,0] [])) (body := (cAt Y35 [1,0,1,0,0])) (by kernel_rfl) 0 [0,3] (by kernel_rfl) (⟨hE1,by omega,fun j h => by omega,fun j h => by omega⟩) ?_
 rintro i w0 ⟨K1,hi,hn,hd⟩
 refine Zq 8 ((i:Int) < (xs.length:Int)) (fun h1 => ?_) (fun h1 => ?_)
 ·generalize hKT : ((.inv (LI 31 [] (rnsL xs a c w) i) :: (kEnd Y35 [1,0,1,0] [])) : List Fr) = KT
  have hi2 : i < xs.length := by omega
  have ha := hc.addrE strC_len (by decide) hi2
  refine Zs 10 [.ld (sv (xs.getD i []))] [(0 ≤ (i:Int) ∧ (i:Int) < (xs.length:Int)),(a : Option Addr) = some ⟨(slB a),slO a,none⟩,cl w0 (slB a) (slO a + i * 1) (sv (xs.getD i []))] (AC (by omega) (AC (by assumption) (A1 (K1.cell (cellAt strC_len [] hc hi2 (j := 0) rfl))))) ?_
  refine Zl 0 E63 (rName_any (xs.getD i []) w0 (hx _ (getD_mem' [] hi2))) ?_
  rintro _ w1 ⟨rfl,hx1⟩
  have hE2 := K1.trans hx1
  refine Zr 2 _ (¬ ((nameB (xs.getD i [])) = true)) ((iffNot Iff.rfl)) (fun h2 => ?_) (fun h2 => ?_)
  ·exact Z1 4 (.bool false) (⟨by rw [all_bad [] hi2 (by simpa using h2)]; rfl,hE2⟩)
  have hni : nameB (xs.getD i []) = true := by simpa using h2
  refine Zs 6 [] [] trivial ?_
  refine ZLoop (rnsM xs a c i w) (k' := (kEnd (cAt Y35 [1,0,1,0,0]) [1,0,0,1,1,0] KT)) (body := (cAt (cAt Y35 [1,0,1,0,0]) [1,0,0,1,1,0,0])) (by kernel_rfl) 0 [0,3,4] (by kernel_rfl) (⟨hE2,by omega,fun j h => by omega⟩) ?_
  rintro k w2 ⟨K2,hk,hj⟩
  refine Zq 7 ((k:Int) < (i:Int)) (fun h3 => ?_) (fun h3 => ?_)
  ·have hk2 : k < xs.length := by omega
   refine Zs 4 [] [] trivial ?_
   refine ZB 9 (kAt (cAt (cAt Y35 [1,0,1,0,0]) [1,0,0,1,1,0,0]) [1,0,0,1] (.inv (LI 31 [] (rnsM xs a c i w) k) :: (kEnd (cAt Y35 [1,0,1,0,0]) [1,0,0,1,1,0] KT))) 9 (opsAt (cAt (cAt (cAt Y35 [1,0,1,0,0]) [1,0,0,1,1,0,0]) [1,0,0,0])) (fun w1 => Ext w1) ?_
   intro w3 hx4
   have hE5 := K2.trans hx4
   refine dg [0,1,2,3,4,5,6,7,8] [.p (fun _ => (0 ≤ (i:Int) ∧ (i:Int) < (xs.length:Int))),.g 0,.p (fun w' => (w').cell? ⟨(slB a),slO a + i * 1,none⟩ = some (sv (xs.getD i []))),.p (fun _ => (0 ≤ (k:Int) ∧ (k:Int) < (xs.length:Int))),.g 0,.p (fun w' => (w').cell? ⟨(slB a),slO a + k * 1,none⟩ = some (sv (xs.getD k []))),.v (sv (xs.getD i [])),.v (sv (xs.getD k []))] 0 (lb 9 511) [(a : Option Addr) = some ⟨(slB a),slO a,none⟩] (A1 (by assumption)) [] (fun w' hS => (AC (by omega) (AC (hS.cell (hE5.cell (cellAt strC_len [] hc hi2 (j := 0) rfl))) (AC (by omega) (A1 (hS.cell (hE5.cell (cellAt strC_len [] hc hk2 (j := 0) rfl)))))))) (Ext.refl _) ?_
   refine ZD ?_
   refine Zq 0 ((xs.getD i []) = (xs.getD k [])) (fun h4 => ?_) (fun h4 => ?_)
   ·exact Z1 4 (.bool false) (⟨by rw [decide_eq_false (not_nodup (d := []) hi2 (by omega) h4),Bool.and_false],hE5⟩)
   refine Zs 7 [] [I64 ((k + 1:Nat):Int)] (A1 (i64 (by omega))) ?_
   exact ZA 0 (rnsM xs a c i w) k (k + 1) [0,3,4] (⟨hE5,by omega,fun j hj2 => by by_cases e : j = k; (subst e; exact h4); exact hj j (by omega)⟩) (show i - (k + 1) < i - k by omega)
  refine Zs 7 [] [I64 ((i + 1:Nat):Int)] (A1 (i64 (by omega))) ?_
  subst hKT
  exact ZA 0 (rnsL xs a c w) i (i + 1) [0,3] (⟨K2,by omega,fun j hj2 => by by_cases e : j = i; (subst e; exact hni); exact hn j (by omega),fun j hj2 k2 hk2 => by by_cases e : j = i; (subst e; exact hj k2 (by omega)); exact hd j (by omega) k2 hk2⟩) (show xs.length - (i + 1) < xs.length - i by omega)
 exact Z1 5 (.bool true) (⟨by rw [all_of_getD' [] (fun j hj => hn j (by omega)),decide_eq_true (nodup_getD [] (fun j hj => hd j (by omega)))]; rfl,K1⟩)

theorem link_bad {n : Nat} {x : PLink} (h : ¬ (((placeB x.a n = true ∧ placeB x.b n = true) ∧ x.a < x.b) ∧ 1 ≤ x.cost ∧ x.cost ≤ 15)) : linkB n x = false := by
  cases hb : linkB n x with
  | false => rfl
  | true =>
    simp only [linkB,Bool.and_eq_true,placeB_iff,withinB_iff] at hb
    exact absurd (by simp only [placeB_iff]; omega) h
theorem link_good {n : Nat} {x : PLink} (h1 : placeB x.a n = true) (h2 : placeB x.b n = true) (h3 : x.a < x.b) (h4 : 1 ≤ x.cost) (h5 : x.cost ≤ 15) : linkB n x = true := by
  simp only [linkB,Bool.and_eq_true,placeB_iff,withinB_iff] at *
  omega
theorem keys_getD {l : List PLink} {j : Nat} : (linkKeys l).getD j (0,0) = ((l.getD j d0L).a,(l.getD j d0L).b) := by
  unfold linkKeys
  rw [List.getD_eq_getElem?_getD,List.getElem?_map,List.getD_eq_getElem?_getD]
  cases l[j]? <;> rfl
theorem keys_nd {l : List PLink} (h : ∀ j,j < l.length → ∀ k,k < j → ¬ ((l.getD k d0L).a = (l.getD j d0L).a ∧ (l.getD k d0L).b = (l.getD j d0L).b)) : (linkKeys l).Nodup := by
  refine nodup_getD (0,0) fun j hj k hk e => ?_
  rw [keys_getD,keys_getD] at e
  simp only [Prod.mk.injEq] at e
  exact h j (by simpa [linkKeys] using hj) k hk ⟨e.1.symm,e.2.symm⟩
theorem keys_not {l : List PLink} {j k : Nat} (hj : j < l.length) (hk : k < j) (h : (l.getD k d0L).a = (l.getD j d0L).a ∧ (l.getD k d0L).b = (l.getD j d0L).b) : ¬ (linkKeys l).Nodup :=
  not_nodup (d := (0,0)) (by simpa [linkKeys] using hj) hk (by rw [keys_getD,keys_getD,h.1,h.2])

def rlkL (p : PPlan) (q : PAd) (b1 : Nat) (w : World) : Lp Nat where
  S := fun i => [(1,none,pt b1 0),(3,none,iv (i:Int))]
  J := fun i w' => Ext w w' ∧ Hold w' w.heap.size [.blk b1 (pc p q) 29] ∧ i ≤ p.links.length ∧ (∀ j,j < i → linkB p.nodes.length (p.links.getD j d0L) = true) ∧ ∀ j,j < i → ∀ k,k < j → ¬ ((p.links.getD k d0L).a = (p.links.getD j d0L).a ∧ (p.links.getD k d0L).b = (p.links.getD j d0L).b)
  M := fun i => p.links.length - i
def rlkM (p : PPlan) (q : PAd) (b1 b4 i : Nat) (w : World) : Lp Nat where
  S := fun k => [(1,none,pt b1 0),(3,none,iv (i:Int)),(4,none,pt b4 0),(5,none,iv (k:Int))]
  J := fun k w' => Ext w w' ∧ Hold w' w.heap.size [.blk b4 [iv ((p.links.getD i d0L).a),iv ((p.links.getD i d0L).b),iv ((p.links.getD i d0L).cost)] 43,.blk b1 (pc p q) 29] ∧ k ≤ i ∧ ∀ j,j < k → ¬ ((p.links.getD j d0L).a = (p.links.getD i d0L).a ∧ (p.links.getD j d0L).b = (p.links.getD i d0L).b)
  M := fun k => i - k
set_option maxRecDepth 20000 in
theorem rlinks_any (p : PPlan) (q : PAd) (w : World) (hP : PlanAt w p q) :
    Does Tryz.prog 36 [(pv p q)] w (fun v w' => v = .bool (linksB p) ∧ Ext w w') := by
 refine startZ (c := Y36) Tryz.func36 rfl (by kernel_rfl) ?_
 show H _ 80 [] _ (kAt Y36 [] []) (stz [(0,(pv p q))]) w
 have hq := hP.dlen
 have hl1 := hP.l1
 have hl2 := hP.l2
 have hl3 := hP.l3
 have hl4 := hP.l4
 have hE1 : Ext w w := Ext.refl w
 have hM2 : Hold w w.heap.size [] := Hold.nil hE1.le
 refine Zb 2 29 (pv p q) (pc p q) hE1 hM2 ?_
 intro b1 w1 hE4 hM5
 refine Zs 8 [] [] trivial ?_
 refine ZLoop (rlkL p q b1 w) (k' := (kEnd Y36 [1,0,1,0] [])) (body := (cAt Y36 [1,0,1,0,0])) (by kernel_rfl) 0 [1,3] (by kernel_rfl) (⟨hE4,hM5,Nat.zero_le _,fun j h => by omega,fun j h => by omega⟩) ?_
 rintro i w0 ⟨K1,M1,hi,hn,hd⟩
 refine Zh 9 [.c 0 4] M1 trivial ?_
 refine Zq 0 ((i:Int) < (p.links.length:Int)) (fun h1 => ?_) (fun h1 => ?_)
 ·have hi2 : i < p.links.length := by omega
  have ha := hP.links.addrE linkC_len (by decide) hi2
  generalize hKT : ((.inv (LI 80 [] (rlkL p q b1 w) i) :: (kEnd Y36 [1,0,1,0] [])) : List Fr) = KT
  refine Zh 10 [.c 0 4,.p (fun _ => (0 ≤ (i:Int) ∧ (i:Int) < (p.links.length:Int))),.p (fun _ => (q.a2 : Option Addr) = some ⟨(slB q.a2),slO q.a2,none⟩),.p (fun _ => w0.cell? ⟨(slB q.a2),slO q.a2 + i * 3,none⟩ = some (iv ((p.links.getD i d0L).a))),.p (fun _ => w0.cell? ⟨(slB q.a2),slO q.a2 + i * 3 + 1,none⟩ = some (iv ((p.links.getD i d0L).b))),.p (fun _ => w0.cell? ⟨(slB q.a2),slO q.a2 + i * 3 + 2,none⟩ = some (iv ((p.links.getD i d0L).cost))),.v (vL (p.links.getD i d0L))] M1 (AC (by omega) (AC (by assumption) (AC (K1.cell (cellAt linkC_len d0L hP.links hi2 (j := 0) rfl)) (AC (K1.cell (cellAt linkC_len d0L hP.links hi2 (j := 1) rfl)) (A1 (K1.cell (cellAt linkC_len d0L hP.links hi2 (j := 2) rfl))))))) ?_
  refine Za 0 43 [iv 0,iv 0,iv 0] K1 M1 ?_
  intro b4 w2 hE7 hM8
  refine Zt 0 0 0 (vL (p.links.getD i d0L)) rfl hE7 hM8 ?_
  intro w3 hE10 hM11
  refine Zh 9 [.c 0 0,.c 1 3] hM11 trivial ?_
  refine Zl 0 E64 (rplace_any (p.links.getD i d0L).a (p.nodes.length : Int) w3) ?_
  rintro _ _ ⟨rfl,rfl⟩
  by_cases p1 : (placeB (p.links.getD i d0L).a (p.nodes.length:Int)) = true
  ·refine Zw 0 23 (.bool (placeB (p.links.getD i d0L).a (p.nodes.length:Int))) (.bool true) (by rw [show (placeB (p.links.getD i d0L).a (p.nodes.length:Int)) = true from p1] <;> rfl) ?_
   refine Zh 7 [.xf,.xf,.c 0 1,.xf,.xf,.c 1 3,.xf] hM11 trivial ?_
   refine Zo 0 [.exec] _ [false = false] (A1 rfl) (runs_call E64 (rplace_any (p.links.getD i d0L).b (p.nodes.length : Int) w3)) ?_
   rintro _ _ ⟨rfl,rfl⟩
   by_cases p2 : (placeB (p.links.getD i d0L).b (p.nodes.length:Int)) = true
   ·refine Zw 0 31 (.bool (placeB (p.links.getD i d0L).b (p.nodes.length:Int))) (.bool true) (by rw [show (placeB (p.links.getD i d0L).b (p.nodes.length:Int)) = true from p2] <;> rfl) ?_
    refine Zf 20 [.xf,.xf,.xf,.c 0 0,.xf,.xf,.c 0 1,.xf,.gn 0,.y,.y,.gc 0 0 2,.gn 0,.gn 0,.gn 1,.y,.y,.y,.gc 1 0 2,.gn 1,.gn 1,.y] hM11 [] trivial [!(decide ((p.links.getD i d0L).b ≤ (p.links.getD i d0L).a)),!((decide ((p.links.getD i d0L).b ≤ (p.links.getD i d0L).a)) || (decide ((p.links.getD i d0L).cost < (1 : Int))))] trivial ?_
    refine Zr 0 _ ((((p.links.getD i d0L).b ≤ (p.links.getD i d0L).a) ∨ ((p.links.getD i d0L).cost < (1 : Int))) ∨ ((15 : Int) < (p.links.getD i d0L).cost)) ((iffOr (iffOr iffDec iffDec) iffDec)) (fun p3 => ?_) (fun p3 => ?_)
    ·exact Z1 4 (.bool false) (⟨by unfold linksB; rw [all_bad d0L hi2 (link_bad (by intro h; omega))]; rfl,hE10⟩)
    have hlg : linkB p.nodes.length (p.links.getD i d0L) = true := link_good p1 p2 (by omega) (by omega) (by omega)
    refine Zs 6 [] [] trivial ?_
    refine ZLoop (rlkM p q b1 b4 i w) (k' := (kEnd (cAt Y36 [1,0,1,0,0]) [1,0,0,1,1,1,0] KT)) (body := (cAt (cAt Y36 [1,0,1,0,0]) [1,0,0,1,1,1,0,0])) (by kernel_rfl) 0 [1,3,4,5] (by kernel_rfl) (⟨hE10,hM11,Nat.zero_le _,fun j h => by omega⟩) ?_
    rintro k w5 ⟨K2,M2,hk,hj⟩
    refine Zq 7 ((k:Int) < (i:Int)) (fun h3 => ?_) (fun h3 => ?_)
    ·have hk2 : k < p.links.length := by omega
     refine Zs 4 [] [] trivial ?_
     refine ZB 20 (kAt (cAt (cAt Y36 [1,0,1,0,0]) [1,0,0,1,1,1,0,0]) [1,0,0,1] (.inv (LI 80 [] (rlkM p q b1 b4 i w) k) :: (kEnd (cAt Y36 [1,0,1,0,0]) [1,0,0,1,1,1,0] KT))) 10 (opsAt (cAt (cAt (cAt Y36 [1,0,1,0,0]) [1,0,0,1,1,1,0,0]) [1,0,0,0])) (fun w1 => Ext w1) ?_
     intro w12 hx13
     obtain ⟨hE14,hM15⟩ := Xt K2 M2 hx13
     refine dh [0,1,2,3,4,5,6,7,8,9,10,11,12,13,14,15,16,17,18,19] [.c 1 4,.p (fun _ => (0 ≤ (k:Int) ∧ (k:Int) < (p.links.length:Int))),.p (fun _ => (q.a2 : Option Addr) = some ⟨(slB q.a2),slO q.a2,none⟩),.p (fun w' => (w').cell? ⟨(slB q.a2),slO q.a2 + k * 3,none⟩ = some (iv ((p.links.getD k d0L).a))),.v (iv ((p.links.getD k d0L).a)),.c 0 0,.gn 0,.y,.y,.gc 0 1 4,.gn 0,.gn 0,.p (fun _ => (decide ((p.links.getD k d0L).a = (p.links.getD i d0L).a)) = true → (0 ≤ (k:Int) ∧ (k:Int) < (p.links.length:Int))),.p (fun _ => (decide ((p.links.getD k d0L).a = (p.links.getD i d0L).a)) = true → (q.a2 : Option Addr) = some ⟨(slB q.a2),slO q.a2,none⟩),.gn 0,.gn 0,.p (fun w' => (decide ((p.links.getD k d0L).a = (p.links.getD i d0L).a)) = true → cl w' (slB q.a2) (slO q.a2 + k * 3 + 1) (iv ((p.links.getD k d0L).b))),.gn 0,.y,.y,.y,.y,.v (iv ((p.links.getD k d0L).b)),.y,.y,.gc 0 0 1,.gn 0,.gn 0,.gn 0,.y] 0 (lb 20 1048575) hM15 (fun _ h => h) [] trivial [decide ((p.links.getD k d0L).a = (p.links.getD i d0L).a)] (fun w' hS => (AC (by omega) (AC (by assumption) (AC (hS.cell (hE14.cell (cellAt linkC_len d0L hP.links hk2 (j := 0) rfl))) (AC (by intro h; (try simp only [decide_eq_true_eq] at h); first | done | omega) (AC (by intro _; assumption) (A1 (fun _ => hS.cell (hE14.cell (cellAt linkC_len d0L hP.links hk2 (j := 1) rfl)))))))))) (Ext.refl _) ?_
     refine ZD ?_
     refine Zr 0 _ (((p.links.getD k d0L).a = (p.links.getD i d0L).a) ∧ ((p.links.getD k d0L).b = (p.links.getD i d0L).b)) ((iffAnd iffDec iffDec)) (fun h4 => ?_) (fun h4 => ?_)
     ·exact Z1 4 (.bool false) (⟨by unfold linksB; rw [decide_eq_false (keys_not hi2 (by omega) h4),Bool.and_false,Bool.and_false],hE14⟩)
     refine Zs 7 [] [I64 ((k + 1:Nat):Int)] (A1 (i64 (by omega))) ?_
     exact ZA 0 (rlkM p q b1 b4 i w) k (k + 1) [1,3,4,5] (⟨hE14,hM15,by omega,fun j hj2 => by by_cases e : j = k; (subst e; exact h4); exact hj j (by omega)⟩) (show i - (k + 1) < i - k by omega)
    refine Zs 7 [] [I64 ((i + 1:Nat):Int)] (A1 (i64 (by omega))) ?_
    have hM16 := M2.pickT 2 [1] (by kernel_rfl)
    subst hKT
    exact ZA 0 (rlkL p q b1 w) i (i + 1) [1,3] (⟨K2,hM16,by omega,fun j hj2 => by by_cases e : j = i; (subst e; exact hlg); exact hn j (by omega),fun j hj2 k2 hk2 => by by_cases e : j = i; (subst e; exact hj k2 (by omega)); exact hd j (by omega) k2 hk2⟩) (show p.links.length - (i + 1) < p.links.length - i by omega)
   refine Zw 0 31 (.bool (placeB (p.links.getD i d0L).b (p.nodes.length:Int))) (.bool false) (by rw [show (placeB (p.links.getD i d0L).b (p.nodes.length:Int)) = false from Bool.eq_false_iff.2 p2] <;> rfl) ?_
   refine Zi 25 [.xf,.st,.st,.st,.st,.st,.st,.st,.st,.st,.st,.st,.xt,.g 0,.g 1,.g 1] [true = (!false),true = true] (AC rfl (A1 rfl)) [] trivial ?_
   exact Z1 0 (.bool false) (⟨by unfold linksB; rw [all_bad d0L hi2 (link_bad (by intro h; exact p2 h.1.1.2))]; rfl,hE10⟩)
  refine Zw 0 23 (.bool (placeB (p.links.getD i d0L).a (p.nodes.length:Int))) (.bool false) (by rw [show (placeB (p.links.getD i d0L).a (p.nodes.length:Int)) = false from Bool.eq_false_iff.2 p1] <;> rfl) ?_
  refine Zi 33 [.st,.st,.st,.st,.st,.st,.st,.st,.st,.st,.st,.st,.st,.st,.st,.st,.st,.st,.xt,.g 0,.g 0,.g 1,.g 1] [true = (!false),true = true] (AC rfl (A1 rfl)) [] trivial ?_
  exact Z1 0 (.bool false) (⟨by unfold linksB; rw [all_bad d0L hi2 (link_bad (by intro h; exact p1 h.1.1.1))]; rfl,hE10⟩)
 refine Zh 9 [.c 0 4] M1 trivial ?_
 exact Z1 0 (.bool (decide ((p.links.length:Int) ≤ (16 : Int)))) (⟨by unfold linksB; rw [all_of_getD' d0L (fun j hj => hn j (by omega)),decide_eq_true (keys_nd (fun j hj => hd j (by omega))),Bool.and_true,Bool.true_and],K1⟩)

def rdsL (p : PPlan) (q : PAd) (b1 : Nat) (w : World) : Lp Nat where
  S := fun i => [(1,none,pt b1 0),(3,none,iv (i:Int))]
  J := fun i w' => Ext w w' ∧ Hold w' w.heap.size [.blk b1 (pc p q) 29] ∧ i ≤ p.dests.length ∧ ∀ j,j < i → destB (p.dests.getD j d0D) p.nodes.length = true
  M := fun i => p.dests.length - i
def rdsM (p : PPlan) (q : PAd) (b1 i : Nat) (w : World) : Lp Nat where
  S := fun k => [(1,none,pt b1 0),(3,none,iv (i:Int)),(4,none,.slice (q.ds.getD i d0A).a ((q.ds.getD i d0A).d.origins.length) ((q.ds.getD i d0A).c)),(5,none,iv (k:Int))]
  J := fun k w' => Ext w w' ∧ Hold w' w.heap.size [.blk b1 (pc p q) 29] ∧ k ≤ (q.ds.getD i d0A).d.origins.length ∧ OrigOk (q.ds.getD i d0A).d.origins p.nodes.length k
  M := fun k => (q.ds.getD i d0A).d.origins.length - k
set_option maxRecDepth 20000 in
theorem rdests_any (p : PPlan) (q : PAd) (w : World) (hP : PlanAt w p q) :
    Does Tryz.prog 37 [(pv p q)] w (fun v w' => v = .bool ((p.dests.all fun d => destB d p.nodes.length) && decide ((p.dests.length : Int) ≤ 4)) ∧ Ext w w') := by
 refine startZ (c := Y37) Tryz.func37 rfl (by kernel_rfl) ?_
 show H _ 57 [] _ (kAt Y37 [] []) (stz [(0,(pv p q))]) w
 have hq := hP.dlen
 have hl1 := hP.l1
 have hl2 := hP.l2
 have hl3 := hP.l3
 have hl4 := hP.l4
 have hE1 : Ext w w := Ext.refl w
 have hM2 : Hold w w.heap.size [] := Hold.nil hE1.le
 refine Zb 2 29 (pv p q) (pc p q) hE1 hM2 ?_
 intro b1 w1 hE4 hM5
 refine Zs 8 [] [] trivial ?_
 refine ZLoop (rdsL p q b1 w) (k' := (kEnd Y37 [1,0,1,0] [])) (body := (cAt Y37 [1,0,1,0,0])) (by kernel_rfl) 0 [1,3] (by kernel_rfl) (⟨hE4,hM5,Nat.zero_le _,fun j h => by omega⟩) ?_
 rintro i w0 ⟨K1,M1,hi,hn⟩
 refine Zh 9 [.c 0 5] M1 trivial ?_
 refine Zq 0 ((i:Int) < (p.dests.length:Int)) (fun h1 => ?_) (fun h1 => ?_)
 ·have hi2 : i < q.ds.length := by omega
  have hi3 : i < p.dests.length := by omega
  have ha := hP.dests.addrE destC_len (by decide) hi2
  generalize hKT : ((.inv (LI 57 [] (rdsL p q b1 w) i) :: (kEnd Y37 [1,0,1,0] [])) : List Fr) = KT
  have hmem := getD_mem' d0A hi2
  have ho := hP.orig _ hmem
  have hdg := hP.dget i
  refine Zh 20 [.c 0 5,.p (fun _ => (0 ≤ (i:Int) ∧ (i:Int) < (p.dests.length:Int))),.p (fun _ => (q.a3 : Option Addr) = some ⟨(slB q.a3),slO q.a3,none⟩),.p (fun _ => w0.cell? ⟨(slB q.a3),slO q.a3 + i * 2 + 1,none⟩ = some (.slice (q.ds.getD i d0A).a ((q.ds.getD i d0A).d.origins.length) ((q.ds.getD i d0A).c))),.v (.slice (q.ds.getD i d0A).a ((q.ds.getD i d0A).d.origins.length) ((q.ds.getD i d0A).c))] M1 (AC (by omega) (AC (by assumption) (A1 (K1.cell (cellAt destC_len d0A hP.dests hi2 (j := 1) rfl))))) ?_
  refine Zq 0 ((((q.ds.getD i d0A).d.origins.length:Nat):Int) = (0 : Int)) (fun h2 => ?_) (fun h2 => ?_)
  ·exact Z1 4 (.bool false) (⟨by rw [all_bad d0D hi3 (by rw [← hdg]; unfold destB; rw [decide_eq_false (show ¬ 0 < (q.ds.getD i d0A).d.origins.length by omega),Bool.and_false])]; rfl,K1⟩)
  refine Zs 6 [] [] trivial ?_
  refine ZLoop (rdsM p q b1 i w) (k' := (kEnd (cAt Y37 [1,0,1,0,0]) [1,0,0,1,1,1,0] KT)) (body := (cAt (cAt Y37 [1,0,1,0,0]) [1,0,0,1,1,1,0,0])) (by kernel_rfl) 0 [1,3,4,5] (by kernel_rfl) (⟨K1,M1,Nat.zero_le _,fun j h => by omega⟩) ?_
  rintro k w5 ⟨K2,M2,hk,hok⟩
  refine Zq 8 ((k:Int) < (((q.ds.getD i d0A).d.origins.length:Nat):Int)) (fun h3 => ?_) (fun h3 => ?_)
  ·have hk2 : k < (q.ds.getD i d0A).d.origins.length := by omega
   have hc := ho.1.addrE intCells_len (by decide) hk2
   refine Zs 4 [] [] trivial ?_
   refine ZB 25 (kAt (cAt (cAt Y37 [1,0,1,0,0]) [1,0,0,1,1,1,0,0]) [1,0,0,1] (.inv (LI 57 [] (rdsM p q b1 i w) k) :: (kEnd (cAt Y37 [1,0,1,0,0]) [1,0,0,1,1,1,0] KT))) 10 (opsAt (cAt (cAt (cAt Y37 [1,0,1,0,0]) [1,0,0,1,1,1,0,0]) [1,0,0,0])) (fun w1 => Ext w1) ?_
   intro w6 hx7
   obtain ⟨hE8,hM9⟩ := Xt K2 M2 hx7
   refine dh [0,1,2,3,4,5,6] [.p (fun _ => (0 ≤ (k:Int) ∧ (k:Int) < (((q.ds.getD i d0A).d.origins.length:Nat):Int))),.p (fun _ => ((q.ds.getD i d0A).a : Option Addr) = some ⟨(slB (q.ds.getD i d0A).a),slO (q.ds.getD i d0A).a,none⟩),.p (fun w' => (w').cell? ⟨(slB (q.ds.getD i d0A).a),slO (q.ds.getD i d0A).a + k * 1,none⟩ = some (iv ((q.ds.getD i d0A).d.origins.getD k 0))),.v (iv ((q.ds.getD i d0A).d.origins.getD k 0)),.c 0 3] 18 (lb 25 127) hM9 (fun _ h => h) [] trivial [] (fun w' hS => (AC (by omega) (AC (by assumption) (A1 (hS.cell (hE8.cell (int_cell ho.1 hk2))))))) (Ext.refl _) ?_
   refine d1 7 ?_
   refine Wl E64 (rplace_any ((q.ds.getD i d0A).d.origins.getD k 0) (p.nodes.length : Int) w6) ?_
   rintro _ _ ⟨rfl,rfl⟩
   by_cases p1 : (placeB ((q.ds.getD i d0A).d.origins.getD k 0) (p.nodes.length:Int)) = true
   ·by_cases hk0 : (0 : Int) < (k:Int)
    ·refine ⟨Ext.refl _,?_⟩
     have kf11 : (!(placeB ((q.ds.getD i d0A).d.origins.getD k 0) (p.nodes.length:Int))) = false := by rw [show (placeB ((q.ds.getD i d0A).d.origins.getD k 0) (p.nodes.length:Int)) = true from p1]; first | done | rfl
     refine dg [8,9,10,11,12,13,14,15,16,17,18,19,20,21,22,23,24] [.xg 0,.xg 0,.xg 0,.xg 1,.xg 1,.xg 1,.p (fun _ => I64 ((k:Int) - (1 : Int))),.xg 1,.p (fun _ => (0 ≤ ((k:Int) - (1 : Int)) ∧ ((k:Int) - (1 : Int)) < (((q.ds.getD i d0A).d.origins.length:Nat):Int))),.xg 2,.v (iv ((q.ds.getD i d0A).d.origins.getD (k - 1) 0)),.xg 1,.p (fun w' => (w').cell? ⟨(slB (q.ds.getD i d0A).a),slO (q.ds.getD i d0A).a + ((((k:Int) - (1 : Int))).toNat) * 1,none⟩ = some (iv ((q.ds.getD i d0A).d.origins.getD (k - 1) 0))),.xg 1,.xg 1,.xg 1,.p (fun _ => (0 ≤ (k:Int) ∧ (k:Int) < (((q.ds.getD i d0A).d.origins.length:Nat):Int))),.v (iv ((q.ds.getD i d0A).d.origins.getD k 0)),.xg 2,.xg 1,.p (fun w' => (w').cell? ⟨(slB (q.ds.getD i d0A).a),slO (q.ds.getD i d0A).a + k * 1,none⟩ = some (iv ((q.ds.getD i d0A).d.origins.getD k 0))),.g 1,.g 0] 0 (lb 25 33554431) [(!(placeB ((q.ds.getD i d0A).d.origins.getD k 0) (p.nodes.length:Int))) = false,(decide ((0 : Int) < (k:Int))) = true,((q.ds.getD i d0A).a : Option Addr) = some ⟨(slB (q.ds.getD i d0A).a),slO (q.ds.getD i d0A).a,none⟩] (AC kf11 (AC (decide_eq_true hk0) (A1 (by assumption)))) [] (fun w' hS => (AC (i64 (by omega)) (AC (by omega) (AC (hS.cell (by rw [show ((k:Int) - (1 : Int)).toNat = k - 1 by omega]; exact hE8.cell (int_cell ho.1 (by omega)))) (AC (by omega) (A1 (hS.cell (hE8.cell (int_cell ho.1 hk2))))))))) (Ext.refl _) ?_
     refine ZD ?_
     refine Zr 0 _ ((¬ ((placeB ((q.ds.getD i d0A).d.origins.getD k 0) (p.nodes.length:Int)) = true)) ∨ (((0 : Int) < (k:Int)) ∧ ((q.ds.getD i d0A).d.origins.getD k 0 ≤ (q.ds.getD i d0A).d.origins.getD (k - 1) 0))) ((iffOr (iffNot Iff.rfl) (iffAnd iffDec iffDec))) (fun h4 => ?_) (fun h4 => ?_)
     ·exact Z1 4 (.bool false) (⟨by rw [all_bad d0D hi3 (by rw [← hdg]; unfold destB; rw [decide_eq_false (OrigOk.not hk2 (fun e => by rcases h4 with h4 | h4; exact absurd p1 h4; have := e.2 (by omega); omega))]; rfl)]; rfl,hE8⟩)
     refine Zs 7 [] [I64 ((k + 1:Nat):Int)] (A1 (i64 (by omega))) ?_
     exact ZA 0 (rdsM p q b1 i w) k (k + 1) [1,3,4,5] (⟨hE8,hM9,by omega,hok.step p1 (by intro _; apply Classical.byContradiction; intro hn; exact h4 (.inr ⟨by omega,by omega⟩))⟩) (show (q.ds.getD i d0A).d.origins.length - (k + 1) < (q.ds.getD i d0A).d.origins.length - k by omega)
    refine ⟨Ext.refl _,?_⟩
    have kf12 : (!(placeB ((q.ds.getD i d0A).d.origins.getD k 0) (p.nodes.length:Int))) = false := by rw [show (placeB ((q.ds.getD i d0A).d.origins.getD k 0) (p.nodes.length:Int)) = true from p1]; first | done | rfl
    refine dg [8,9,10,11,12,13,14,15,16,17,18,19,20,21,22,23,24] [.xg 0,.xg 0,.xg 0,.sg 1,.sg 1,.sg 1,.sg 1,.sg 1,.sg 1,.sg 1,.sg 1,.sg 1,.sg 1,.xg 0,.p (fun _ => (decide ((0 : Int) < (k:Int))) = false)] 0 (lb 25 33554431) [(!(placeB ((q.ds.getD i d0A).d.origins.getD k 0) (p.nodes.length:Int))) = false,(decide ((0 : Int) < (k:Int))) = (!true)] (AC kf12 (A1 (decide_eq_false hk0))) [] (fun _ _ => (A1 (decide_eq_false hk0))) (Ext.refl _) ?_
    refine ZD ?_
    have kf13 : ((!(placeB ((q.ds.getD i d0A).d.origins.getD k 0) (p.nodes.length:Int))) || false) = false := by rw [show (!(placeB ((q.ds.getD i d0A).d.origins.getD k 0) (p.nodes.length:Int))) = false from kf12]; first | done | rfl
    refine Zs 8 [.skip] [((!(placeB ((q.ds.getD i d0A).d.origins.getD k 0) (p.nodes.length:Int))) || false) = false,I64 ((k + 1:Nat):Int)] (AC kf13 (A1 (i64 (by omega)))) ?_
    exact ZA 0 (rdsM p q b1 i w) k (k + 1) [1,3,4,5] (⟨hE8,hM9,by omega,hok.step p1 (by intro h; omega)⟩) (show (q.ds.getD i d0A).d.origins.length - (k + 1) < (q.ds.getD i d0A).d.origins.length - k by omega)
   refine ⟨Ext.refl _,?_⟩
   have kf10 : (!(placeB ((q.ds.getD i d0A).d.origins.getD k 0) (p.nodes.length:Int))) = true := by rw [show (placeB ((q.ds.getD i d0A).d.origins.getD k 0) (p.nodes.length:Int)) = false from Bool.eq_false_iff.2 p1]; first | done | rfl
   refine dg [8,9,10,11,12,13,14,15,16,17,18,19,20,21,22,23,24] [.sg 0,.sg 0,.sg 0,.sg 0,.p (fun _ => (!(placeB ((q.ds.getD i d0A).d.origins.getD k 0) (p.nodes.length:Int))) = true),.s,.s,.s,.s,.s,.s,.s,.s,.s,.s] 0 (lb 25 33554431) [(!(placeB ((q.ds.getD i d0A).d.origins.getD k 0) (p.nodes.length:Int))) = (!false)] (A1 kf10) [] (fun _ _ => (A1 kf10)) (Ext.refl _) ?_
   refine ZD ?_
   refine Zi 5 [.xt] [] trivial [] trivial ?_
   exact Z1 0 (.bool false) (⟨by rw [all_bad d0D hi3 (by rw [← hdg]; unfold destB; rw [decide_eq_false (OrigOk.not hk2 (fun e => p1 e.1))]; rfl)]; rfl,hE8⟩)
  have hkl : k = (q.ds.getD i d0A).d.origins.length := by omega
  rw [hkl] at hok
  refine Zs 7 [] [I64 ((i + 1:Nat):Int)] (A1 (i64 (by omega))) ?_
  subst hKT
  exact ZA 0 (rdsL p q b1 w) i (i + 1) [1,3] (⟨K2,M2,by omega,fun j hj2 => by by_cases e : j = i; (subst e; rw [← hdg]; unfold destB; rw [decide_eq_true hok,Bool.true_and]; exact decide_eq_true (by omega)); exact hn j (by omega)⟩) (show p.dests.length - (i + 1) < p.dests.length - i by omega)
 refine Zh 9 [.c 0 5] M1 trivial ?_
 exact Z1 0 (.bool (decide ((p.dests.length:Int) ≤ (4 : Int)))) (⟨by rw [all_of_getD' d0D (fun j hj => hn j (by omega)),Bool.true_and],K1⟩)

theorem check_kind {p : PPlan} {c : PCheck} (h : checkB p c = true) : (1 ≤ c.kind ∧ c.kind ≤ 4) ∧ placeB c.node p.nodes.length = true ∧ placeB c.dest p.dests.length = true := by
  unfold checkB checkN at h
  split at h
  · have := checkR_iff.1 h; simp only [placeB_iff]; omega
  · split at h
    · have := checkR_iff.1 h; simp only [placeB_iff]; omega
    · split at h
      · have := checkR_iff.1 h; simp only [placeB_iff]; omega
      · cases h
theorem check_is {p : PPlan} {c : PCheck} (h1 : placeB c.node p.nodes.length = true) (h2 : placeB c.dest p.dests.length = true) (h3 : 1 ≤ c.kind ∧ c.kind ≤ 4) :
    checkB p c = ((if c.kind = 2 then (decide (0 ≤ c.limit) && decide (c.limit ≤ 65535)) else decide (c.limit = 0)) && (if c.kind = 3 ∨ c.kind = 4 then placeB c.other p.nodes.length else decide (c.other = 0))) := by
  simp only [placeB_iff] at h1 h2
  have e1 : ∀ n d l o,checkR n d c l o = true ↔ (0 ≤ c.node ∧ c.node < n) ∧ (0 ≤ c.dest ∧ c.dest < d) ∧ (0 ≤ c.limit ∧ c.limit ≤ l) ∧ (0 ≤ c.other ∧ c.other < o) := fun n d l o => checkR_iff
  unfold checkB checkN
  rw [Bool.eq_iff_iff]
  rcases (show c.kind = 1 ∨ c.kind = 2 ∨ c.kind = 3 ∨ c.kind = 4 by omega) with h | h | h | h <;> simp [h,e1,placeB_iff] <;> omega

def rckL (p : PPlan) (q : PAd) (b1 : Nat) (w : World) : Lp Nat where
  S := fun i => [(1,none,pt b1 0),(3,none,iv (i:Int))]
  J := fun i w' => Ext w w' ∧ Hold w' w.heap.size [.blk b1 (pc p q) 29] ∧ i ≤ p.checks.length ∧ ∀ j,j < i → checkB p (p.checks.getD j d0C) = true
  M := fun i => p.checks.length - i
set_option maxRecDepth 20000 in
theorem rchecks_any (p : PPlan) (q : PAd) (w : World) (hP : PlanAt w p q) :
    Does Tryz.prog 38 [(pv p q)] w (fun v w' => v = .bool (p.checks.all (checkB p) && decide ((p.checks.length : Int) ≤ 16)) ∧ Ext w w') := by
 refine startZ (c := Y38) Tryz.func38 rfl (by kernel_rfl) ?_
 show H _ 86 [] _ (kAt Y38 [] []) (stz [(0,(pv p q))]) w
 have hq := hP.dlen
 have hl1 := hP.l1
 have hl2 := hP.l2
 have hl3 := hP.l3
 have hl4 := hP.l4
 have hE1 : Ext w w := Ext.refl w
 have hM2 : Hold w w.heap.size [] := Hold.nil hE1.le
 refine Zb 2 29 (pv p q) (pc p q) hE1 hM2 ?_
 intro b1 w1 hE4 hM5
 refine Zs 8 [] [] trivial ?_
 refine ZLoop (rckL p q b1 w) (k' := (kEnd Y38 [1,0,1,0] [])) (body := (cAt Y38 [1,0,1,0,0])) (by kernel_rfl) 0 [1,3] (by kernel_rfl) (⟨hE4,hM5,Nat.zero_le _,fun j h => by omega⟩) ?_
 rintro i w0 ⟨K1,M1,hi,hn⟩
 refine Zh 9 [.c 0 6] M1 trivial ?_
 refine Zq 0 ((i:Int) < (p.checks.length:Int)) (fun h1 => ?_) (fun h1 => ?_)
 ·have hi2 : i < p.checks.length := by omega
  have ha := hP.checks.addrE checkC_len (by decide) hi2
  generalize hKT : ((.inv (LI 86 [] (rckL p q b1 w) i) :: (kEnd Y38 [1,0,1,0] [])) : List Fr) = KT
  refine Zh 10 [.c 0 6,.p (fun _ => (0 ≤ (i:Int) ∧ (i:Int) < (p.checks.length:Int))),.p (fun _ => (q.a4 : Option Addr) = some ⟨(slB q.a4),slO q.a4,none⟩),.p (fun _ => w0.cell? ⟨(slB q.a4),slO q.a4 + i * 5,none⟩ = some (iv ((p.checks.getD i d0C).kind))),.p (fun _ => w0.cell? ⟨(slB q.a4),slO q.a4 + i * 5 + 1,none⟩ = some (iv ((p.checks.getD i d0C).node))),.p (fun _ => w0.cell? ⟨(slB q.a4),slO q.a4 + i * 5 + 2,none⟩ = some (iv ((p.checks.getD i d0C).dest))),.p (fun _ => w0.cell? ⟨(slB q.a4),slO q.a4 + i * 5 + 3,none⟩ = some (iv ((p.checks.getD i d0C).limit))),.p (fun _ => w0.cell? ⟨(slB q.a4),slO q.a4 + i * 5 + 4,none⟩ = some (iv ((p.checks.getD i d0C).other))),.v (vC (p.checks.getD i d0C))] M1 (AC (by omega) (AC (by assumption) (AC (K1.cell (cellAt checkC_len d0C hP.checks hi2 (j := 0) rfl)) (AC (K1.cell (cellAt checkC_len d0C hP.checks hi2 (j := 1) rfl)) (AC (K1.cell (cellAt checkC_len d0C hP.checks hi2 (j := 2) rfl)) (AC (K1.cell (cellAt checkC_len d0C hP.checks hi2 (j := 3) rfl)) (A1 (K1.cell (cellAt checkC_len d0C hP.checks hi2 (j := 4) rfl))))))))) ?_
  refine Za 0 51 [iv 0,iv 0,iv 0,iv 0,iv 0] K1 M1 ?_
  intro b4 w2 hE7 hM8
  refine Zt 0 0 0 (vC (p.checks.getD i d0C)) rfl hE7 hM8 ?_
  intro w3 hE10 hM11
  refine Zh 9 [.c 0 1,.c 1 3] hM11 trivial ?_
  refine Zl 0 E64 (rplace_any (p.checks.getD i d0C).node (p.nodes.length : Int) w3) ?_
  rintro _ _ ⟨rfl,rfl⟩
  by_cases p1 : (placeB (p.checks.getD i d0C).node (p.nodes.length:Int)) = true
  ·refine Zw 0 24 (.bool (placeB (p.checks.getD i d0C).node (p.nodes.length:Int))) (.bool true) (by rw [show (placeB (p.checks.getD i d0C).node (p.nodes.length:Int)) = true from p1] <;> rfl) ?_
   refine Zh 7 [.xf,.xf,.c 0 2,.xf,.xf,.c 1 5,.xf] hM11 trivial ?_
   refine Zo 0 [.exec] _ [false = false] (A1 rfl) (runs_call E64 (rplace_any (p.checks.getD i d0C).dest (p.dests.length : Int) w3)) ?_
   rintro _ _ ⟨rfl,rfl⟩
   by_cases p2 : (placeB (p.checks.getD i d0C).dest (p.dests.length:Int)) = true
   ·refine Zw 0 32 (.bool (placeB (p.checks.getD i d0C).dest (p.dests.length:Int))) (.bool true) (by rw [show (placeB (p.checks.getD i d0C).dest (p.dests.length:Int)) = true from p2] <;> rfl) ?_
    refine Zf 13 [.xf,.xf,.xf,.c 0 0,.xf,.gn 0,.y,.y,.gc 0 0 0,.gn 0,.gn 0,.y] hM11 [] trivial [!(decide ((p.checks.getD i d0C).kind < (1 : Int)))] trivial ?_
    refine Zr 0 _ (((p.checks.getD i d0C).kind < (1 : Int)) ∨ ((4 : Int) < (p.checks.getD i d0C).kind)) ((iffOr iffDec iffDec)) (fun p3 => ?_) (fun p3 => ?_)
    ·exact Z1 4 (.bool false) (⟨by rw [all_bad d0C hi2 (by cases hb : checkB p (p.checks.getD i d0C) with | false => rfl | true => (have hx := check_kind hb; exact absurd hx (by intro h; omega)))]; rfl,hE10⟩)
    have hcis := check_is p1 p2 (show 1 ≤ (p.checks.getD i d0C).kind ∧ (p.checks.getD i d0C).kind ≤ 4 by omega)
    refine Zh 22 [.c 0 3,.c 0 4,.c 0 0] hM11 trivial ?_
    refine Zq 0 ((p.checks.getD i d0C).kind = (2 : Int)) (fun k2 => ?_) (fun k2 => ?_)
    ·refine Zf 23 [.c 0 3,.gn 0,.y,.y,.gc 0 0 3,.gn 0,.gn 0,.y,.c 0 0,.gn 1,.y,.y,.gc 1 0 0,.gn 1,.gn 1,.y] hM11 [] trivial [decide ((0 : Int) ≤ (p.checks.getD i d0C).limit),!(decide ((p.checks.getD i d0C).kind = (3 : Int)))] trivial ?_
     refine Zr 0 _ (((p.checks.getD i d0C).kind = (3 : Int)) ∨ ((p.checks.getD i d0C).kind = (4 : Int))) ((iffOr iffDec iffDec)) (fun k34 => ?_) (fun k34 => ?_)
     ·refine Zh 6 [.c 0 4,.c 1 3] hM11 trivial ?_
      refine Zl 0 E64 (rplace_any (p.checks.getD i d0C).other (p.nodes.length : Int) w3) ?_
      rintro _ _ ⟨rfl,rfl⟩
      refine Zi 11 [.gn 0,.gn 0,.y,.y] [] trivial [!(!((decide ((0 : Int) ≤ (p.checks.getD i d0C).limit)) && (decide ((p.checks.getD i d0C).limit ≤ (65535 : Int)))))] trivial ?_
      refine Zr 0 _ ((¬ (((0 : Int) ≤ (p.checks.getD i d0C).limit) ∧ ((p.checks.getD i d0C).limit ≤ (65535 : Int)))) ∨ (¬ ((placeB (p.checks.getD i d0C).other (p.nodes.length:Int)) = true))) ((iffOr (iffNot (iffAnd iffDec iffDec)) (iffNot Iff.rfl))) (fun h9 => ?_) (fun h9 => ?_)
      ·exact Z1 4 (.bool false) (⟨by rw [all_bad d0C hi2 (by rw [hcis,if_pos k2,if_pos k34]; exact Bool.eq_false_iff.2 (fun hx => by simp only [Bool.and_eq_true,decide_eq_true_eq] at hx; exact h9.elim (fun h => h hx.1) (fun h => h hx.2)))]; rfl,hE10⟩)
      refine Zs 7 [] [I64 ((i + 1:Nat):Int)] (A1 (i64 (by omega))) ?_
      refine Zz 0 KT [(1,pt b1 0),(3,iv ((i + 1:Nat):Int))] ?_
      have hM12 := hM11.pickT 2 [1] (by kernel_rfl)
      subst hKT
      exact ZA 0 (rckL p q b1 w) i (i + 1) [1,3] (⟨hE10,hM12,by omega,fun j hj2 => by by_cases e : j = i; (subst e; rw [hcis,if_pos k2,if_pos k34]; simp only [Bool.and_eq_true,decide_eq_true_eq]; exact ⟨Classical.byContradiction fun h => h9 (.inl h),Classical.byContradiction fun h => h9 (.inr h)⟩); exact hn j (by omega)⟩) (show p.checks.length - (i + 1) < p.checks.length - i by omega)
     refine Zi 10 [.gn 0,.gn 0,.y,.y] [] trivial [!(!((decide ((0 : Int) ≤ (p.checks.getD i d0C).limit)) && (decide ((p.checks.getD i d0C).limit ≤ (65535 : Int)))))] trivial ?_
     refine Zr 0 _ ((¬ (((0 : Int) ≤ (p.checks.getD i d0C).limit) ∧ ((p.checks.getD i d0C).limit ≤ (65535 : Int)))) ∨ (¬ ((p.checks.getD i d0C).other = (0 : Int)))) ((iffOr (iffNot (iffAnd iffDec iffDec)) (iffNot iffDec))) (fun h9 => ?_) (fun h9 => ?_)
     ·exact Z1 4 (.bool false) (⟨by rw [all_bad d0C hi2 (by rw [hcis,if_pos k2,if_neg k34]; exact Bool.eq_false_iff.2 (fun hx => by simp only [Bool.and_eq_true,decide_eq_true_eq] at hx; exact h9.elim (fun h => h hx.1) (fun h => h hx.2)))]; rfl,hE10⟩)
     refine Zs 7 [] [I64 ((i + 1:Nat):Int)] (A1 (i64 (by omega))) ?_
     have hM13 := hM11.pickT 2 [1] (by kernel_rfl)
     subst hKT
     exact ZA 0 (rckL p q b1 w) i (i + 1) [1,3] (⟨hE10,hM13,by omega,fun j hj2 => by by_cases e : j = i; (subst e; rw [hcis,if_pos k2,if_neg k34]; simp only [Bool.and_eq_true,decide_eq_true_eq]; exact ⟨Classical.byContradiction fun h => h9 (.inl h),Classical.byContradiction fun h => h9 (.inr h)⟩); exact hn j (by omega)⟩) (show p.checks.length - (i + 1) < p.checks.length - i by omega)
    refine Zf 13 [.c 0 0,.gn 0,.y,.y,.gc 0 0 0,.gn 0,.gn 0,.y] hM11 [] trivial [!(decide ((p.checks.getD i d0C).kind = (3 : Int)))] trivial ?_
    refine Zr 0 _ (((p.checks.getD i d0C).kind = (3 : Int)) ∨ ((p.checks.getD i d0C).kind = (4 : Int))) ((iffOr iffDec iffDec)) (fun k34 => ?_) (fun k34 => ?_)
    ·refine Zh 6 [.c 0 4,.c 1 3] hM11 trivial ?_
     refine Zl 0 E64 (rplace_any (p.checks.getD i d0C).other (p.nodes.length : Int) w3) ?_
     rintro _ _ ⟨rfl,rfl⟩
     refine Zi 11 [.gn 0,.gn 0,.y,.y] [] trivial [!(!(decide ((p.checks.getD i d0C).limit = (0 : Int))))] trivial ?_
     refine Zr 0 _ ((¬ ((p.checks.getD i d0C).limit = (0 : Int))) ∨ (¬ ((placeB (p.checks.getD i d0C).other (p.nodes.length:Int)) = true))) ((iffOr (iffNot iffDec) (iffNot Iff.rfl))) (fun h9 => ?_) (fun h9 => ?_)
     ·exact Z1 4 (.bool false) (⟨by rw [all_bad d0C hi2 (by rw [hcis,if_neg k2,if_pos k34]; exact Bool.eq_false_iff.2 (fun hx => by simp only [Bool.and_eq_true,decide_eq_true_eq] at hx; exact h9.elim (fun h => h hx.1) (fun h => h hx.2)))]; rfl,hE10⟩)
     refine Zs 7 [] [I64 ((i + 1:Nat):Int)] (A1 (i64 (by omega))) ?_
     have hM14 := hM11.pickT 2 [1] (by kernel_rfl)
     subst hKT
     exact ZA 0 (rckL p q b1 w) i (i + 1) [1,3] (⟨hE10,hM14,by omega,fun j hj2 => by by_cases e : j = i; (subst e; rw [hcis,if_neg k2,if_pos k34]; simp only [Bool.and_eq_true,decide_eq_true_eq]; exact ⟨Classical.byContradiction fun h => h9 (.inl h),Classical.byContradiction fun h => h9 (.inr h)⟩); exact hn j (by omega)⟩) (show p.checks.length - (i + 1) < p.checks.length - i by omega)
    refine Zi 10 [.gn 0,.gn 0,.y,.y] [] trivial [!(!(decide ((p.checks.getD i d0C).limit = (0 : Int))))] trivial ?_
    refine Zr 0 _ ((¬ ((p.checks.getD i d0C).limit = (0 : Int))) ∨ (¬ ((p.checks.getD i d0C).other = (0 : Int)))) ((iffOr (iffNot iffDec) (iffNot iffDec))) (fun h9 => ?_) (fun h9 => ?_)
    ·exact Z1 4 (.bool false) (⟨by rw [all_bad d0C hi2 (by rw [hcis,if_neg k2,if_neg k34]; exact Bool.eq_false_iff.2 (fun hx => by simp only [Bool.and_eq_true,decide_eq_true_eq] at hx; exact h9.elim (fun h => h hx.1) (fun h => h hx.2)))]; rfl,hE10⟩)
    refine Zs 7 [] [I64 ((i + 1:Nat):Int)] (A1 (i64 (by omega))) ?_
    have hM15 := hM11.pickT 2 [1] (by kernel_rfl)
    subst hKT
    exact ZA 0 (rckL p q b1 w) i (i + 1) [1,3] (⟨hE10,hM15,by omega,fun j hj2 => by by_cases e : j = i; (subst e; rw [hcis,if_neg k2,if_neg k34]; simp only [Bool.and_eq_true,decide_eq_true_eq]; exact ⟨Classical.byContradiction fun h => h9 (.inl h),Classical.byContradiction fun h => h9 (.inr h)⟩); exact hn j (by omega)⟩) (show p.checks.length - (i + 1) < p.checks.length - i by omega)
   refine Zw 0 32 (.bool (placeB (p.checks.getD i d0C).dest (p.dests.length:Int))) (.bool false) (by rw [show (placeB (p.checks.getD i d0C).dest (p.dests.length:Int)) = false from Bool.eq_false_iff.2 p2] <;> rfl) ?_
   refine Zi 18 [.xf,.st,.st,.st,.st,.st,.st,.xt,.g 0,.g 0] [true = true] (A1 rfl) [] trivial ?_
   exact Z1 0 (.bool false) (⟨by rw [all_bad d0C hi2 (by cases hb : checkB p (p.checks.getD i d0C) with | false => rfl | true => (have hx := check_kind hb; exact absurd hx (by intro h; exact p2 h.2.2)))]; rfl,hE10⟩)
  refine Zw 0 24 (.bool (placeB (p.checks.getD i d0C).node (p.nodes.length:Int))) (.bool false) (by rw [show (placeB (p.checks.getD i d0C).node (p.nodes.length:Int)) = false from Bool.eq_false_iff.2 p1] <;> rfl) ?_
  refine Zi 26 [.st,.st,.st,.st,.st,.st,.st,.st,.st,.st,.st,.st,.st,.xt,.g 0,.g 1,.g 1] [true = (!false),true = true] (AC rfl (A1 rfl)) [] trivial ?_
  exact Z1 0 (.bool false) (⟨by rw [all_bad d0C hi2 (by cases hb : checkB p (p.checks.getD i d0C) with | false => rfl | true => (have hx := check_kind hb; exact absurd hx (by intro h; exact p1 h.2.1)))]; rfl,hE10⟩)
 refine Zh 9 [.c 0 6] M1 trivial ?_
 exact Z1 0 (.bool (decide ((p.checks.length:Int) ≤ (16 : Int)))) (⟨by rw [all_of_getD' d0C (fun j hj => hn j (by omega)),Bool.true_and],K1⟩)

def rNode_anyL (p : PPlan) (q : PAd) (l : Bytes) (b1 : Nat) (w : World) : Lp Nat where
  S := fun i => [(1,none,sv l),(2,none,pt b1 0),(5,none,iv (i:Int))]
  J := fun i w' => Ext w w' ∧ Hold w' w.heap.size [.blk b1 (pc p q) 29] ∧ i ≤ p.nodes.length ∧ ∀ j,j < i → (fun x : PNode => decide (x.name = l)) (p.nodes.getD j d0N) = false
  M := fun i => p.nodes.length - i
set_option maxRecDepth 20000 in
theorem rNode_any (p : PPlan) (q : PAd) (l : Bytes) (w : World) (hP : PlanAt w p q) :
    Does Tryz.prog 14 [(pv p q),sv l] w (fun v w' => v = .int .i64 (idxI (fun x => decide (x.name = l)) p.nodes) ∧ Ext w w') := by
 refine startZ (c := Y14) Tryz.func14 rfl (by kernel_rfl) ?_
 show H _ 22 [] _ (kAt Y14 [] []) (stz [(0,(pv p q)),(1,sv l)]) w
 have hq := hP.dlen
 have hl1 := hP.l1
 have hl2 := hP.l2
 have hl3 := hP.l3
 have hl4 := hP.l4
 have hE1 : Ext w w := Ext.refl w
 have hM2 : Hold w w.heap.size [] := Hold.nil hE1.le
 refine Zb 2 29 (pv p q) (pc p q) hE1 hM2 ?_
 intro b1 w1 hE4 hM5
 refine Zs 8 [] [] trivial ?_
 refine ZLoop (rNode_anyL p q l b1 w) (k' := (kEnd Y14 [1,0,1,0] [])) (body := (cAt Y14 [1,0,1,0,0])) (by kernel_rfl) 0 [1,2,5] (by kernel_rfl) (⟨hE4,hM5,Nat.zero_le _,fun j h => by omega⟩) ?_
 rintro i w0 ⟨K1,M1,hi,hj⟩
 refine Zh 9 [.c 0 3] M1 trivial ?_
 refine Zq 0 ((i:Int) < (p.nodes.length:Int)) (fun h1 => ?_) (fun h1 => ?_)
 ·have hk2 : i < p.nodes.length := by omega
  have ha := hP.nodes.addrE nodeC_len (by decide) hk2
  refine Zh 14 [.c 0 3,.p (fun _ => (0 ≤ (i:Int) ∧ (i:Int) < (p.nodes.length:Int))),.p (fun _ => (q.a1 : Option Addr) = some ⟨(slB q.a1),slO q.a1,none⟩),.p (fun _ => w0.cell? ⟨(slB q.a1),slO q.a1 + i * 2,none⟩ = some (sv ((p.nodes.getD i d0N).name))),.v (sv ((p.nodes.getD i d0N).name))] M1 (AC (by omega) (AC (by assumption) (A1 (K1.cell (cellAt nodeC_len d0N hP.nodes hk2 (j := 0) rfl))))) ?_
  refine Zq 0 (((p.nodes.getD i d0N).name) = l) (fun h2 => ?_) (fun h2 => ?_)
  ·exact Z1 5 (iv (i:Int)) (⟨by rw [idxI_hit d0N hk2 hj (decide_eq_true h2)],K1⟩)
  refine Zs 7 [] [I64 ((i + 1:Nat):Int)] (A1 (i64 (by omega))) ?_
  exact ZA 0 (rNode_anyL p q l b1 w) i (i + 1) [1,2,5] (⟨K1,M1,by omega,fun j hj2 => by by_cases e : j = i; (subst e; exact decide_eq_false h2); exact hj j (by omega)⟩) (show p.nodes.length - (i + 1) < p.nodes.length - i by omega)
 exact Z1 5 (iv (-1)) (⟨by rw [idxI_miss d0N (fun j hj2 => hj j (by omega))],K1⟩)

theorem idxD {ds : List DA} {l : List PDest} (h : ds.map (·.d) = l) (s : Bytes) : idxI (fun x : PDest => decide (x.name = s)) l = idxI (fun x : DA => decide (x.d.name = s)) ds := by
  subst h
  unfold idxI
  rw [List.findIdx?_map]; rfl

def rDest_anyL (p : PPlan) (q : PAd) (l : Bytes) (b1 : Nat) (w : World) : Lp Nat where
  S := fun i => [(1,none,sv l),(2,none,pt b1 0),(5,none,iv (i:Int))]
  J := fun i w' => Ext w w' ∧ Hold w' w.heap.size [.blk b1 (pc p q) 29] ∧ i ≤ q.ds.length ∧ ∀ j,j < i → (fun x : DA => decide (x.d.name = l)) (q.ds.getD j d0A) = false
  M := fun i => q.ds.length - i
set_option maxRecDepth 20000 in
theorem rDest_any (p : PPlan) (q : PAd) (l : Bytes) (w : World) (hP : PlanAt w p q) :
    Does Tryz.prog 16 [(pv p q),sv l] w (fun v w' => v = .int .i64 (idxI (fun x => decide (x.name = l)) p.dests) ∧ Ext w w') := by
 refine startZ (c := Y16) Tryz.func16 rfl (by kernel_rfl) ?_
 show H _ 22 [] _ (kAt Y16 [] []) (stz [(0,(pv p q)),(1,sv l)]) w
 have hq := hP.dlen
 have hl1 := hP.l1
 have hl2 := hP.l2
 have hl3 := hP.l3
 have hl4 := hP.l4
 have hE1 : Ext w w := Ext.refl w
 have hM2 : Hold w w.heap.size [] := Hold.nil hE1.le
 refine Zb 2 29 (pv p q) (pc p q) hE1 hM2 ?_
 intro b1 w1 hE4 hM5
 refine Zs 8 [] [] trivial ?_
 refine ZLoop (rDest_anyL p q l b1 w) (k' := (kEnd Y16 [1,0,1,0] [])) (body := (cAt Y16 [1,0,1,0,0])) (by kernel_rfl) 0 [1,2,5] (by kernel_rfl) (⟨hE4,hM5,Nat.zero_le _,fun j h => by omega⟩) ?_
 rintro i w0 ⟨K1,M1,hi,hj⟩
 refine Zh 9 [.c 0 5] M1 trivial ?_
 refine Zq 0 ((i:Int) < (p.dests.length:Int)) (fun h1 => ?_) (fun h1 => ?_)
 ·have hk2 : i < q.ds.length := by omega
  have ha := hP.dests.addrE destC_len (by decide) hk2
  refine Zh 14 [.c 0 5,.p (fun _ => (0 ≤ (i:Int) ∧ (i:Int) < (p.dests.length:Int))),.p (fun _ => (q.a3 : Option Addr) = some ⟨(slB q.a3),slO q.a3,none⟩),.p (fun _ => w0.cell? ⟨(slB q.a3),slO q.a3 + i * 2,none⟩ = some (sv ((q.ds.getD i d0A).d.name))),.v (sv ((q.ds.getD i d0A).d.name))] M1 (AC (by omega) (AC (by assumption) (A1 (K1.cell (cellAt destC_len d0A hP.dests hk2 (j := 0) rfl))))) ?_
  refine Zq 0 (((q.ds.getD i d0A).d.name) = l) (fun h2 => ?_) (fun h2 => ?_)
  ·exact Z1 5 (iv (i:Int)) (⟨by rw [idxD hP.deq,idxI_hit d0A hk2 hj (decide_eq_true h2)],K1⟩)
  refine Zs 7 [] [I64 ((i + 1:Nat):Int)] (A1 (i64 (by omega))) ?_
  exact ZA 0 (rDest_anyL p q l b1 w) i (i + 1) [1,2,5] (⟨K1,M1,by omega,fun j hj2 => by by_cases e : j = i; (subst e; exact decide_eq_false h2); exact hj j (by omega)⟩) (show q.ds.length - (i + 1) < q.ds.length - i by omega)
 exact Z1 5 (iv (-1)) (⟨by rw [idxD hP.deq,idxI_miss d0A (fun j hj2 => hj j (by omega))],K1⟩)

end Go.Proofs.YtcbclephakfemaaGreatRRRDoor
