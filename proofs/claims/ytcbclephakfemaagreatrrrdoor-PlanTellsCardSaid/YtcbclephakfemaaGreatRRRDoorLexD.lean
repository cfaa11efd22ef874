/-
  LEX: contracts of the reference's Name and what it calls.
-/
import Derived.Test.YtcbclephakfemaaGreatRRRDoorPlanE
import Derived.Test.YtcbclephakfemaaGreatRRRDoorLexRef
import Derived.Test.YtcbclephakfemaaGreatRRRDoorLexLaw
import Derived.Test.YtcbclephakfemaaGreatRRRDoorLz
import Derived.Test.YtcbclephakfemaaGreatRRRDoorFns
namespace Go.Proofs.YtcbclephakfemaaGreatRRRDoor
open Go.Bk Go.Proofs

theorem E75 : Proofs.Enters Tryz.prog 75 := Proofs.enters_of Tryz.func75 (by kernel_rfl) rfl

theorem E94 : Proofs.Enters Tryz.prog 94 := Proofs.enters_of Tryz.func94 (by kernel_rfl) rfl

theorem E77 : Proofs.Enters Tryz.prog 77 := Proofs.enters_of Tryz.func77 (by kernel_rfl) rfl

theorem E76 : Proofs.Enters Tryz.prog 76 := Proofs.enters_of Tryz.func76 (by kernel_rfl) rfl

theorem E63 : Proofs.Enters Tryz.prog 63 := Proofs.enters_of Tryz.func63 (by kernel_rfl) rfl

set_option maxRecDepth 20000 in
theorem rletter_any (c : UInt8) (w : World)  :
    Does Tryz.prog 75 [.int .u8 (c.toNat:Int)] w (fun v w' => v = .bool (letterB c) ∧ w = w') := by
 refine startZ (c := Y75) Tryz.func75 rfl (by kernel_rfl) ?_
 show H _ 17 [] _ (kAt Y75 [] []) (stz [(0,.int .u8 (c.toNat:Int))]) w
 refine Zi 22 [.gn 0,.gn 0,.gn 1,.gn 1,.gn 2,.gn 1,.p (fun _ => (!((decide ((97 : Int) ≤ (c.toNat:Int))) && (decide ((c.toNat:Int) ≤ (122 : Int))))) = true → (decide ((65 : Int) ≤ (c.toNat:Int))) = true → ((!((decide ((97 : Int) ≤ (c.toNat:Int))) && (decide ((c.toNat:Int) ≤ (122 : Int))))) && (decide ((65 : Int) ≤ (c.toNat:Int)))) = true),.gn 1,.y,.y,.y,.y,.y,.y,.y,.y] [] trivial [decide ((97 : Int) ≤ (c.toNat:Int)),!((decide ((97 : Int) ≤ (c.toNat:Int))) && (decide ((c.toNat:Int) ≤ (122 : Int)))),(!((decide ((97 : Int) ≤ (c.toNat:Int))) && (decide ((c.toNat:Int) ≤ (122 : Int))))) && (decide ((65 : Int) ≤ (c.toNat:Int)))] (A1 (by intro _; intro h; simp_all)) ?_
 exact Z1 0 (.bool (((decide ((97 : Int) ≤ (c.toNat:Int))) && (decide ((c.toNat:Int) ≤ (122 : Int)))) || ((decide ((65 : Int) ≤ (c.toNat:Int))) && (decide ((c.toNat:Int) ≤ (90 : Int)))))) (⟨rfl,rfl⟩)

set_option maxRecDepth 20000 in
theorem rdigit_any (c : UInt8) (w : World)  :
    Does Tryz.prog 94 [.int .u8 (c.toNat:Int)] w (fun v w' => v = .bool (digitB c) ∧ w = w') := by
 refine startZ (c := Y94) Tryz.func94 rfl (by kernel_rfl) ?_
 show H _ 9 [] _ (kAt Y94 [] []) (stz [(0,.int .u8 (c.toNat:Int))]) w
 refine Zi 14 [.gn 0,.gn 0,.y,.y] [] trivial [decide ((48 : Int) ≤ (c.toNat:Int))] trivial ?_
 exact Z1 0 (.bool ((decide ((48 : Int) ≤ (c.toNat:Int))) && (decide ((c.toNat:Int) ≤ (57 : Int))))) (⟨rfl,rfl⟩)

set_option maxRecDepth 20000 in
theorem rpart_any (c : UInt8) (w : World)  :
    Does Tryz.prog 77 [.int .u8 (c.toNat:Int)] w (fun v w' => v = .bool (partB c) ∧ w = w') := by
 refine startZ (c := Y77) Tryz.func77 rfl (by kernel_rfl) ?_
 show H _ 17 [] _ (kAt Y77 [] []) (stz [(0,.int .u8 (c.toNat:Int))]) w
 refine Zl 7 E75 (rletter_any c w) ?_
 rintro v _ ⟨rfl,rfl⟩
 refine Zs 2 [.sym] [] trivial ?_
 refine ZCond (fun w' => w = w') (.bool (digitB c)) (e := .call 94 [.int .u8 (c.toNat:Int)]) (d := 7) (g := !(letterB c)) (k' := (kOp Y77 [1,0] 5 [])) (ps := [(!(letterB c)) = true → (!(letterB c)) = true]) (by kernel_rfl) (A1 (fun h => h)) (rfl) (fun hg => runs_call E94 ((rdigit_any c w).mono fun v w' ⟨h1,h2⟩ => ⟨h1,h2⟩)) ?_
 rintro _ rfl
 refine Zi 11 [.gn 0,.gn 1,.gn 1,.gn 2,.gn 2,.y,.y,.y,.y] [] trivial [!(letterB c),!((letterB c) || (digitB c)),!(((letterB c) || (digitB c)) || (decide ((c.toNat:Int) = (45 : Int))))] trivial ?_
 exact Z1 0 (.bool ((((letterB c) || (digitB c)) || (decide ((c.toNat:Int) = (45 : Int)))) || (decide ((c.toNat:Int) = (95 : Int))))) (⟨rfl,rfl⟩)

theorem kw_len : kwList.length = 13 := rfl
theorem kwB_true {l : Bytes} {k : Nat} (hk : k < 13) (h : kwList.getD k [] = l) : kwB l = true := by
  unfold kwB
  rw [decide_eq_true_eq,← h,List.getD_eq_getElem?_getD,List.getElem?_eq_getElem (by rw [kw_len]; exact hk)]
  exact List.getElem_mem _
theorem kwB_false {l : Bytes} (h : ∀ j,j < 13 → kwList.getD j [] ≠ l) : kwB l = false := by
  unfold kwB
  rw [decide_eq_false_iff_not]
  intro hm
  obtain ⟨j,hj,e⟩ := List.getElem_of_mem hm
  refine h j (by rw [kw_len] at hj; exact hj) ?_
  rw [List.getD_eq_getElem?_getD,List.getElem?_eq_getElem hj,Option.getD_some,e]
theorem kw_cell {w : World} {b : Nat} {t : TypeId} (h : w.heap[b]? = some (.cells (kwList.map fun l => Value.string (bs l)).toArray t (0,0))) {k : Nat} (hk : k < 13) : w.cell? ⟨b,0 + k * 1,none⟩ = some (.string (bs (kwList.getD k []))) := by
  refine cell_of h ?_
  rw [Nat.zero_add,Nat.mul_one]
  simp only [List.getElem?_toArray,List.getElem?_map]
  rw [List.getD_eq_getElem?_getD,List.getElem?_eq_getElem (by rw [kw_len]; exact hk)]
  rfl

def rkwL (l : Bytes) (b1 : Nat) (w1 : World) : Lp Nat where
  S := fun k => [(0,none,sv l),(3,none,.slice (some ⟨b1,0,none⟩) 13 13),(4,none,iv (k:Int))]
  J := fun k w' => w1 = w' ∧ k ≤ 13 ∧ ∀ j,j < k → kwList.getD j [] ≠ l
  M := fun k => 13 - k
set_option maxRecDepth 20000 in
theorem rKeyword_any (l : Bytes) (w : World)  :
    Does Tryz.prog 76 [sv l] w (fun v w' => v = .bool (kwB l) ∧ Ext w w') := by
 refine startZ (c := Y76) Tryz.func76 rfl (by kernel_rfl) ?_
 show H _ 18 [] _ (kAt Y76 [] []) (stz [(0,sv l)]) w
 refine Z0 6 (.bslice 37 13 [(0,sv ([112,114,111,116,111,99,111,108])),(1,sv ([118,101,99,116,111,114])),(2,sv ([112,97,116,104])),(3,sv ([102,97,105,108,117,114,101,115])),(4,sv ([110,111,100,101])),(5,sv ([108,105,110,107])),(6,sv ([100,101,115,116])),(7,sv ([97,116])),(8,sv ([99,104,101,99,107])),(9,sv ([114,101,97,99,104])),(10,sv ([119,105,116,104,105,110])),(11,sv ([119,97,121,112,111,105,110,116])),(12,sv ([101,113,117,97,108]))]) (runs_bslice (cs := kwList.map fun l => Value.string (bs l)) (e := 9) (by kernel_rfl)) ?_
 rintro _ w1 ⟨b1,rfl,hN⟩
 have hcs := hN.own
 have hX := hN.ext
 clear hN
 refine Zs 8 [] [] trivial ?_
 refine ZLoop (rkwL l b1 w1) (k' := (kEnd Y76 [1,1,0,1,0] [])) (body := (cAt Y76 [1,1,0,1,0,0])) (by kernel_rfl) 0 [0,3,4] (by kernel_rfl) (⟨rfl,by omega,fun j hj => by omega⟩) ?_
 rintro k _ ⟨rfl,hk,hp⟩
 refine Zq 8 ((k:Int) < (13 : Int)) (fun h0 => ?_) (fun h0 => ?_)
 ·refine Zs 12 [.ld (sv (kwList.getD k []))] [(0 ≤ (k:Int) ∧ (k:Int) < (13 : Int)),((some ⟨b1,0,none⟩) : Option Addr) = some ⟨b1,0,none⟩,cl w1 b1 (0 + k * 1) (sv (kwList.getD k []))] (AC (by omega) (AC rfl (A1 (kw_cell hcs (by omega))))) ?_
  refine Zq 0 ((kwList.getD k []) = l) (fun h1 => ?_) (fun h1 => ?_)
  ·exact Z1 4 (.bool true) (⟨by rw [kwB_true (by omega) h1],hX⟩)
  refine Zs 7 [] [I64 ((k + 1:Nat):Int)] (A1 (i64 (by omega))) ?_
  exact ZA 0 (rkwL l b1 w1) k (k + 1) [0,3,4] (⟨rfl,by omega,fun j hj => by by_cases e : j = k; (subst e; exact h1); exact hp j (by omega)⟩) (show 13 - (k + 1) < 13 - k by omega)
 exact Z1 5 (.bool false) (⟨by rw [kwB_false (fun j hj => hp j (by omega))],hX⟩)

theorem rname_no {l : Bytes} (h : ((((l = []) ∨ ((12 : Int) < (l.length:Int))) ∨ ¬ (letterB (l.getD 0 0) = true)) ∨ (kwB l = true))) : nameB l = false := by
  cases hn : nameB l with
  | false => rfl
  | true =>
    obtain ⟨h1,h2,h3,h4,h5⟩ := nameB_iff.1 hn
    rcases h with ((h | h) | h) | h
    · exact absurd h h1
    · omega
    · exact absurd h3 h
    · rw [h5] at h; cases h
theorem rname_yes {l : Bytes} (h : ¬ ((((l = []) ∨ ((12 : Int) < (l.length:Int))) ∨ ¬ (letterB (l.getD 0 0) = true)) ∨ (kwB l = true))) (hp : ∀ j,j < l.length → partB (l.getD j 0) = true) : nameB l = true := by
  simp only [not_or,Classical.not_not] at h
  obtain ⟨⟨⟨h1,h2⟩,h3⟩,h4⟩ := h
  exact nameB_iff.2 ⟨h1,by omega,h3,runLen_all partB l hp,by simpa using h4⟩

def rnL (l : Bytes) (w1 : World) : Lp Nat where
  S := fun k => [(0,none,sv l),(3,none,iv (k:Int))]
  J := fun k w' => w1 = w' ∧ k ≤ l.length ∧ ∀ j,j < k → partB (l.getD j 0) = true
  M := fun k => l.length - k
set_option maxRecDepth 20000 in
theorem rName_any (l : Bytes) (w : World) (hl : l.length ≤ 9223372036854775807) :
    Does Tryz.prog 63 [sv l] w (fun v w' => v = .bool (nameB l) ∧ Ext w w') := by
 refine startZ (c := Y63) Tryz.func63 rfl (by kernel_rfl) ?_
 show H _ 32 [] _ (kAt Y63 [] []) (stz [(0,sv l)]) w
 refine Zi 17 [.gn 0,.gn 0,.gn 0,.gn 1,.p (fun _ => (!((decide (l = ([]))) || (decide ((12 : Int) < (((l).length:Nat):Int))))) = true → (0 ≤ (0 : Int) ∧ (0 : Int) < ((l).length : Int))),.y,.y,.y,.y,.y] [] trivial [!(decide (l = ([]))),!((decide (l = ([]))) || (decide ((12 : Int) < (((l).length:Nat):Int))))] (A1 (by intro h; cases l <;> simp_all <;> omega)) ?_
 refine ZCond (fun w' => w = w') (.bool (letterB (l.getD 0 0))) (e := .call 75 [.int .u8 (((l.getD 0 0).toNat:Nat):Int)]) (d := 14) (g := !((decide (l = ([]))) || (decide ((12 : Int) < (((l).length:Nat):Int))))) (k' := (kOp Y63 [1,0,0] 11 [])) (ps := [(!((decide (l = ([]))) || (decide ((12 : Int) < (((l).length:Nat):Int))))) = true → (!((decide (l = ([]))) || (decide ((12 : Int) < (((l).length:Nat):Int))))) = true]) (by kernel_rfl) (A1 (fun h => h)) (rfl) (fun hg => runs_call E75 (rletter_any (l.getD 0 0) w)) ?_
 rintro _ rfl
 refine Zi 4 [.gn 0,.gn 0,.y,.y] [] trivial [!((decide (l = ([]))) || (decide ((12 : Int) < (((l).length:Nat):Int))))] trivial ?_
 refine ZCond (fun w' => Ext w w') (.bool (kwB l)) (e := .call 76 [sv l]) (d := 19) (g := !(((decide (l = ([]))) || (decide ((12 : Int) < (((l).length:Nat):Int)))) || (!(letterB (l.getD 0 0))))) (k' := (kOp Y63 [1,0,0] 16 [])) (ps := [(!(((decide (l = ([]))) || (decide ((12 : Int) < (((l).length:Nat):Int)))) || (!(letterB (l.getD 0 0))))) = true → (!(((decide (l = ([]))) || (decide ((12 : Int) < (((l).length:Nat):Int)))) || (!(letterB (l.getD 0 0))))) = true]) (by kernel_rfl) (A1 (fun h => h)) (Ext.refl w) (fun hg => runs_call E76 (rKeyword_any l w)) ?_
 rintro w1 hE
 refine Zi 2 [.gn 0] [] trivial [!(((decide (l = ([]))) || (decide ((12 : Int) < (((l).length:Nat):Int)))) || (!(letterB (l.getD 0 0))))] trivial ?_
 refine Zr 0 _ ((((l = ([])) ∨ ((12 : Int) < (((l).length:Nat):Int))) ∨ (¬ ((letterB (l.getD 0 0)) = true))) ∨ ((kwB l) = true)) ((iffOr (iffOr (iffOr iffDec iffDec) (iffNot Iff.rfl)) Iff.rfl)) (fun h0 => ?_) (fun h0 => ?_)
 ·exact Z1 4 (.bool false) (⟨by rw [rname_no h0],hE⟩)
 refine Zs 7 [] [] trivial ?_
 refine ZLoop (rnL l w1) (k' := (kEnd Y63 [1,1,0,1,0] [])) (body := (cAt Y63 [1,1,0,1,0,0])) (by kernel_rfl) 0 [0,3] (by kernel_rfl) (⟨rfl,by omega,fun j hj => by omega⟩) ?_
 rintro k _ ⟨rfl,hk,hp⟩
 refine Zq 8 ((k:Int) < (((l).length:Nat):Int)) (fun h1 => ?_) (fun h1 => ?_)
 ·refine Zs 8 [] [(0 ≤ (k:Int) ∧ (k:Int) < ((l).length : Int))] (A1 (by omega)) ?_
  refine Zl 0 E77 (rpart_any (l.getD k 0) w1) ?_
  rintro _ _ ⟨rfl,rfl⟩
  refine Zr 2 _ (¬ ((partB (l.getD k 0)) = true)) ((iffNot Iff.rfl)) (fun h2 => ?_) (fun h2 => ?_)
  ·exact Z1 4 (.bool false) (⟨by rw [nameB_false_of_part (k := k) (by omega) (by simpa using h2)],hE⟩)
  refine Zs 7 [] [I64 ((k + 1:Nat):Int)] (A1 (i64 (by omega))) ?_
  exact ZA 0 (rnL l w1) k (k + 1) [0,3] (⟨rfl,by omega,fun j hj => by by_cases e : j = k; (subst e; simpa using h2); exact hp j (by omega)⟩) (show l.length - (k + 1) < l.length - k by omega)
 exact Z1 5 (.bool true) (⟨by rw [rname_yes h0 (fun j hj => hp j (by omega))],hE⟩)

end Go.Proofs.YtcbclephakfemaaGreatRRRDoor
