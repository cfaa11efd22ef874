/-
  LEX: contracts of the reference's functions.
-/
import Derived.Test.YtjhgghpeapmgdaaGreatDoorLexB
import Derived.Test.YtjhgghpeapmgdaaGreatDoorDraw
namespace Go.Proofs.YtjhgghpeapmgdaaGreatDoor
open Go.Bk Go.Proofs

theorem kw_len : kwList.length = 13 := rfl
theorem kwB_true {l : Bytes} {k : Nat} (hk : k < 13) (h : kwList.getD k [] = l) : kwB l = true := by
  unfold kwB
  rw [decide_eq_true_eq,← h,List.getD_eq_getElem?_getD,List.getElem?_eq_getElem (by rw [kw_len]; exact hk)]
  exact List.getElem_mem _
theorem kwB_false {l : Bytes} (h : ∀ j,j < 13 → kwList.getD j [] ≠ l) : kwB l = false := by
  unfold kwB
  rw [decide_eq_false_iff_not]
  intro hm
  obtain ⟨j,hj,e⟩ := List.getElem_of_mem hm
  refine h j (by rw [kw_len] at hj; exact hj) ?_
  rw [List.getD_eq_getElem?_getD,List.getElem?_eq_getElem hj,Option.getD_some,e]
theorem kw_cell {w : World} {b : Nat} {t : TypeId} (h : w.heap[b]? = some (.cells (kwList.map fun l => Value.string (bs l)).toArray t (0,0))) {k : Nat} (hk : k < 13) : w.cell? ⟨b,0 + k * 1,none⟩ = some (.string (bs (kwList.getD k []))) := by
  refine cell_of h ?_
  rw [Nat.zero_add,Nat.mul_one]
  simp only [List.getElem?_toArray,List.getElem?_map]
  rw [List.getD_eq_getElem?_getD,List.getElem?_eq_getElem (by rw [kw_len]; exact hk)]
  rfl

def rkwL (l : Bytes) (b1 : Nat) (w1 : World) : Lp Nat where
  S := fun k => [(0,none,sv l),(3,none,.slice (some ⟨b1,0,none⟩) 13 13),(4,none,iv ((k:Nat):Int))]
  J := fun k w' => w1 = w' ∧ k ≤ 13 ∧ ∀ j,j < k → kwList.getD j [] ≠ l
  M := fun k => 13 - k
set_option maxRecDepth 20000 in
theorem rKeyword_any (l : Bytes) (w : World)  :
    Does Tryz.prog 67 [sv l] w (fun v w' => v = .bool (kwB l) ∧ Ext w w') := by
 refine startD (c := (bodyOf Tryz.f67)) Tryz.func67 rfl (by kernel_rfl) ?_
 show G _ 18 [] _ (kAt (bodyOf Tryz.f67) [] []) (stz [(0,sv l)]) w
 refine sgz 6 [] (kOp (bodyOf Tryz.f67) [1,0] 0 []) [(0,sv l),(2,.bool false)] [] trivial ?_
 refine oss [] (.bslice 37 13 [(0,sv ([112,114,111,116,111,99,111,108])),(1,sv ([118,101,99,116,111,114])),(2,sv ([112,97,116,104])),(3,sv ([102,97,105,108,117,114,101,115])),(4,sv ([110,111,100,101])),(5,sv ([108,105,110,107])),(6,sv ([100,101,115,116])),(7,sv ([97,116])),(8,sv ([99,104,101,99,107])),(9,sv ([114,101,97,99,104])),(10,sv ([119,105,116,104,105,110])),(11,sv ([119,97,121,112,111,105,110,116])),(12,sv ([101,113,117,97,108]))]) (some 5) (kOp (bodyOf Tryz.f67) [1,0] 1 []) [] trivial (runs_bslice (cs := kwList.map fun l => Value.string (bs l)) (e := 9) (by kernel_rfl)) ?_
 rintro _ w1 ⟨b1,rfl,hN⟩
 have hcs := hN.own
 have hX := hN.ext
 clear hN
 refine sgz 8 [] (kAt (bodyOf Tryz.f67) [1,1,0,1,0] []) [(0,sv l),(2,.bool false),(3,.slice (some ⟨b1,0,none⟩) 13 13),(4,iv (0 : Int))] [] trivial ?_
 refine loopR (rkwL l b1 w1) (k' := (kEnd (bodyOf Tryz.f67) [1,1,0,1,0] [])) (body := (cAt (bodyOf Tryz.f67) [1,1,0,1,0,0])) (by kernel_rfl) 0 [0,3,4] (by kernel_rfl) (⟨rfl,by omega,fun j hj => by omega⟩) ?_
 rintro k _ ⟨rfl,hk,hp⟩
 refine sgz 8 [] (kAt (cAt (bodyOf Tryz.f67) [1,1,0,1,0,0]) [0,1] (.inv (LI 18 [] (rkwL l b1 w1) k) :: (kEnd (bodyOf Tryz.f67) [1,1,0,1,0] []))) [(0,sv l),(3,.slice (some ⟨b1,0,none⟩) 13 13),(4,iv ((k:Nat):Int)),(9,.bool (decide (((k:Nat):Int) < (13 : Int))))] [] trivial ?_
 refine brs (decide (((k:Nat):Int) < (13 : Int))) (kAt (cAt (bodyOf Tryz.f67) [1,1,0,1,0,0]) [0,1,0] (.inv (LI 18 [] (rkwL l b1 w1) k) :: (kEnd (bodyOf Tryz.f67) [1,1,0,1,0] []))) (kAt (cAt (bodyOf Tryz.f67) [1,1,0,1,0,0]) [0,1,1] (.inv (LI 18 [] (rkwL l b1 w1) k) :: (kEnd (bodyOf Tryz.f67) [1,1,0,1,0] []))) (((k:Nat):Int) < (13 : Int)) (iffDec) (fun h0 => ?_) (fun h0 => ?_)
 · refine sgz 12 [.ld (sv (kwList.getD k []))] (kAt (cAt (bodyOf Tryz.f67) [1,1,0,1,0,0]) [1,0,0,1] (.inv (LI 18 [] (rkwL l b1 w1) k) :: (kEnd (bodyOf Tryz.f67) [1,1,0,1,0] []))) [(0,sv l),(3,.slice (some ⟨b1,0,none⟩) 13 13),(4,iv ((k:Nat):Int)),(17,.bool (decide ((kwList.getD k []) = l)))] [(0 ≤ ((k:Nat):Int) ∧ ((k:Nat):Int) < (13 : Int)),((some ⟨b1,0,none⟩) : Option Addr) = some ⟨b1,0,none⟩,w1.cell? ⟨b1,0 + k * 1,none⟩ = some (sv (kwList.getD k []))] (AC (by omega) (AC rfl (A1 (kw_cell hcs (by omega))))) ?_
   refine brs (decide ((kwList.getD k []) = l)) (kAt (cAt (bodyOf Tryz.f67) [1,1,0,1,0,0]) [1,0,0,1,0] (.inv (LI 18 [] (rkwL l b1 w1) k) :: (kEnd (bodyOf Tryz.f67) [1,1,0,1,0] []))) (kAt (cAt (bodyOf Tryz.f67) [1,1,0,1,0,0]) [1,0,0,1,1] (.inv (LI 18 [] (rkwL l b1 w1) k) :: (kEnd (bodyOf Tryz.f67) [1,1,0,1,0] []))) ((kwList.getD k []) = l) (iffDec) (fun h1 => ?_) (fun h1 => ?_)
   · refine sgz 4 [] (kAt (cAt (bodyOf Tryz.f67) [1,1,0,1,0,0]) [1,0,0,1,0,1] (.inv (LI 18 [] (rkwL l b1 w1) k) :: (kEnd (bodyOf Tryz.f67) [1,1,0,1,0] []))) [(0,sv l),(2,.bool true),(3,.slice (some ⟨b1,0,none⟩) 13 13),(4,iv ((k:Nat):Int))] [] trivial ?_
     exact retD (hs := []) (vs := [.bool true]) (ps := []) (by kernel_rfl) trivial (v := .bool true) rfl (⟨by rw [kwB_true (by omega) h1],hX⟩)
   · refine sgz 7 [] (.inv (LI 18 [] (rkwL l b1 w1) k) :: (kEnd (bodyOf Tryz.f67) [1,1,0,1,0] [])) [(0,sv l),(3,.slice (some ⟨b1,0,none⟩) 13 13),(4,iv ((k + 1:Nat):Int))] [I64 ((k + 1:Nat):Int)] (A1 (i64 (by omega))) ?_
     exact again (k + 1) [0,3,4] (by kernel_rfl) (⟨rfl,by omega,fun j hj => by by_cases e : j = k; (subst e; exact h1); exact hp j (by omega)⟩) (show 13 - (k + 1) < 13 - k by omega)
 · refine sgz 5 [] (kAt (bodyOf Tryz.f67) (ro1 4 []) []) [(2,.bool false)] [] trivial ?_
   exact retD (hs := []) (vs := [.bool false]) (ps := []) (by kernel_rfl) trivial (v := .bool false) rfl (⟨by rw [kwB_false (fun j hj => hp j (by omega))],hX⟩)

theorem tok_cell {w : World} {a : Option Addr} {ts : List Tok} (h : Cells w a (ts.flatMap tokCells)) {i : Nat} (hi : i < ts.length) (j : Nat) {v : Value} (hv : (tokCells (ts.getD i ⟨0,[],0,0⟩))[j]? = some v) : w.cell? ⟨slB a,slO a + i * 4 + j,none⟩ = some v := by
  refine h.elem tokCells_len (i := i) (j := j) ?_ hv
  rw [List.getD_eq_getElem?_getD,List.getElem?_eq_getElem hi]
  rfl
theorem tok_ext {x y : Tok} (h : ¬ ¬ ((x.kind = y.kind) ∧ ((x.text = y.text) ∧ ((x.n = y.n) ∧ (x.at' = y.at'))))) : x = y := by
  obtain ⟨h1,h2,h3,h4⟩ := Classical.not_not.1 h
  cases x; cases y
  simp only at h1 h2 h3 h4
  rw [h1,h2,h3,h4]
theorem list_ext {α : Type} {d : α} {xs ys : List α} (h : xs.length = ys.length) (he : ∀ j,j < xs.length → xs.getD j d = ys.getD j d) : xs = ys := by
  refine List.ext_getElem h (fun j h1 h2 => ?_)
  have := he j h1
  rw [List.getD_eq_getElem?_getD,List.getD_eq_getElem?_getD,List.getElem?_eq_getElem h1,List.getElem?_eq_getElem h2] at this
  exact this

end Go.Proofs.YtjhgghpeapmgdaaGreatDoor
