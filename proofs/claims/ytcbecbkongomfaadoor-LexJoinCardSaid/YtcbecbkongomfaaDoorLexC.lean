/-
  LEX: contracts of the reference's functions.
-/
import Derived.Test.YtcbecbkongomfaaDoorLexB
import Derived.Test.YtcbecbkongomfaaDoorDraw
namespace Go.Proofs.YtcbecbkongomfaaDoor
open Go.Bk Go.Proofs

theorem kw_len : kwList.length = 13 := rfl
theorem kwB_true {l : Bytes} {k : Nat} (hk : k < 13) (h : kwList.getD k [] = l) : kwB l = true := by
  unfold kwB
  rw [decide_eq_true_eq, ← h, List.getD_eq_getElem?_getD, List.getElem?_eq_getElem (by rw [kw_len]; exact hk)]
  exact List.getElem_mem _
theorem kwB_false {l : Bytes} (h : ∀ j, j < 13 → kwList.getD j [] ≠ l) : kwB l = false := by
  unfold kwB
  rw [decide_eq_false_iff_not]
  intro hm
  obtain ⟨j, hj, e⟩ := List.getElem_of_mem hm
  refine h j (by rw [kw_len] at hj; exact hj) ?_
  rw [List.getD_eq_getElem?_getD, List.getElem?_eq_getElem hj, Option.getD_some, e]
theorem kw_cell {w : World} {b : Nat} {t : TypeId} (h : w.heap[b]? = some (.cells (kwList.map fun l => Value.string (bs l)).toArray t (0, 0))) {k : Nat} (hk : k < 13) : w.cell? ⟨b, 0 + k * 1, none⟩ = some (.string (bs (kwList.getD k []))) := by
  refine cell_of h ?_
  rw [Nat.zero_add, Nat.mul_one]
  simp only [List.getElem?_toArray, List.getElem?_map]
  rw [List.getD_eq_getElem?_getD, List.getElem?_eq_getElem (by rw [kw_len]; exact hk)]
  rfl

def rkwL (l : Bytes) (b1 : Nat) (w1 : World) : Lp Nat where
  S := fun k => [(0, none, .string (bs l)), (3, none, .slice (some ⟨b1, 0, none⟩) 13 13), (4, none, .int .i64 ((k : Nat) : Int))]
  J := fun k w' => w1 = w' ∧ k ≤ 13 ∧ ∀ j, j < k → kwList.getD j [] ≠ l
  M := fun k => 13 - k
theorem rKeyword_any (l : Bytes) (w : World)  :
    Does Tryd.prog 21 [.string (bs l)] w (fun v w' => v = .bool (kwB l) ∧ Ext w w') := by
  refine startD (c := (bodyOf Tryd.f21)) Tryd.func21 rfl (by kernel_rfl) ?_
  show G _ 18 [] _ (kAt (bodyOf Tryd.f21) [] []) [(0, none, .string (bs l))] w
  refine sg (tabOk Tryd.prog) 6 [] [0, 2, 3, 5] (k' := (kOp (bodyOf Tryd.f21) [1, 0] 0 [])) (st' := [(0, none, .string (bs l)), (2, none, .bool false)]) (ps := []) (by kernel_rfl) trivial ?_
  refine opStep (hs := []) (e := .bslice 29 13 [(0, .string (bs ([112, 114, 111, 116, 111, 99, 111, 108]))), (1, .string (bs ([118, 101, 99, 116, 111, 114]))), (2, .string (bs ([112, 97, 116, 104]))), (3, .string (bs ([102, 97, 105, 108, 117, 114, 101, 115]))), (4, .string (bs ([110, 111, 100, 101]))), (5, .string (bs ([108, 105, 110, 107]))), (6, .string (bs ([100, 101, 115, 116]))), (7, .string (bs ([97, 116]))), (8, .string (bs ([99, 104, 101, 99, 107]))), (9, .string (bs ([114, 101, 97, 99, 104]))), (10, .string (bs ([119, 105, 116, 104, 105, 110]))), (11, .string (bs ([119, 97, 121, 112, 111, 105, 110, 116]))), (12, .string (bs ([101, 113, 117, 97, 108])))]) (d := some 5) (k' := (kOp (bodyOf Tryd.f21) [1, 0] 1 [])) (ps := []) (by kernel_rfl) trivial (runs_bslice (cs := kwList.map fun l => Value.string (bs l)) (e := 9) (by kernel_rfl)) ?_
  rintro _ w1 ⟨b1, rfl, hN⟩
  have hcs := hN.own
  have hX := hN.ext
  clear hN
  refine sg (tabOk Tryd.prog) 8 [] [0, 2, 3, 4] (k' := (kAt (bodyOf Tryd.f21) [1, 1, 0, 1, 0] [])) (st' := [(0, none, .string (bs l)), (2, none, .bool false), (3, none, .slice (some ⟨b1, 0, none⟩) 13 13), (4, none, .int .i64 (0 : Int))]) (ps := []) (by kernel_rfl) trivial ?_
  refine loopR (rkwL l b1 w1) (k' := (kEnd (bodyOf Tryd.f21) [1, 1, 0, 1, 0] [])) (body := (cAt (bodyOf Tryd.f21) [1, 1, 0, 1, 0, 0])) (by kernel_rfl) 0 [0, 3, 4] (by kernel_rfl) (⟨rfl, by omega, fun j hj => by omega⟩) ?_
  rintro k _ ⟨rfl, hk, hp⟩
  refine sg (tabOk Tryd.prog) 8 [] [0, 2, 3, 4, 9] (k' := (kAt (cAt (bodyOf Tryd.f21) [1, 1, 0, 1, 0, 0]) [0, 1] (.inv (LI 18 [] (rkwL l b1 w1) k) :: (kEnd (bodyOf Tryd.f21) [1, 1, 0, 1, 0] [])))) (st' := [(0, none, .string (bs l)), (3, none, .slice (some ⟨b1, 0, none⟩) 13 13), (4, none, .int .i64 ((k : Nat) : Int)), (9, none, .bool (decide (((k : Nat) : Int) < (13 : Int))))]) (ps := []) (by kernel_rfl) trivial ?_
  refine br (b := (decide (((k : Nat) : Int) < (13 : Int)))) (kt := (kAt (cAt (bodyOf Tryd.f21) [1, 1, 0, 1, 0, 0]) [0, 1, 0] (.inv (LI 18 [] (rkwL l b1 w1) k) :: (kEnd (bodyOf Tryd.f21) [1, 1, 0, 1, 0] [])))) (kf := (kAt (cAt (bodyOf Tryd.f21) [1, 1, 0, 1, 0, 0]) [0, 1, 1] (.inv (LI 18 [] (rkwL l b1 w1) k) :: (kEnd (bodyOf Tryd.f21) [1, 1, 0, 1, 0] [])))) (ps := []) (by kernel_rfl) trivial (p := ((k : Nat) : Int) < (13 : Int)) (iffDec) (fun h0 => ?_) (fun h0 => ?_)
  · refine sg (tabOk Tryd.prog) 12 [.ld (.string (bs (kwList.getD k [])))] [0, 2, 3, 4, 17] (k' := (kAt (cAt (bodyOf Tryd.f21) [1, 1, 0, 1, 0, 0]) [1, 0, 0, 1] (.inv (LI 18 [] (rkwL l b1 w1) k) :: (kEnd (bodyOf Tryd.f21) [1, 1, 0, 1, 0] [])))) (st' := [(0, none, .string (bs l)), (3, none, .slice (some ⟨b1, 0, none⟩) 13 13), (4, none, .int .i64 ((k : Nat) : Int)), (17, none, .bool (decide ((kwList.getD k []) = l)))]) (ps := [(0 ≤ ((k : Nat) : Int) ∧ ((k : Nat) : Int) < (13 : Int)), ((some ⟨b1, 0, none⟩) : Option Addr) = some ⟨b1, 0, none⟩, w1.cell? ⟨b1, 0 + k * 1, none⟩ = some (.string (bs (kwList.getD k [])))]) (by kernel_rfl) ⟨(by omega), (rfl), (show w1.cell? ⟨b1, 0 + k * 1, none⟩ = some (.string (bs (kwList.getD k []))) from kw_cell hcs (by omega))⟩ ?_
    refine br (b := (decide ((kwList.getD k []) = l))) (kt := (kAt (cAt (bodyOf Tryd.f21) [1, 1, 0, 1, 0, 0]) [1, 0, 0, 1, 0] (.inv (LI 18 [] (rkwL l b1 w1) k) :: (kEnd (bodyOf Tryd.f21) [1, 1, 0, 1, 0] [])))) (kf := (kAt (cAt (bodyOf Tryd.f21) [1, 1, 0, 1, 0, 0]) [1, 0, 0, 1, 1] (.inv (LI 18 [] (rkwL l b1 w1) k) :: (kEnd (bodyOf Tryd.f21) [1, 1, 0, 1, 0] [])))) (ps := []) (by kernel_rfl) trivial (p := (kwList.getD k []) = l) (iffDec) (fun h1 => ?_) (fun h1 => ?_)
    · refine sg (tabOk Tryd.prog) 4 [] [0, 2, 3, 4] (k' := (kAt (cAt (bodyOf Tryd.f21) [1, 1, 0, 1, 0, 0]) [1, 0, 0, 1, 0, 1] (.inv (LI 18 [] (rkwL l b1 w1) k) :: (kEnd (bodyOf Tryd.f21) [1, 1, 0, 1, 0] [])))) (st' := [(0, none, .string (bs l)), (2, none, .bool true), (3, none, .slice (some ⟨b1, 0, none⟩) 13 13), (4, none, .int .i64 ((k : Nat) : Int))]) (ps := []) (by kernel_rfl) trivial ?_
      exact retD (hs := []) (vs := [.bool true]) (ps := []) (by kernel_rfl) trivial (v := .bool true) rfl (⟨by rw [kwB_true (by omega) h1], hX⟩)
    · refine sg (tabOk Tryd.prog) 7 [] [0, 2, 3, 4] (k' := (.inv (LI 18 [] (rkwL l b1 w1) k) :: (kEnd (bodyOf Tryd.f21) [1, 1, 0, 1, 0] []))) (st' := [(0, none, .string (bs l)), (3, none, .slice (some ⟨b1, 0, none⟩) 13 13), (4, none, .int .i64 ((k + 1 : Nat) : Int))]) (ps := [(-9223372036854775808 ≤ ((k + 1 : Nat) : Int) ∧ ((k + 1 : Nat) : Int) ≤ 9223372036854775807)]) (by kernel_rfl) (show (-9223372036854775808 ≤ ((k + 1 : Nat) : Int) ∧ ((k + 1 : Nat) : Int) ≤ 9223372036854775807) from by omega) ?_
      exact again (k + 1) [0, 3, 4] (by kernel_rfl) (⟨rfl, by omega, fun j hj => by by_cases e : j = k; (subst e; exact h1); exact hp j (by omega)⟩) (show 13 - (k + 1) < 13 - k by omega)
  · refine sg (tabOk Tryd.prog) 5 [] [2] (k' := (kAt (bodyOf Tryd.f21) [1, 1, 1, 1] [])) (st' := [(2, none, .bool false)]) (ps := []) (by kernel_rfl) trivial ?_
    exact retD (hs := []) (vs := [.bool false]) (ps := []) (by kernel_rfl) trivial (v := .bool false) rfl (⟨by rw [kwB_false (fun j hj => hp j (by omega))], hX⟩)

theorem tok_cell {w : World} {a : Option Addr} {ts : List Tok} (h : Cells w a (ts.flatMap tokCells)) {i : Nat} (hi : i < ts.length) (j : Nat) {v : Value} (hv : (tokCells (ts.getD i ⟨0, [], 0, 0⟩))[j]? = some v) : w.cell? ⟨slB a, slO a + i * 4 + j, none⟩ = some v := by
  refine h.elem tokCells_len (i := i) (j := j) ?_ hv
  rw [List.getD_eq_getElem?_getD, List.getElem?_eq_getElem hi]
  rfl
theorem tok_ext {x y : Tok} (h : ¬ ¬ ((x.kind = y.kind) ∧ ((x.text = y.text) ∧ ((x.n = y.n) ∧ (x.at' = y.at'))))) : x = y := by
  obtain ⟨h1, h2, h3, h4⟩ := Classical.not_not.1 h
  cases x; cases y
  simp only at h1 h2 h3 h4
  rw [h1, h2, h3, h4]
theorem list_ext {α : Type} {d : α} {xs ys : List α} (h : xs.length = ys.length) (he : ∀ j, j < xs.length → xs.getD j d = ys.getD j d) : xs = ys := by
  refine List.ext_getElem h (fun j h1 h2 => ?_)
  have := he j h1
  rw [List.getD_eq_getElem?_getD, List.getD_eq_getElem?_getD, List.getElem?_eq_getElem h1, List.getElem?_eq_getElem h2] at this
  exact this

theorem E12 : Proofs.Enters Tryd.prog 12 := Proofs.enters_of Tryd.func12 (by kernel_rfl) rfl

theorem E23 : Proofs.Enters Tryd.prog 23 := Proofs.enters_of Tryd.func23 (by kernel_rfl) rfl

theorem E22 : Proofs.Enters Tryd.prog 22 := Proofs.enters_of Tryd.func22 (by kernel_rfl) rfl

theorem E10 : Proofs.Enters Tryd.prog 10 := Proofs.enters_of Tryd.func10 (by kernel_rfl) rfl

theorem E11 : Proofs.Enters Tryd.prog 11 := Proofs.enters_of Tryd.func11 (by kernel_rfl) rfl

theorem E9 : Proofs.Enters Tryd.prog 9 := Proofs.enters_of Tryd.func9 (by kernel_rfl) rfl

def sameL (xs ys : List Tok) (a b : Option Addr) (c d : Nat) (w : World) : Lp Nat where
  S := fun k => [(0, none, .slice a xs.length c), (1, none, .slice b ys.length d), (5, none, .int .i64 ((k : Nat) : Int))]
  J := fun k w' => Ext w w' ∧ k ≤ xs.length ∧ ∀ j, j < k → xs.getD j ⟨0, [], 0, 0⟩ = ys.getD j ⟨0, [], 0, 0⟩
  M := fun k => xs.length - k
theorem Same_any (xs ys : List Tok) (a b : Option Addr) (c d : Nat) (w : World) (hn : xs.length ≤ 9223372036854775807) (hxs : Cells w a (xs.flatMap tokCells)) (hys : Cells w b (ys.flatMap tokCells)) :
    Does Tryd.prog 15 [.slice a xs.length c, .slice b ys.length d] w (fun v w' => v = .bool (decide (xs = ys)) ∧ Ext w w') := by
  refine startD (c := (bodyOf Tryd.f15)) Tryd.func15 rfl (by kernel_rfl) ?_
  show G _ 26 [] _ (kAt (bodyOf Tryd.f15) [] []) [(0, none, .slice a xs.length c), (1, none, .slice b ys.length d)] w
  have hE1 : Ext w w := Ext.refl w
  refine sg (tabOk Tryd.prog) 13 [] [0, 1, 4, 10] (k' := (kAt (bodyOf Tryd.f15) [1, 0, 1] [])) (st' := [(0, none, .slice a xs.length c), (1, none, .slice b ys.length d), (4, none, .bool false), (10, none, .bool (!(decide (((xs.length : Nat) : Int) = ((ys.length : Nat) : Int)))))]) (ps := []) (by kernel_rfl) trivial ?_
  refine br (b := (!(decide (((xs.length : Nat) : Int) = ((ys.length : Nat) : Int))))) (kt := (kAt (bodyOf Tryd.f15) [1, 0, 1, 0] [])) (kf := (kAt (bodyOf Tryd.f15) [1, 0, 1, 1] [])) (ps := []) (by kernel_rfl) trivial (p := ¬ (((xs.length : Nat) : Int) = ((ys.length : Nat) : Int))) ((iffNot iffDec)) (fun h0 => ?_) (fun h0 => ?_)
  · refine sg (tabOk Tryd.prog) 4 [] [0, 1, 4] (k' := (kAt (bodyOf Tryd.f15) [1, 0, 1, 0, 1] [])) (st' := [(0, none, .slice a xs.length c), (1, none, .slice b ys.length d), (4, none, .bool false)]) (ps := []) (by kernel_rfl) trivial ?_
    exact retD (hs := []) (vs := [.bool false]) (ps := []) (by kernel_rfl) trivial (v := .bool false) rfl (⟨by rw [decide_eq_false (fun e => h0 (by rw [e]))], Ext.refl w⟩)
  · have h0 : xs.length = ys.length := by omega
    refine sg (tabOk Tryd.prog) 7 [] [0, 1, 4, 5] (k' := (kAt (bodyOf Tryd.f15) [1, 1, 0, 1, 0] [])) (st' := [(0, none, .slice a xs.length c), (1, none, .slice b ys.length d), (4, none, .bool false), (5, none, .int .i64 (0 : Int))]) (ps := []) (by kernel_rfl) trivial ?_
    refine loopR (sameL xs ys a b c d w) (k' := (kEnd (bodyOf Tryd.f15) [1, 1, 0, 1, 0] [])) (body := (cAt (bodyOf Tryd.f15) [1, 1, 0, 1, 0, 0])) (by kernel_rfl) 0 [0, 1, 5] (by kernel_rfl) (⟨Ext.refl w, by omega, fun j hj => by omega⟩) ?_
    rintro k w0 ⟨hE, hk, hp⟩
    refine sg (tabOk Tryd.prog) 8 [] [0, 1, 4, 5, 14] (k' := (kAt (cAt (bodyOf Tryd.f15) [1, 1, 0, 1, 0, 0]) [0, 1] (.inv (LI 26 [] (sameL xs ys a b c d w) k) :: (kEnd (bodyOf Tryd.f15) [1, 1, 0, 1, 0] [])))) (st' := [(0, none, .slice a xs.length c), (1, none, .slice b ys.length d), (5, none, .int .i64 ((k : Nat) : Int)), (14, none, .bool (decide (((k : Nat) : Int) < ((xs.length : Nat) : Int))))]) (ps := []) (by kernel_rfl) trivial ?_
    refine br (b := (decide (((k : Nat) : Int) < ((xs.length : Nat) : Int)))) (kt := (kAt (cAt (bodyOf Tryd.f15) [1, 1, 0, 1, 0, 0]) [0, 1, 0] (.inv (LI 26 [] (sameL xs ys a b c d w) k) :: (kEnd (bodyOf Tryd.f15) [1, 1, 0, 1, 0] [])))) (kf := (kAt (cAt (bodyOf Tryd.f15) [1, 1, 0, 1, 0, 0]) [0, 1, 1] (.inv (LI 26 [] (sameL xs ys a b c d w) k) :: (kEnd (bodyOf Tryd.f15) [1, 1, 0, 1, 0] [])))) (ps := []) (by kernel_rfl) trivial (p := ((k : Nat) : Int) < ((xs.length : Nat) : Int)) (iffDec) (fun h1 => ?_) (fun h1 => ?_)
    · obtain ⟨x, hx⟩ : ∃ x, xs.getD k ⟨0, [], 0, 0⟩ = x := ⟨_, rfl⟩
      obtain ⟨y, hy⟩ : ∃ y, ys.getD k ⟨0, [], 0, 0⟩ = y := ⟨_, rfl⟩
      have ha := hxs.addrE tokCells_len (by decide) (i := k) (by omega)
      have hb := hys.addrE tokCells_len (by decide) (i := k) (by omega)
      have cx : ∀ j v, (tokCells x)[j]? = some v → w.cell? ⟨slB a, slO a + k * 4 + j, none⟩ = some v := fun j v hv => tok_cell hxs (by omega) j (by rw [hx]; exact hv)
      have cy : ∀ j v, (tokCells y)[j]? = some v → w.cell? ⟨slB b, slO b + k * 4 + j, none⟩ = some v := fun j v hv => tok_cell hys (by omega) j (by rw [hy]; exact hv)
      refine sg (tabOk Tryd.prog) 4 [] [0, 1, 4, 5, 25] (k' := (kAt (cAt (bodyOf Tryd.f15) [1, 1, 0, 1, 0, 0]) [1, 0, 0, 0] (.inv (LI 26 [] (sameL xs ys a b c d w) k) :: (kEnd (bodyOf Tryd.f15) [1, 1, 0, 1, 0] [])))) (st' := [(0, none, .slice a xs.length c), (1, none, .slice b ys.length d), (5, none, .int .i64 ((k : Nat) : Int))]) (ps := []) (by kernel_rfl) trivial ?_
      refine dBegin (k' := (kAt (cAt (bodyOf Tryd.f15) [1, 1, 0, 1, 0, 0]) [1, 0, 0, 1] (.inv (LI 26 [] (sameL xs ys a b c d w) k) :: (kEnd (bodyOf Tryd.f15) [1, 1, 0, 1, 0] [])))) (id := 6) (m := 9) (ops := opsAt (cAt (cAt (bodyOf Tryd.f15) [1, 1, 0, 1, 0, 0]) [1, 0, 0, 0])) (fun w1 => Ext w1) (by kernel_rfl) (PQ.body _ _ _) (by kernel_rfl) (by kernel_rfl) ?_
      intro w2 hx3
      have hE4 := hE.trans hx3
      refine dTake (tabOk Tryd.prog) [0, 1, 2, 3, 4, 5, 6, 7, 8] [.ld (.agg #[.int .i64 x.kind, .string (bs x.text), .int .i64 x.n, .int .i64 (x.at')]), .ld (.agg #[.int .i64 y.kind, .string (bs y.text), .int .i64 y.n, .int .i64 (y.at')])] [0, 1, 4, 5, 25] (fuel := 0) (L' := [true, true, true, true, true, true, true, true, true]) (st' := [(0, none, .slice a xs.length c), (1, none, .slice b ys.length d), (5, none, .int .i64 ((k : Nat) : Int)), (25, none, .bool (!((decide ((x.kind : Int) = y.kind)) && ((decide (x.text = y.text)) && ((decide ((x.n : Int) = y.n)) && (decide ((x.at' : Int) = y.at')))))))]) (f := fun w' => [(0 ≤ ((k : Nat) : Int) ∧ ((k : Nat) : Int) < ((xs.length : Nat) : Int)), (a : Option Addr) = some ⟨(slB a), slO a, none⟩, (w').cell? ⟨(slB a), slO a + k * 4, none⟩ = some (.int .i64 x.kind), (w').cell? ⟨(slB a), slO a + k * 4 + 1, none⟩ = some (.string (bs x.text)), (w').cell? ⟨(slB a), slO a + k * 4 + 2, none⟩ = some (.int .i64 x.n), (w').cell? ⟨(slB a), slO a + k * 4 + 3, none⟩ = some (.int .i64 (x.at')), (0 ≤ ((k : Nat) : Int) ∧ ((k : Nat) : Int) < ((ys.length : Nat) : Int)), (b : Option Addr) = some ⟨(slB b), slO b, none⟩, (w').cell? ⟨(slB b), slO b + k * 4, none⟩ = some (.int .i64 y.kind), (w').cell? ⟨(slB b), slO b + k * 4 + 1, none⟩ = some (.string (bs y.text)), (w').cell? ⟨(slB b), slO b + k * 4 + 2, none⟩ = some (.int .i64 y.n), (w').cell? ⟨(slB b), slO b + k * 4 + 3, none⟩ = some (.int .i64 (y.at'))]) (by kernel_rfl) rfl (fun w' hS => ⟨(by omega), (by assumption), (hS.cell (hE4.cell (cx 0 _ rfl))), (hS.cell (hE4.cell (cx 1 _ rfl))), (hS.cell (hE4.cell (cx 2 _ rfl))), (hS.cell (hE4.cell (cx 3 _ rfl))), (by omega), (by assumption), (hS.cell (hE4.cell (cy 0 _ rfl))), (hS.cell (hE4.cell (cy 1 _ rfl))), (hS.cell (hE4.cell (cy 2 _ rfl))), (show (w').cell? ⟨(slB b), slO b + k * 4 + 3, none⟩ = some (.int .i64 (y.at')) from hS.cell (hE4.cell (cy 3 _ rfl)))⟩) (Ext.refl _) ?_
      refine dDone (by kernel_rfl) ?_
      refine br (b := (!((decide ((x.kind : Int) = y.kind)) && ((decide (x.text = y.text)) && ((decide ((x.n : Int) = y.n)) && (decide ((x.at' : Int) = y.at'))))))) (kt := (kAt (cAt (bodyOf Tryd.f15) [1, 1, 0, 1, 0, 0]) [1, 0, 0, 1, 0] (.inv (LI 26 [] (sameL xs ys a b c d w) k) :: (kEnd (bodyOf Tryd.f15) [1, 1, 0, 1, 0] [])))) (kf := (kAt (cAt (bodyOf Tryd.f15) [1, 1, 0, 1, 0, 0]) [1, 0, 0, 1, 1] (.inv (LI 26 [] (sameL xs ys a b c d w) k) :: (kEnd (bodyOf Tryd.f15) [1, 1, 0, 1, 0] [])))) (ps := []) (by kernel_rfl) trivial (p := ¬ (((x.kind : Int) = y.kind) ∧ ((x.text = y.text) ∧ (((x.n : Int) = y.n) ∧ ((x.at' : Int) = y.at'))))) ((iffNot (iffAnd iffDec (iffAnd iffDec (iffAnd iffDec iffDec))))) (fun h2 => ?_) (fun h2 => ?_)
      · have h3 : x ≠ y := fun e => by subst e; simp at h2
        refine sg (tabOk Tryd.prog) 4 [] [0, 1, 4, 5] (k' := (kAt (cAt (bodyOf Tryd.f15) [1, 1, 0, 1, 0, 0]) [1, 0, 0, 1, 0, 1] (.inv (LI 26 [] (sameL xs ys a b c d w) k) :: (kEnd (bodyOf Tryd.f15) [1, 1, 0, 1, 0] [])))) (st' := [(0, none, .slice a xs.length c), (1, none, .slice b ys.length d), (4, none, .bool false), (5, none, .int .i64 ((k : Nat) : Int))]) (ps := []) (by kernel_rfl) trivial ?_
        exact retD (hs := []) (vs := [.bool false]) (ps := []) (by kernel_rfl) trivial (v := .bool false) rfl (⟨by rw [decide_eq_false (fun e => h3 (by rw [← hx, ← hy, e]))], hE4⟩)
      · have h3 : x = y := tok_ext h2
        refine sg (tabOk Tryd.prog) 7 [] [0, 1, 4, 5] (k' := (.inv (LI 26 [] (sameL xs ys a b c d w) k) :: (kEnd (bodyOf Tryd.f15) [1, 1, 0, 1, 0] []))) (st' := [(0, none, .slice a xs.length c), (1, none, .slice b ys.length d), (5, none, .int .i64 ((k + 1 : Nat) : Int))]) (ps := [(-9223372036854775808 ≤ ((k + 1 : Nat) : Int) ∧ ((k + 1 : Nat) : Int) ≤ 9223372036854775807)]) (by kernel_rfl) (show (-9223372036854775808 ≤ ((k + 1 : Nat) : Int) ∧ ((k + 1 : Nat) : Int) ≤ 9223372036854775807) from by omega) ?_
        exact again (k + 1) [0, 1, 5] (by kernel_rfl) (⟨hE4, by omega, fun j hj => by by_cases e : j = k; (subst e; rw [hx, hy]; exact h3); exact hp j (by omega)⟩) (show xs.length - (k + 1) < xs.length - k by omega)
    · refine sg (tabOk Tryd.prog) 5 [] [4] (k' := (kAt (bodyOf Tryd.f15) [1, 1, 1, 1] [])) (st' := [(4, none, .bool true)]) (ps := []) (by kernel_rfl) trivial ?_
      exact retD (hs := []) (vs := [.bool true]) (ps := []) (by kernel_rfl) trivial (v := .bool true) rfl (⟨by rw [decide_eq_true (list_ext h0 (fun j hj => hp j (by omega)))], hE⟩)

end Go.Proofs.YtcbecbkongomfaaDoor
