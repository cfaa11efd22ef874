/-
  LEX: contracts of the statements' own helpers.
-/
import Derived.Test.YtcbecbkongomfaaDoorLexD
import Derived.Test.YtcbecbkongomfaaDoorLexLaw
namespace Go.Proofs.YtcbecbkongomfaaDoor
open Go.Bk Go.Proofs

theorem str_cell {w : World} {b : Nat} {t : TypeId} {ss : List Bytes} (h : w.heap[b]? = some (.cells (ss.map fun l => Value.string (bs l)).toArray t (0, 0))) {k : Nat} (hk : k < ss.length) : w.cell? ⟨b, 0 + k * 1, none⟩ = some (.string (bs (ss.getD k []))) := by
  refine cell_of h ?_
  rw [Nat.zero_add, Nat.mul_one]
  simp only [List.getElem?_toArray, List.getElem?_map]
  rw [List.getD_eq_getElem?_getD, List.getElem?_eq_getElem hk]
  rfl

theorem pick_any (c : Int) (n : Nat) (w : World) (h0 : -9223372036854775808 ≤ c) (h1 : c ≤ 9223372036854775807) (hn : 0 < n) :
    Does Tryd.prog 12 [.int .i64 c, .int .i64 ((n : Nat) : Int)] w (fun v w' => v = .int .i64 ((pickN c n : Nat) : Int) ∧ w = w') := by
  refine startD (c := (bodyOf Tryd.f12)) Tryd.func12 rfl (by kernel_rfl) ?_
  show G _ 13 [] _ (kAt (bodyOf Tryd.f12) [] []) [(0, none, .int .i64 c), (1, none, .int .i64 ((n : Nat) : Int))] w
  refine sg (tabOk Tryd.prog) 10 [] [0, 1, 4, 6] (k' := (kAt (bodyOf Tryd.f12) [1, 0, 1] [])) (st' := [(0, none, .int .i64 c), (1, none, .int .i64 ((n : Nat) : Int)), (4, none, .int .i64 (0 : Int)), (6, none, .bool (decide ((c : Int) < (0 : Int))))]) (ps := []) (by kernel_rfl) trivial ?_
  refine br (b := (decide ((c : Int) < (0 : Int)))) (kt := (kAt (bodyOf Tryd.f12) [1, 0, 1, 0] [])) (kf := (kAt (bodyOf Tryd.f12) [1, 0, 1, 1] [])) (ps := []) (by kernel_rfl) trivial (p := (c : Int) < (0 : Int)) (iffDec) (fun h => ?_) (fun h => ?_)
  · refine sg (tabOk Tryd.prog) 13 [] [4] (k' := (kAt (bodyOf Tryd.f12) [1, 1, 1] [])) (st' := [(4, none, .int .i64 ((-(c + (1 : Int))) % ((n : Nat) : Int)))]) (ps := [(-9223372036854775808 ≤ (c + (1 : Int)) ∧ (c + (1 : Int)) ≤ 9223372036854775807), (-9223372036854775808 ≤ (-(c + (1 : Int))) ∧ (-(c + (1 : Int))) ≤ 9223372036854775807), (0 ≤ (-(c + (1 : Int))) ∧ 0 < ((n : Nat) : Int))]) (by kernel_rfl) ⟨(by omega), (by omega), (show (0 ≤ (-(c + (1 : Int))) ∧ 0 < ((n : Nat) : Int)) from by omega)⟩ ?_
    exact retD (hs := []) (vs := [.int .i64 ((-(c + (1 : Int))) % ((n : Nat) : Int))]) (ps := []) (by kernel_rfl) trivial (v := .int .i64 ((-(c + (1 : Int))) % ((n : Nat) : Int))) rfl (⟨by rw [pickN_neg hn h], rfl⟩)
  · refine sg (tabOk Tryd.prog) 8 [] [4] (k' := (kAt (bodyOf Tryd.f12) [1, 1, 1] [])) (st' := [(4, none, .int .i64 (c % ((n : Nat) : Int)))]) (ps := [(0 ≤ c ∧ 0 < ((n : Nat) : Int))]) (by kernel_rfl) (show (0 ≤ c ∧ 0 < ((n : Nat) : Int)) from by omega) ?_
    exact retD (hs := []) (vs := [.int .i64 (c % ((n : Nat) : Int))]) (ps := []) (by kernel_rfl) trivial (v := .int .i64 (c % ((n : Nat) : Int))) rfl (⟨by rw [pickN_nat hn h], rfl⟩)

theorem nDigits_self (u : Nat) : Lib.nDigits u ≤ u + 1 := by
  induction u using Nat.strongRecOn with
  | _ u ih =>
    by_cases h : u < 10
    · rw [Lib.nDigits_small h]; omega
    · rw [Lib.nDigits_big h]
      have := ih (u / 10) (by omega)
      omega
theorem dec_short (u : Nat) : (Lib.decDigits u).length ≤ u + 1 := by rw [Lib.decDigits_length]; exact nDigits_self u

theorem decimal_step (n : Nat) (w : World) (hn : n ≤ 9223372036854775807) (ih : ∀ m, m < n → ∀ w, Does Tryd.prog 23 [.int .i64 ((m : Nat) : Int)] w fun v w' => v = .string (bs (Lib.decDigits m)) ∧ Ext w w') :
    Does Tryd.prog 23 [.int .i64 ((n : Nat) : Int)] w (fun v w' => v = .string (bs (Lib.decDigits n)) ∧ Ext w w') := by
  refine startD (c := (bodyOf Tryd.f23)) Tryd.func23 rfl (by kernel_rfl) ?_
  show G _ 18 [] _ (kAt (bodyOf Tryd.f23) [] []) [(0, none, .int .i64 ((n : Nat) : Int))] w
  have hE1 : Ext w w := Ext.refl w
  refine sg (tabOk Tryd.prog) 10 [] [0, 2, 3, 7, 8, 9] (k' := (kOp (bodyOf Tryd.f23) [1, 0] 4 [])) (st' := [(0, none, .int .i64 ((n : Nat) : Int)), (2, none, .string (bs ([]))), (7, none, .int .u8 ((48 + (n % 10) : Nat) : Int))]) (ps := [(0 ≤ ((n : Nat) : Int) ∧ 0 < (10 : Int)), (-9223372036854775808 ≤ ((48 + (n % 10) : Nat) : Int) ∧ ((48 + (n % 10) : Nat) : Int) ≤ 9223372036854775807), (0 ≤ ((48 + (n % 10) : Nat) : Int) ∧ ((48 + (n % 10) : Nat) : Int) ≤ 255)]) (by kernel_rfl) ⟨(by omega), (by omega), (show (0 ≤ ((48 + (n % 10) : Nat) : Int) ∧ ((48 + (n % 10) : Nat) : Int) ≤ 255) from by omega)⟩ ?_
  refine opStep (hs := []) (e := .bslice 56 1 [(0, .int .u8 ((48 + (n % 10) : Nat) : Int))]) (d := some 8) (k' := (kOp (bodyOf Tryd.f23) [1, 0] 5 [])) (ps := []) (by kernel_rfl) trivial (runs_bslice (cs := [.int .u8 ((48 + (n % 10) : Nat) : Int)]) (e := 5) (by kernel_rfl)) ?_
  rintro _ w1 ⟨b1, rfl, hN2⟩
  have hl3 : w.heap.size ≤ b1 := by have := hE1.le; have := hN2.lo; omega
  have hE4 := hE1.trans hN2.ext
  have ho5 := hN2.own
  obtain ⟨d, hd⟩ : ∃ d : UInt8, UInt8.ofNat (48 + n % 10) = d := ⟨_, rfl⟩
  have hdn : d.toNat = 48 + n % 10 := by rw [← hd]; simp; omega
  refine opStep (hs := []) (e := .conv 56 9 (.slice (some ⟨b1, 0, none⟩) 1 1)) (d := some 9) (k' := (kOp (bodyOf Tryd.f23) [1, 0] 6 [])) (ps := []) (by kernel_rfl) trivial (runs_conv_bytes (l := [d]) (e := 5) (by kernel_rfl) (by kernel_rfl) (by kernel_rfl) rfl (fun j hj => by have : j = 0 := (by omega); subst this; rw [List.getD_cons_zero, hdn]; exact cell_of ho5 rfl)) ?_
  rintro _ _ ⟨rfl, rfl⟩
  refine sg (tabOk Tryd.prog) 8 [] [0, 2, 3, 11] (k' := (kAt (bodyOf Tryd.f23) [1, 1, 0, 1] [])) (st' := [(0, none, .int .i64 ((n : Nat) : Int)), (2, none, .string (bs ([]))), (3, none, .string (bs ([d]))), (11, none, .bool (decide ((10 : Int) ≤ ((n : Nat) : Int))))]) (ps := []) (by kernel_rfl) trivial ?_
  refine br (b := (decide ((10 : Int) ≤ ((n : Nat) : Int)))) (kt := (kAt (bodyOf Tryd.f23) [1, 1, 0, 1, 0] [])) (kf := (kAt (bodyOf Tryd.f23) [1, 1, 0, 1, 1] [])) (ps := []) (by kernel_rfl) trivial (p := (10 : Int) ≤ ((n : Nat) : Int)) (iffDec) (fun h => ?_) (fun h => ?_)
  · refine sg (tabOk Tryd.prog) 4 [] [2, 3, 13, 14, 15, 16] (k' := (kOp (bodyOf Tryd.f23) [1, 1, 0, 1, 0, 0] 2 [])) (st' := [(2, none, .string (bs ([]))), (3, none, .string (bs ([d]))), (13, none, .int .i64 ((n / 10 : Nat) : Int))]) (ps := [(0 ≤ ((n : Nat) : Int) ∧ 0 < (10 : Int) ∧ (-9223372036854775808 ≤ ((n / 10 : Nat) : Int) ∧ ((n / 10 : Nat) : Int) ≤ 9223372036854775807))]) (by kernel_rfl) (show (0 ≤ ((n : Nat) : Int) ∧ 0 < (10 : Int) ∧ (-9223372036854775808 ≤ ((n / 10 : Nat) : Int) ∧ ((n / 10 : Nat) : Int) ≤ 9223372036854775807)) from by omega) ?_
    refine opStep (hs := []) (e := .call 23 [.int .i64 ((n / 10 : Nat) : Int)]) (d := some 14) (k' := (kOp (bodyOf Tryd.f23) [1, 1, 0, 1, 0, 0] 3 [])) (ps := []) (by kernel_rfl) trivial (runs_call E23 (ih (n / 10) (by omega) w1)) ?_
    rintro _ w2 ⟨rfl, hx⟩
    have hE6 := hE4.trans hx
    refine sg (tabOk Tryd.prog) 4 [] [2, 3] (k' := (kAt (bodyOf Tryd.f23) [1, 1, 0, 1, 0, 1] [])) (st' := [(2, none, .string (bs ((Lib.decDigits (n / 10)) ++ ([d])))), (3, none, .string (bs ([d])))]) (ps := [(Lib.decDigits (n / 10)).length + ([d]).length ≤ 9223372036854775807]) (by kernel_rfl) (show (Lib.decDigits (n / 10)).length + ([d]).length ≤ 9223372036854775807 from by have := dec_short (n / 10); simp only [List.length_singleton]; omega) ?_
    exact retD (hs := []) (vs := [.string (bs ((Lib.decDigits (n / 10)) ++ ([d])))]) (ps := []) (by kernel_rfl) trivial (v := .string (bs ((Lib.decDigits (n / 10)) ++ ([d])))) rfl (⟨by rw [Lib.decDigits.eq_1 n, dif_neg (by omega), hd], hE6⟩)
  · refine sg (tabOk Tryd.prog) 6 [] [2] (k' := (kAt (bodyOf Tryd.f23) [1, 1, 1, 1] [])) (st' := [(2, none, .string (bs ([d])))]) (ps := []) (by kernel_rfl) trivial ?_
    exact retD (hs := []) (vs := [.string (bs ([d]))]) (ps := []) (by kernel_rfl) trivial (v := .string (bs ([d]))) rfl (⟨by rw [Lib.decDigits_one (by omega), ← hd, Nat.mod_eq_of_lt (by omega)], hE4⟩)

theorem decimal_any : ∀ (n : Nat) (w : World), n ≤ 9223372036854775807 → Does Tryd.prog 23 [.int .i64 ((n : Nat) : Int)] w fun v w' => v = .string (bs (Lib.decDigits n)) ∧ Ext w w' := by
  intro n
  induction n using Nat.strongRecOn with
  | _ n ih =>
    intro w hn
    exact decimal_step n w hn (fun m hm w => ih m hm w (by omega))

theorem var_base (i : Nat) : (varBase.getD i []).length ≤ 5 := by
  match i with
  | 0 | 1 | 2 | 3 | 4 | 5 => decide
  | i + 6 => simp [varBase]

theorem Var_any (n : Int) (w : World) (h0 : -9223372036854775808 ≤ n) (h1 : n ≤ 9223372036854775807) :
    Does Tryd.prog 22 [.int .i64 n] w (fun v w' => v = .string (bs (varT n)) ∧ Ext w w') := by
  refine startD (c := (bodyOf Tryd.f22)) Tryd.func22 rfl (by kernel_rfl) ?_
  show G _ 15 [] _ (kAt (bodyOf Tryd.f22) [] []) [(0, none, .int .i64 n)] w
  have hE1 : Ext w w := Ext.refl w
  refine sg (tabOk Tryd.prog) 7 [] [2, 3, 4, 5] (k' := (kOp (bodyOf Tryd.f22) [1, 0] 1 [])) (st' := [(2, none, .string (bs ([]))), (4, none, .int .i64 n)]) (ps := []) (by kernel_rfl) trivial ?_
  refine opStep (hs := []) (e := .call 12 [.int .i64 n, .int .i64 (300 : Int)]) (d := some 5) (k' := (kOp (bodyOf Tryd.f22) [1, 0] 2 [])) (ps := []) (by kernel_rfl) trivial (runs_call E12 (pick_any n 300 w h0 h1 (by decide))) ?_
  rintro _ _ ⟨rfl, rfl⟩
  have hk := pickN_lt n (show 0 < 300 by decide)
  obtain ⟨k, hk0⟩ : ∃ k, pickN n 300 = k := ⟨_, rfl⟩
  rw [hk0]
  rw [hk0] at hk
  have hrem : (((k : Nat) : Int) % 6).toNat = k % 6 := by omega
  have hlt : k % 6 < varBase.length := Nat.mod_lt _ (by decide)
  have hds := dec_short (k / 6)
  refine sg (tabOk Tryd.prog) 3 [] [2, 3] (k' := (kAt (bodyOf Tryd.f22) [1, 1, 0] [])) (st' := [(2, none, .string (bs ([]))), (3, none, .int .i64 ((k : Nat) : Int))]) (ps := []) (by kernel_rfl) trivial ?_
  refine dBegin (k' := (kAt (bodyOf Tryd.f22) [1, 1, 1] [])) (id := 2) (m := 10) (ops := opsAt (cAt (bodyOf Tryd.f22) [1, 1, 0])) (fun w1 => Ext w1) (by kernel_rfl) (PQ.body _ _ _) (by kernel_rfl) (by kernel_rfl) ?_
  intro w2 hx3
  have hE4 := hE1.trans hx3
  refine dTake (tabOk Tryd.prog) [1, 2, 5, 6] [] [2, 6, 8, 9, 10, 12, 13, 14] (fuel := 6) (L' := [false, true, true, false, false, true, true, false, false, false]) (st' := [(2, none, .string (bs ([]))), (8, none, .int .i64 ((k % 6 : Nat) : Int)), (12, none, .int .i64 ((k / 6 : Nat) : Int))]) (f := fun w' => [(0 ≤ ((k : Nat) : Int) ∧ 0 < (6 : Int)), (0 ≤ ((k : Nat) : Int) ∧ 0 < (6 : Int) ∧ (-9223372036854775808 ≤ ((k / 6 : Nat) : Int) ∧ ((k / 6 : Nat) : Int) ≤ 9223372036854775807))]) (by kernel_rfl) rfl (fun w' hS => ⟨(by omega), (show (0 ≤ ((k : Nat) : Int) ∧ 0 < (6 : Int) ∧ (-9223372036854775808 ≤ ((k / 6 : Nat) : Int) ∧ ((k / 6 : Nat) : Int) ≤ 9223372036854775807)) from by omega)⟩) (Ext.refl _) ?_
  refine dAll 0 [7] (by kernel_rfl) ?_
  refine ⟨?_, ?_⟩
  · refine dOp (hs := []) (e := .bslice 29 6 [(0, .string (bs ([97]))), (1, .string (bs ([66]))), (2, .string (bs ([110, 111, 100, 101, 115]))), (3, .string (bs ([65, 116]))), (4, .string (bs ([120, 45, 49]))), (5, .string (bs ([121, 95])))]) (d := some 6) (ps := []) (L' := [true, true, true, false, false, true, true, false, false, false]) (by kernel_rfl) trivial rfl (runs_bslice (cs := varBase.map fun l => Value.string (bs l)) (e := 9) (by kernel_rfl)) ?_
    rintro _ w3 ⟨b1, rfl, hN⟩
    have hE5 := hE4.trans hN.ext
    refine ⟨hN.ext, ?_⟩
    refine dMore (Ext w3) (fun w' h => Ext.trans hN.ext h) ?_
    refine dTake (tabOk Tryd.prog) [3, 4] [.ld (.string (bs (varBase.getD (k % 6) [])))] [2, 10, 12, 13, 14] (fuel := 3) (L' := [true, true, true, true, true, true, true, false, false, false]) (st' := [(2, none, .string (bs ([]))), (10, none, .string (bs (varBase.getD (k % 6) []))), (12, none, .int .i64 ((k / 6 : Nat) : Int))]) (f := fun w' => [(0 ≤ ((k % 6 : Nat) : Int) ∧ ((k % 6 : Nat) : Int) < (6 : Int)), ((some ⟨b1, 0, none⟩) : Option Addr) = some ⟨b1, 0, none⟩, (w').cell? ⟨b1, 0 + (k % 6) * 1, none⟩ = some (.string (bs (varBase.getD (k % 6) [])))]) (by kernel_rfl) rfl (fun w' hS => ⟨(by omega), (rfl), (show (w').cell? ⟨b1, 0 + (k % 6) * 1, none⟩ = some (.string (bs (varBase.getD (k % 6) []))) from hS.cell (str_cell hN.own hlt))⟩) (Ext.refl _) ?_
    refine dAll 7 [] (by kernel_rfl) ?_
    refine dOp (hs := []) (e := .call 23 [.int .i64 ((k / 6 : Nat) : Int)]) (d := some 13) (ps := []) (L' := [true, true, true, true, true, true, true, true, false, false]) (by kernel_rfl) trivial rfl (runs_call E23 (decimal_any (k / 6) w3 (by omega))) ?_
    rintro _ w4 ⟨rfl, hx9⟩
    have hE6 := hE5.trans hx9
    refine ⟨hx9, ?_⟩
    refine dMore (Ext w4) (fun w' h => Ext.trans hx9 h) ?_
    refine dTake (tabOk Tryd.prog) [8, 9] [] [2] (fuel := 0) (L' := [true, true, true, true, true, true, true, true, true, true]) (st' := [(2, none, .string (bs ((varBase.getD (k % 6) []) ++ (Lib.decDigits (k / 6)))))]) (f := fun w' => [(varBase.getD (k % 6) []).length + (Lib.decDigits (k / 6)).length ≤ 9223372036854775807]) (by kernel_rfl) rfl (fun w' hS => (show (varBase.getD (k % 6) []).length + (Lib.decDigits (k / 6)).length ≤ 9223372036854775807 from by have := var_base (k % 6); omega)) (Ext.refl _) ?_
    refine dDone (by kernel_rfl) ?_
    exact retD (hs := []) (vs := [.string (bs ((varBase.getD (k % 6) []) ++ (Lib.decDigits (k / 6))))]) (ps := []) (by kernel_rfl) trivial (v := .string (bs ((varBase.getD (k % 6) []) ++ (Lib.decDigits (k / 6))))) rfl (⟨by unfold varT varK; rw [hk0], hE6⟩)
  · refine dOp (hs := []) (e := .call 23 [.int .i64 ((k / 6 : Nat) : Int)]) (d := some 13) (ps := []) (L' := [false, true, true, false, false, true, true, true, false, false]) (by kernel_rfl) trivial rfl (runs_call E23 (decimal_any (k / 6) w2 (by omega))) ?_
    rintro _ w3 ⟨rfl, hx9⟩
    have hE7 := hE4.trans hx9
    refine ⟨hx9, ?_⟩
    refine dMore (Ext w3) (fun w' h => Ext.trans hx9 h) ?_
    refine dAll 0 [] (by kernel_rfl) ?_
    refine dOp (hs := []) (e := .bslice 29 6 [(0, .string (bs ([97]))), (1, .string (bs ([66]))), (2, .string (bs ([110, 111, 100, 101, 115]))), (3, .string (bs ([65, 116]))), (4, .string (bs ([120, 45, 49]))), (5, .string (bs ([121, 95])))]) (d := some 6) (ps := []) (L' := [true, true, true, false, false, true, true, true, false, false]) (by kernel_rfl) trivial rfl (runs_bslice (cs := varBase.map fun l => Value.string (bs l)) (e := 9) (by kernel_rfl)) ?_
    rintro _ w4 ⟨b1, rfl, hN⟩
    have hE8 := hE7.trans hN.ext
    refine ⟨hN.ext, ?_⟩
    refine dMore (Ext w4) (fun w' h => Ext.trans hN.ext h) ?_
    refine dTake (tabOk Tryd.prog) [3, 4, 8, 9] [.ld (.string (bs (varBase.getD (k % 6) [])))] [2] (fuel := 0) (L' := [true, true, true, true, true, true, true, true, true, true]) (st' := [(2, none, .string (bs ((varBase.getD (k % 6) []) ++ (Lib.decDigits (k / 6)))))]) (f := fun w' => [(0 ≤ ((k % 6 : Nat) : Int) ∧ ((k % 6 : Nat) : Int) < (6 : Int)), ((some ⟨b1, 0, none⟩) : Option Addr) = some ⟨b1, 0, none⟩, (w').cell? ⟨b1, 0 + (k % 6) * 1, none⟩ = some (.string (bs (varBase.getD (k % 6) []))), (varBase.getD (k % 6) []).length + (Lib.decDigits (k / 6)).length ≤ 9223372036854775807]) (by kernel_rfl) rfl (fun w' hS => ⟨(by omega), (rfl), (hS.cell (str_cell hN.own hlt)), (show (varBase.getD (k % 6) []).length + (Lib.decDigits (k / 6)).length ≤ 9223372036854775807 from by have := var_base (k % 6); omega)⟩) (Ext.refl _) ?_
    refine dDone (by kernel_rfl) ?_
    exact retD (hs := []) (vs := [.string (bs ((varBase.getD (k % 6) []) ++ (Lib.decDigits (k / 6))))]) (ps := []) (by kernel_rfl) trivial (v := .string (bs ((varBase.getD (k % 6) []) ++ (Lib.decDigits (k / 6))))) rfl (⟨by unfold varT varK; rw [hk0], hE8⟩)

theorem kw_short (i : Nat) : (kwList.getD i []).length ≤ 8 := by
  match i with
  | 0 | 1 | 2 | 3 | 4 | 5 | 6 | 7 | 8 | 9 | 10 | 11 | 12 => decide
  | i + 13 => simp [kwList]

theorem Piece_any (kind n : Int) (w : World) (h0 : -9223372036854775808 ≤ kind) (h1 : kind ≤ 9223372036854775807) (h2 : -9223372036854775808 ≤ n) (h3 : n ≤ 9223372036854775807) :
    Does Tryd.prog 10 [.int .i64 kind, .int .i64 n] w (fun v w' => v = .string (bs (pieceT kind n)) ∧ Ext w w') := by
  refine startD (c := (bodyOf Tryd.f10)) Tryd.func10 rfl (by kernel_rfl) ?_
  show G _ 23 [] _ (kAt (bodyOf Tryd.f10) [] []) [(0, none, .int .i64 kind), (1, none, .int .i64 n)] w
  have hE1 : Ext w w := Ext.refl w
  refine sg (tabOk Tryd.prog) 8 [] [1, 4, 5, 6] (k' := (kOp (bodyOf Tryd.f10) [1, 0, 0] 1 [])) (st' := [(1, none, .int .i64 n), (4, none, .string (bs ([]))), (5, none, .int .i64 kind)]) (ps := []) (by kernel_rfl) trivial ?_
  refine opStep (hs := []) (e := .call 12 [.int .i64 kind, .int .i64 (4 : Int)]) (d := some 6) (k' := (kOp (bodyOf Tryd.f10) [1, 0, 0] 2 [])) (ps := []) (by kernel_rfl) trivial (runs_call E12 (pick_any kind 4 w h0 h1 (by decide))) ?_
  rintro _ _ ⟨rfl, rfl⟩
  refine sg (tabOk Tryd.prog) 7 [] [1, 4, 6, 7] (k' := (kAt (bodyOf Tryd.f10) [1, 0, 1, 0, 1] [])) (st' := [(1, none, .int .i64 n), (4, none, .string (bs ([]))), (6, none, .int .i64 ((pickN kind 4 : Nat) : Int)), (7, none, .bool (decide (((pickN kind 4 : Nat) : Int) = (0 : Int))))]) (ps := []) (by kernel_rfl) trivial ?_
  refine br (b := (decide (((pickN kind 4 : Nat) : Int) = (0 : Int)))) (kt := (kAt (bodyOf Tryd.f10) [1, 0, 1, 0, 1, 0] [])) (kf := (kAt (bodyOf Tryd.f10) [1, 0, 1, 0, 1, 1] [])) (ps := []) (by kernel_rfl) trivial (p := ((pickN kind 4 : Nat) : Int) = (0 : Int)) (iffDec) (fun e0 => ?_) (fun e0 => ?_)
  · have hk := pickN_lt n (show 0 < 13 by decide)
    have hl13 := kw_len
    refine sg (tabOk Tryd.prog) 2 [] [1, 4, 9, 10, 11, 12, 13] (k' := (kOp (bodyOf Tryd.f10) [1, 0, 1, 0, 1, 0, 0] 0 [])) (st' := [(1, none, .int .i64 n), (4, none, .string (bs ([])))]) (ps := []) (by kernel_rfl) trivial ?_
    refine opStep (hs := []) (e := .bslice 29 13 [(0, .string (bs ([112, 114, 111, 116, 111, 99, 111, 108]))), (1, .string (bs ([118, 101, 99, 116, 111, 114]))), (2, .string (bs ([112, 97, 116, 104]))), (3, .string (bs ([102, 97, 105, 108, 117, 114, 101, 115]))), (4, .string (bs ([110, 111, 100, 101]))), (5, .string (bs ([108, 105, 110, 107]))), (6, .string (bs ([100, 101, 115, 116]))), (7, .string (bs ([97, 116]))), (8, .string (bs ([99, 104, 101, 99, 107]))), (9, .string (bs ([114, 101, 97, 99, 104]))), (10, .string (bs ([119, 105, 116, 104, 105, 110]))), (11, .string (bs ([119, 97, 121, 112, 111, 105, 110, 116]))), (12, .string (bs ([101, 113, 117, 97, 108])))]) (d := some 9) (k' := (kOp (bodyOf Tryd.f10) [1, 0, 1, 0, 1, 0, 0] 1 [])) (ps := []) (by kernel_rfl) trivial (runs_bslice (cs := kwList.map fun l => Value.string (bs l)) (e := 9) (by kernel_rfl)) ?_
    rintro _ w3 ⟨b1, rfl, hN⟩
    have hE2 := hE1.trans hN.ext
    refine sg (tabOk Tryd.prog) 1 [] [1, 4, 9, 10, 11, 12, 13] (k' := (kOp (bodyOf Tryd.f10) [1, 0, 1, 0, 1, 0, 0] 2 [])) (st' := [(1, none, .int .i64 n), (4, none, .string (bs ([]))), (9, none, .slice (some ⟨b1, 0, none⟩) 13 13), (10, none, .int .i64 n)]) (ps := []) (by kernel_rfl) trivial ?_
    refine opStep (hs := []) (e := .call 12 [.int .i64 n, .int .i64 (13 : Int)]) (d := some 11) (k' := (kOp (bodyOf Tryd.f10) [1, 0, 1, 0, 1, 0, 0] 3 [])) (ps := []) (by kernel_rfl) trivial (runs_call E12 (pick_any n 13 w3 h2 h3 (by decide))) ?_
    rintro _ _ ⟨rfl, rfl⟩
    refine sg (tabOk Tryd.prog) 4 [.ld (.string (bs (kwList.getD (pickN n 13) [])))] [1, 4] (k' := (kAt (bodyOf Tryd.f10) [1, 0, 1, 0, 1, 0, 1] [])) (st' := [(1, none, .int .i64 n), (4, none, .string (bs (kwList.getD (pickN n 13) [])))]) (ps := [(0 ≤ ((pickN n 13 : Nat) : Int) ∧ ((pickN n 13 : Nat) : Int) < (13 : Int)), ((some ⟨b1, 0, none⟩) : Option Addr) = some ⟨b1, 0, none⟩, w3.cell? ⟨b1, 0 + (pickN n 13) * 1, none⟩ = some (.string (bs (kwList.getD (pickN n 13) [])))]) (by kernel_rfl) ⟨(by omega), (rfl), (show w3.cell? ⟨b1, 0 + (pickN n 13) * 1, none⟩ = some (.string (bs (kwList.getD (pickN n 13) []))) from str_cell hN.own (by omega))⟩ ?_
    exact retD (hs := []) (vs := [.string (bs (kwList.getD (pickN n 13) []))]) (ps := []) (by kernel_rfl) trivial (v := .string (bs (kwList.getD (pickN n 13) []))) rfl (⟨by unfold pieceT; rw [if_pos (by omega)], hE2⟩)
  · refine sg (tabOk Tryd.prog) 5 [] [1, 4, 6, 14] (k' := (kAt (bodyOf Tryd.f10) [1, 0, 1, 0, 1, 1, 1] [])) (st' := [(1, none, .int .i64 n), (4, none, .string (bs ([]))), (6, none, .int .i64 ((pickN kind 4 : Nat) : Int)), (14, none, .bool (decide (((pickN kind 4 : Nat) : Int) = (1 : Int))))]) (ps := []) (by kernel_rfl) trivial ?_
    refine br (b := (decide (((pickN kind 4 : Nat) : Int) = (1 : Int)))) (kt := (kAt (bodyOf Tryd.f10) [1, 0, 1, 0, 1, 1, 1, 0] [])) (kf := (kAt (bodyOf Tryd.f10) [1, 0, 1, 0, 1, 1, 1, 1] [])) (ps := []) (by kernel_rfl) trivial (p := ((pickN kind 4 : Nat) : Int) = (1 : Int)) (iffDec) (fun e1 => ?_) (fun e1 => ?_)
    · refine sg (tabOk Tryd.prog) 4 [] [1, 4] (k' := (kAt (bodyOf Tryd.f10) [1, 0, 1, 0, 1, 1, 1, 0, 1] [])) (st' := [(1, none, .int .i64 n), (4, none, .string (bs ([59])))]) (ps := []) (by kernel_rfl) trivial ?_
      exact retD (hs := []) (vs := [.string (bs ([59]))]) (ps := []) (by kernel_rfl) trivial (v := .string (bs ([59]))) rfl (⟨by unfold pieceT; rw [if_neg (by omega), if_pos (by omega)], hE1⟩)
    · refine sg (tabOk Tryd.prog) 5 [] [1, 4, 16] (k' := (kAt (bodyOf Tryd.f10) [1, 0, 1, 0, 1, 1, 1, 1, 1] [])) (st' := [(1, none, .int .i64 n), (4, none, .string (bs ([]))), (16, none, .bool (decide (((pickN kind 4 : Nat) : Int) = (2 : Int))))]) (ps := []) (by kernel_rfl) trivial ?_
      refine br (b := (decide (((pickN kind 4 : Nat) : Int) = (2 : Int)))) (kt := (kAt (bodyOf Tryd.f10) [1, 0, 1, 0, 1, 1, 1, 1, 1, 0] [])) (kf := (kAt (bodyOf Tryd.f10) [1, 0, 1, 0, 1, 1, 1, 1, 1, 1] [])) (ps := []) (by kernel_rfl) trivial (p := ((pickN kind 4 : Nat) : Int) = (2 : Int)) (iffDec) (fun e2 => ?_) (fun e2 => ?_)
      · refine sg (tabOk Tryd.prog) 3 [] [1, 4, 18, 19, 20] (k' := (kOp (bodyOf Tryd.f10) [1, 0, 1, 0, 1, 1, 1, 1, 1, 0, 0] 1 [])) (st' := [(1, none, .int .i64 n), (4, none, .string (bs ([]))), (18, none, .int .i64 n)]) (ps := []) (by kernel_rfl) trivial ?_
        refine opStep (hs := []) (e := .call 12 [.int .i64 n, .int .i64 (65536 : Int)]) (d := some 19) (k' := (kOp (bodyOf Tryd.f10) [1, 0, 1, 0, 1, 1, 1, 1, 1, 0, 0] 2 [])) (ps := []) (by kernel_rfl) trivial (runs_call E12 (pick_any n 65536 w h2 h3 (by decide))) ?_
        rintro _ _ ⟨rfl, rfl⟩
        have hk := pickN_lt n (show 0 < 65536 by decide)
        refine opStep (hs := []) (e := .call 23 [.int .i64 ((pickN n 65536 : Nat) : Int)]) (d := some 20) (k' := (kOp (bodyOf Tryd.f10) [1, 0, 1, 0, 1, 1, 1, 1, 1, 0, 0] 3 [])) (ps := []) (by kernel_rfl) trivial (runs_call E23 (decimal_any (pickN n 65536) w (by omega))) ?_
        rintro _ w3 ⟨rfl, hx9⟩
        have hE3 := hE1.trans hx9
        refine sg (tabOk Tryd.prog) 2 [] [1, 4] (k' := (kAt (bodyOf Tryd.f10) [1, 0, 1, 0, 1, 1, 1, 1, 1, 0, 1] [])) (st' := [(1, none, .int .i64 n), (4, none, .string (bs (Lib.decDigits (pickN n 65536))))]) (ps := []) (by kernel_rfl) trivial ?_
        exact retD (hs := []) (vs := [.string (bs (Lib.decDigits (pickN n 65536)))]) (ps := []) (by kernel_rfl) trivial (v := .string (bs (Lib.decDigits (pickN n 65536)))) rfl (⟨by unfold pieceT; rw [if_neg (by omega), if_neg (by omega), if_pos (by omega)], hE3⟩)
      · refine sg (tabOk Tryd.prog) 5 [] [4, 21, 22] (k' := (kOp (bodyOf Tryd.f10) [1, 1, 0] 1 [])) (st' := [(4, none, .string (bs ([]))), (21, none, .int .i64 n)]) (ps := []) (by kernel_rfl) trivial ?_
        refine opStep (hs := []) (e := .call 22 [.int .i64 n]) (d := some 22) (k' := (kOp (bodyOf Tryd.f10) [1, 1, 0] 2 [])) (ps := []) (by kernel_rfl) trivial (runs_call E22 (Var_any n w h2 h3)) ?_
        rintro _ w3 ⟨rfl, hx9⟩
        have hE4 := hE1.trans hx9
        refine sg (tabOk Tryd.prog) 2 [] [4] (k' := (kAt (bodyOf Tryd.f10) [1, 1, 1] [])) (st' := [(4, none, .string (bs (varT n)))]) (ps := []) (by kernel_rfl) trivial ?_
        exact retD (hs := []) (vs := [.string (bs (varT n))]) (ps := []) (by kernel_rfl) trivial (v := .string (bs (varT n))) rfl (⟨by unfold pieceT; rw [if_neg (by omega), if_neg (by omega), if_neg (by omega)], hE4⟩)

def intCells (x : Int) : List Value := [.int .i64 x]
theorem intCells_len (x : Int) : (intCells x).length = 1 := rfl
theorem int_cell {w : World} {a : Option Addr} {xs : List Int} (h : Cells w a (xs.flatMap intCells)) {i : Nat} (hi : i < xs.length) : w.cell? ⟨slB a, slO a + i * 1, none⟩ = some (.int .i64 (xs.getD i 0)) := by
  refine h.elem intCells_len (i := i) (j := 0) (x := xs.getD i 0) ?_ rfl
  rw [List.getD_eq_getElem?_getD, List.getElem?_eq_getElem hi]
  rfl
/-- Each is an int. -/
def Small (xs : List Int) : Prop := ∀ x ∈ xs, -9223372036854775808 ≤ x ∧ x ≤ 9223372036854775807
theorem Small.at {xs : List Int} (h : Small xs) (i : Nat) : -9223372036854775808 ≤ xs.getD i 0 ∧ xs.getD i 0 ≤ 9223372036854775807 := by
  rw [List.getD_eq_getElem?_getD]
  cases hx : xs[i]? with
  | none => simp
  | some x => exact h x (List.mem_of_getElem? hx)

theorem lblank_any (l : List Int) (a : Option Addr) (c i : Nat) (w : World) (hc : Cells w a (l.flatMap intCells)) (hs : Small l) :
    Does Tryd.prog 11 [.slice a l.length c, .int .i64 ((i : Nat) : Int)] w (fun v w' => v = .string (bs (blankT l i)) ∧ Ext w w') := by
  refine startD (c := (bodyOf Tryd.f11)) Tryd.func11 rfl (by kernel_rfl) ?_
  show G _ 17 [] _ (kAt (bodyOf Tryd.f11) [] []) [(0, none, .slice a l.length c), (1, none, .int .i64 ((i : Nat) : Int))] w
  have hE1 : Ext w w := Ext.refl w
  refine sg (tabOk Tryd.prog) 12 [] [0, 1, 4, 8] (k' := (kAt (bodyOf Tryd.f11) [1, 0, 1] [])) (st' := [(0, none, .slice a l.length c), (1, none, .int .i64 ((i : Nat) : Int)), (4, none, .string (bs ([]))), (8, none, .bool (decide (((l.length : Nat) : Int) ≤ ((i : Nat) : Int))))]) (ps := []) (by kernel_rfl) trivial ?_
  refine br (b := (decide (((l.length : Nat) : Int) ≤ ((i : Nat) : Int)))) (kt := (kAt (bodyOf Tryd.f11) [1, 0, 1, 0] [])) (kf := (kAt (bodyOf Tryd.f11) [1, 0, 1, 1] [])) (ps := []) (by kernel_rfl) trivial (p := ((l.length : Nat) : Int) ≤ ((i : Nat) : Int)) (iffDec) (fun h0 => ?_) (fun h0 => ?_)
  · refine sg (tabOk Tryd.prog) 4 [] [0, 1, 4] (k' := (kAt (bodyOf Tryd.f11) [1, 0, 1, 0, 1] [])) (st' := [(0, none, .slice a l.length c), (1, none, .int .i64 ((i : Nat) : Int)), (4, none, .string (bs ([32])))]) (ps := []) (by kernel_rfl) trivial ?_
    exact retD (hs := []) (vs := [.string (bs ([32]))]) (ps := []) (by kernel_rfl) trivial (v := .string (bs ([32]))) rfl (⟨by unfold blankT; rw [if_pos (by omega)], hE1⟩)
  · have hk := pickN_lt (l.getD i 0) (show 0 < 7 by decide)
    have ha := hc.addrE intCells_len (by decide) (i := i) (by omega)
    have hl7 : blankList.length = 7 := rfl
    have hsi := hs.at i
    refine sg (tabOk Tryd.prog) 3 [] [0, 1, 4, 9, 10, 11, 12, 13, 14, 15, 16] (k' := (kOp (bodyOf Tryd.f11) [1, 1, 0] 0 [])) (st' := [(0, none, .slice a l.length c), (1, none, .int .i64 ((i : Nat) : Int)), (4, none, .string (bs ([])))]) (ps := []) (by kernel_rfl) trivial ?_
    refine opStep (hs := []) (e := .bslice 29 7 [(0, .string (bs ([32]))), (1, .string (bs ([32, 32]))), (2, .string (bs ([9]))), (3, .string (bs ([10]))), (4, .string (bs ([32, 10, 10]))), (5, .string (bs ([32, 35, 32, 120, 59, 10]))), (6, .string (bs ([10, 35, 10, 9])))]) (d := some 9) (k' := (kOp (bodyOf Tryd.f11) [1, 1, 0] 1 [])) (ps := []) (by kernel_rfl) trivial (runs_bslice (cs := blankList.map fun l => Value.string (bs l)) (e := 9) (by kernel_rfl)) ?_
    rintro _ w3 ⟨b1, rfl, hN⟩
    have hE2 := hE1.trans hN.ext
    refine sg (tabOk Tryd.prog) 4 [.ld (.int .i64 (l.getD i 0))] [4, 9, 13, 14, 15, 16] (k' := (kOp (bodyOf Tryd.f11) [1, 1, 0] 5 [])) (st' := [(4, none, .string (bs ([]))), (9, none, .slice (some ⟨b1, 0, none⟩) 7 7), (13, none, .int .i64 (l.getD i 0))]) (ps := [(0 ≤ ((i : Nat) : Int) ∧ ((i : Nat) : Int) < ((l.length : Nat) : Int)), (a : Option Addr) = some ⟨(slB a), slO a, none⟩, w3.cell? ⟨(slB a), slO a + i * 1, none⟩ = some (.int .i64 (l.getD i 0))]) (by kernel_rfl) ⟨(by omega), (by assumption), (show w3.cell? ⟨(slB a), slO a + i * 1, none⟩ = some (.int .i64 (l.getD i 0)) from hE2.cell (int_cell hc (by omega)))⟩ ?_
    refine opStep (hs := []) (e := .call 12 [.int .i64 (l.getD i 0), .int .i64 (7 : Int)]) (d := some 14) (k' := (kOp (bodyOf Tryd.f11) [1, 1, 0] 6 [])) (ps := []) (by kernel_rfl) trivial (runs_call E12 (pick_any (l.getD i 0) 7 w3 hsi.1 hsi.2 (by decide))) ?_
    rintro _ _ ⟨rfl, rfl⟩
    refine sg (tabOk Tryd.prog) 4 [.ld (.string (bs (blankList.getD (pickN (l.getD i 0) 7) [])))] [4] (k' := (kAt (bodyOf Tryd.f11) [1, 1, 1] [])) (st' := [(4, none, .string (bs (blankList.getD (pickN (l.getD i 0) 7) [])))]) (ps := [(0 ≤ ((pickN (l.getD i 0) 7 : Nat) : Int) ∧ ((pickN (l.getD i 0) 7 : Nat) : Int) < (7 : Int)), ((some ⟨b1, 0, none⟩) : Option Addr) = some ⟨b1, 0, none⟩, w3.cell? ⟨b1, 0 + (pickN (l.getD i 0) 7) * 1, none⟩ = some (.string (bs (blankList.getD (pickN (l.getD i 0) 7) [])))]) (by kernel_rfl) ⟨(by omega), (rfl), (show w3.cell? ⟨b1, 0 + (pickN (l.getD i 0) 7) * 1, none⟩ = some (.string (bs (blankList.getD (pickN (l.getD i 0) 7) []))) from str_cell hN.own (by omega))⟩ ?_
    exact retD (hs := []) (vs := [.string (bs (blankList.getD (pickN (l.getD i 0) 7) []))]) (ps := []) (by kernel_rfl) trivial (v := .string (bs (blankList.getD (pickN (l.getD i 0) 7) []))) rfl (⟨by unfold blankT; rw [if_neg (by omega)], hE2⟩)

theorem awake_any  (w : World) (hG : Glob w) :
    Does Tryd.prog 9 [] w (fun v w' => v = .bool true ∧ Ext w w') := by
  refine startD (c := (bodyOf Tryd.f9)) Tryd.func9 rfl (by kernel_rfl) ?_
  show G _ 80 [] _ (kAt (bodyOf Tryd.f9) [] []) [] w
  have hE1 : Ext w w := Ext.refl w
  have hA1 := Lex_any [108, 105, 110, 107, 32, 97, 32, 98, 32, 51, 59] w hG
  rw [awake1] at hA1
  refine sg (tabOk Tryd.prog) 6 [] [0, 1, 2, 3, 7, 8, 9, 10, 11] (k' := (kOp (bodyOf Tryd.f9) [1, 0] 0 [])) (st' := [(0, none, .bool false)]) (ps := []) (by kernel_rfl) trivial ?_
  refine opStep (hs := []) (e := .call 13 [.string (bs ([108, 105, 110, 107, 32, 97, 32, 98, 32, 51, 59]))]) (d := some 8) (k' := (kOp (bodyOf Tryd.f9) [1, 0] 1 [])) (ps := []) (by kernel_rfl) trivial (runs_call E13 (hA1)) ?_
  rintro _ w1 ⟨u, rfl, ⟨a, c, rfl, hT⟩, hx1⟩
  have hE2 := hE1.trans hx1
  have hA2 := Lex_any [97, 10, 32, 48, 49] w1 (hG.ext hE2)
  rw [awake2] at hA2
  refine sg (tabOk Tryd.prog) 10 [] [0, 1, 2, 3, 5, 6, 12, 13, 14, 15, 16] (k' := (kOp (bodyOf Tryd.f9) [1, 1, 0] 0 [])) (st' := [(0, none, .bool false), (1, none, .slice a 6 c), (2, none, .int .i64 (0 : Int)), (3, none, .int .i64 (0 : Int))]) (ps := []) (by kernel_rfl) trivial ?_
  refine opStep (hs := []) (e := .call 13 [.string (bs ([97, 10, 32, 48, 49]))]) (d := some 13) (k' := (kOp (bodyOf Tryd.f9) [1, 1, 0] 1 [])) (ps := []) (by kernel_rfl) trivial (runs_call E13 (hA2)) ?_
  rintro _ w2 ⟨u2, rfl, ⟨a2, c2, rfl, hT2⟩, hx2⟩
  have hE3 := hE2.trans hx2
  have ha := hT.addr (fun e => absurd (congrArg List.length e) (by decide))
  have cx : ∀ j v, (_ : List Value)[j]? = some v → w2.cell? ⟨slB a, slO a + j, none⟩ = some v := fun j v hv => hx2.cell (hT.at hv)
  refine sg (tabOk Tryd.prog) 62 [.skip, .exec, .exec, .exec, .exec, .exec, .exec, .ld (.int .i64 (1 : Int)), .exec, .exec, .exec, .exec, .exec, .ld (.int .i64 (3 : Int)), .exec, .exec, .exec, .exec, .exec, .ld (.int .i64 (3 : Int)), .exec, .exec, .exec, .exec, .exec, .ld (.int .i64 (11 : Int)), .exec, .exec, .exec, .exec, .exec] [0, 62, 63, 64, 65, 66, 67, 68, 69, 70, 71, 72, 73, 74, 75, 76, 77, 78, 79] (k' := (kOp (bodyOf Tryd.f9) [1, 1, 1, 1, 0] 43 [])) (st' := [(0, none, .bool false), (62, none, .bool true)]) (ps := [false = false, true = true, true = true, true = true, true = true, (0 ≤ (0 : Int) ∧ (0 : Int) < (6 : Int)), (a : Option Addr) = some ⟨(slB a), slO a, none⟩, true = true, true = true, w2.cell? ⟨(slB a), slO a + 0, none⟩ = some (.int .i64 (1 : Int)), true = true, true = true, true = true, (0 ≤ (3 : Int) ∧ (3 : Int) < (6 : Int)), (a : Option Addr) = some ⟨(slB a), slO a, none⟩, true = true, true = true, w2.cell? ⟨(slB a), slO a + 12 + 2, none⟩ = some (.int .i64 (3 : Int)), true = true, true = true, true = true, (0 ≤ (4 : Int) ∧ (4 : Int) < (6 : Int)), (a : Option Addr) = some ⟨(slB a), slO a, none⟩, true = true, true = true, w2.cell? ⟨(slB a), slO a + 16, none⟩ = some (.int .i64 (3 : Int)), true = true, true = true, true = true, (0 ≤ (5 : Int) ∧ (5 : Int) < (6 : Int)), (a : Option Addr) = some ⟨(slB a), slO a, none⟩, true = true, true = true, w2.cell? ⟨(slB a), slO a + 20 + 3, none⟩ = some (.int .i64 (11 : Int)), true = true, true = true, true = true, true = true, true = true]) (by kernel_rfl) ⟨(rfl), (rfl), (rfl), (rfl), (rfl), (by omega), (by assumption), (rfl), (rfl), (cx 0 _ rfl), (rfl), (rfl), (rfl), (by omega), (by assumption), (rfl), (rfl), (cx 14 _ rfl), (rfl), (rfl), (rfl), (by omega), (by assumption), (rfl), (rfl), (cx 16 _ rfl), (rfl), (rfl), (rfl), (by omega), (by assumption), (rfl), (rfl), (cx 23 _ rfl), (rfl), (rfl), (rfl), (rfl), (show true = true from rfl)⟩ ?_
  have h_w3 := Name_any [120, 45, 49] w2 (by decide)
  rw [awake3] at h_w3
  refine opStep (hs := [.exec]) (e := .call 16 [.string (bs ([120, 45, 49]))]) (d := some 63) (k' := (kOp (bodyOf Tryd.f9) [1, 1, 1, 1, 0] 44 [])) (ps := [true = true]) (by kernel_rfl) (show true = true from rfl) (runs_call E16 (h_w3)) ?_
  rintro _ w3 ⟨rfl, hx_w3⟩
  have hE4 := hE3.trans hx_w3
  refine sg (tabOk Tryd.prog) 2 [] [0, 65, 66, 67, 68, 69, 70, 71, 72, 73, 74, 75, 76, 77, 78, 79] (k' := (kOp (bodyOf Tryd.f9) [1, 1, 1, 1, 0] 46 [])) (st' := [(0, none, .bool false), (65, none, .bool true)]) (ps := []) (by kernel_rfl) trivial ?_
  have h_w4 := Name_any [97, 116] w3 (by decide)
  rw [awake4] at h_w4
  refine opStep (hs := [.exec]) (e := .call 16 [.string (bs ([97, 116]))]) (d := some 66) (k' := (kOp (bodyOf Tryd.f9) [1, 1, 1, 1, 0] 47 [])) (ps := [true = true]) (by kernel_rfl) (show true = true from rfl) (runs_call E16 (h_w4)) ?_
  rintro _ w4 ⟨rfl, hx_w4⟩
  have hE5 := hE4.trans hx_w4
  refine sg (tabOk Tryd.prog) 3 [.exec] [0, 69, 70, 71, 72, 73, 74, 75, 76, 77, 78, 79] (k' := (kOp (bodyOf Tryd.f9) [1, 1, 1, 1, 0] 50 [])) (st' := [(0, none, .bool false), (69, none, .bool true)]) (ps := [true = true]) (by kernel_rfl) (show true = true from rfl) ?_
  have h_w5 := Keyword_any [97, 116] w4
  rw [awake5] at h_w5
  refine opStep (hs := [.exec]) (e := .call 20 [.string (bs ([97, 116]))]) (d := some 70) (k' := (kOp (bodyOf Tryd.f9) [1, 1, 1, 1, 0] 51 [])) (ps := [true = true]) (by kernel_rfl) (show true = true from rfl) (runs_call E20 (h_w5)) ?_
  rintro _ w5 ⟨rfl, hx_w5⟩
  have hE6 := hE5.trans hx_w5
  refine sg (tabOk Tryd.prog) 2 [] [0, 72, 73, 74, 75, 76, 77, 78, 79] (k' := (kOp (bodyOf Tryd.f9) [1, 1, 1, 1, 0] 53 [])) (st' := [(0, none, .bool false), (72, none, .bool true)]) (ps := []) (by kernel_rfl) trivial ?_
  have h_w6 := Number_any [54, 53, 53, 51, 53] w5 (by decide) (hG.ext hE6)
  rw [awake6] at h_w6
  refine opStep (hs := [.exec]) (e := .call 18 [.string (bs ([54, 53, 53, 51, 53]))]) (d := some 73) (k' := (kOp (bodyOf Tryd.f9) [1, 1, 1, 1, 0] 54 [])) (ps := [true = true]) (by kernel_rfl) (show true = true from rfl) (runs_call E18 (h_w6)) ?_
  rintro _ w6 ⟨rfl, hx_w6⟩
  have hE7 := hE6.trans hx_w6
  refine sg (tabOk Tryd.prog) 3 [.exec] [0, 76, 77, 78, 79] (k' := (kOp (bodyOf Tryd.f9) [1, 1, 1, 1, 0] 57 [])) (st' := [(0, none, .bool false), (76, none, .bool true)]) (ps := [true = true]) (by kernel_rfl) (show true = true from rfl) ?_
  have h_w7 := Number_any [54, 53, 53, 51, 54] w6 (by decide) (hG.ext hE7)
  rw [awake7] at h_w7
  refine opStep (hs := [.exec]) (e := .call 18 [.string (bs ([54, 53, 53, 51, 54]))]) (d := some 77) (k' := (kOp (bodyOf Tryd.f9) [1, 1, 1, 1, 0] 58 [])) (ps := [true = true]) (by kernel_rfl) (show true = true from rfl) (runs_call E18 (h_w7)) ?_
  rintro _ w7 ⟨rfl, hx_w7⟩
  have hE8 := hE7.trans hx_w7
  refine sg (tabOk Tryd.prog) 4 [.exec] [0] (k' := (kAt (bodyOf Tryd.f9) [1, 1, 1, 1, 1] [])) (st' := [(0, none, .bool true)]) (ps := [true = true]) (by kernel_rfl) (show true = true from rfl) ?_
  exact retD (hs := []) (vs := [.bool true]) (ps := []) (by kernel_rfl) trivial (v := .bool true) rfl (⟨rfl, hE8⟩)

def pairCells (x : Int × Int) : List Value := [.int .i64 x.1, .int .i64 x.2]
theorem pairCells_len (x : Int × Int) : (pairCells x).length = 2 := rfl
theorem pair_cell {w : World} {a : Option Addr} {xs : List (Int × Int)} (h : Cells w a (xs.flatMap pairCells)) {i : Nat} (hi : i < xs.length) (j : Nat) {v : Value} (hv : (pairCells (xs.getD i (0, 0)))[j]? = some v) : w.cell? ⟨slB a, slO a + i * 2 + j, none⟩ = some v := by
  refine h.elem pairCells_len (i := i) (j := j) ?_ hv
  rw [List.getD_eq_getElem?_getD, List.getElem?_eq_getElem hi]
  rfl
/-- Each is a pair of ints. -/
def Small2 (xs : List (Int × Int)) : Prop := ∀ x ∈ xs, (-9223372036854775808 ≤ x.1 ∧ x.1 ≤ 9223372036854775807) ∧ -9223372036854775808 ≤ x.2 ∧ x.2 ≤ 9223372036854775807
theorem Small2.at {xs : List (Int × Int)} (h : Small2 xs) (i : Nat) : (-9223372036854775808 ≤ (xs.getD i (0, 0)).1 ∧ (xs.getD i (0, 0)).1 ≤ 9223372036854775807) ∧ -9223372036854775808 ≤ (xs.getD i (0, 0)).2 ∧ (xs.getD i (0, 0)).2 ≤ 9223372036854775807 := by
  rw [List.getD_eq_getElem?_getD]
  cases hx : xs[i]? with
  | none => simp
  | some x => exact h x (List.mem_of_getElem? hx)

end Go.Proofs.YtcbecbkongomfaaDoor
