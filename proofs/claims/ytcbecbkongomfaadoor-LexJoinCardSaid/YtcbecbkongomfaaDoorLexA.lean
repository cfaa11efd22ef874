/-
  LEX: contracts of the lexer's small functions, the references' among them.
-/
import Derived.Test.YtcbecbkongomfaaDoorMem
import Derived.Test.YtcbecbkongomfaaDoorLexSpec
import Derived.Test.YtcbecbkongomfaaDoorShelf
import Derived.Test.YtcbecbkongomfaaDoorRows
namespace Go.Proofs.YtcbecbkongomfaaDoor
open Go.Bk Go.Proofs

theorem E27 : Proofs.Enters Tryd.prog 27 := Proofs.enters_of Tryd.func27 (by kernel_rfl) rfl

theorem E29 : Proofs.Enters Tryd.prog 29 := Proofs.enters_of Tryd.func29 (by kernel_rfl) rfl

theorem E28 : Proofs.Enters Tryd.prog 28 := Proofs.enters_of Tryd.func28 (by kernel_rfl) rfl

theorem E35 : Proofs.Enters Tryd.prog 35 := Proofs.enters_of Tryd.func35 (by kernel_rfl) rfl

theorem E20 : Proofs.Enters Tryd.prog 20 := Proofs.enters_of Tryd.func20 (by kernel_rfl) rfl

theorem E16 : Proofs.Enters Tryd.prog 16 := Proofs.enters_of Tryd.func16 (by kernel_rfl) rfl

theorem E18 : Proofs.Enters Tryd.prog 18 := Proofs.enters_of Tryd.func18 (by kernel_rfl) rfl

theorem E24 : Proofs.Enters Tryd.prog 24 := Proofs.enters_of Tryd.func24 (by kernel_rfl) rfl

theorem E25 : Proofs.Enters Tryd.prog 25 := Proofs.enters_of Tryd.func25 (by kernel_rfl) rfl

theorem E13 : Proofs.Enters Tryd.prog 13 := Proofs.enters_of Tryd.func13 (by kernel_rfl) rfl

theorem E36 : Proofs.Enters Tryd.prog 36 := Proofs.enters_of Tryd.func36 (by kernel_rfl) rfl

theorem E38 : Proofs.Enters Tryd.prog 38 := Proofs.enters_of Tryd.func38 (by kernel_rfl) rfl

theorem E30 : Proofs.Enters Tryd.prog 30 := Proofs.enters_of Tryd.func30 (by kernel_rfl) rfl

theorem E33 : Proofs.Enters Tryd.prog 33 := Proofs.enters_of Tryd.func33 (by kernel_rfl) rfl

theorem E26 : Proofs.Enters Tryd.prog 26 := Proofs.enters_of Tryd.func26 (by kernel_rfl) rfl

theorem E21 : Proofs.Enters Tryd.prog 21 := Proofs.enters_of Tryd.func21 (by kernel_rfl) rfl

theorem E17 : Proofs.Enters Tryd.prog 17 := Proofs.enters_of Tryd.func17 (by kernel_rfl) rfl

theorem E19 : Proofs.Enters Tryd.prog 19 := Proofs.enters_of Tryd.func19 (by kernel_rfl) rfl

theorem E14 : Proofs.Enters Tryd.prog 14 := Proofs.enters_of Tryd.func14 (by kernel_rfl) rfl

theorem E15 : Proofs.Enters Tryd.prog 15 := Proofs.enters_of Tryd.func15 (by kernel_rfl) rfl

theorem E37 : Proofs.Enters Tryd.prog 37 := Proofs.enters_of Tryd.func37 (by kernel_rfl) rfl

theorem E34 : Proofs.Enters Tryd.prog 34 := Proofs.enters_of Tryd.func34 (by kernel_rfl) rfl

theorem E31 : Proofs.Enters Tryd.prog 31 := Proofs.enters_of Tryd.func31 (by kernel_rfl) rfl

theorem E32 : Proofs.Enters Tryd.prog 32 := Proofs.enters_of Tryd.func32 (by kernel_rfl) rfl

theorem letter_any (c : UInt8) (w : World)  :
    Does Tryd.prog 27 [.int .u8 ((c.toNat : Nat) : Int)] w (fun v w' => v = .bool (letterB c) ∧ w = w') := by
  refine startD (c := (bodyOf Tryd.f27)) Tryd.func27 rfl (by kernel_rfl) ?_
  show G _ 17 [] _ (kAt (bodyOf Tryd.f27) [] []) [(0, none, .int .u8 ((c.toNat : Nat) : Int))] w
  refine sg (tabOk Tryd.prog) 22 [.sym, .sym, .sym, .sym, .sym, .sym, .sym, .sym] [2] (k' := (kAt (bodyOf Tryd.f27) [1, 1] [])) (st' := [(2, none, .bool (((decide ((97 : Int) ≤ ((c.toNat : Nat) : Int))) && (decide (((c.toNat : Nat) : Int) ≤ (122 : Int)))) || ((decide ((65 : Int) ≤ ((c.toNat : Nat) : Int))) && (decide (((c.toNat : Nat) : Int) ≤ (90 : Int))))))]) (ps := [(decide ((97 : Int) ≤ ((c.toNat : Nat) : Int))) = true → (decide ((97 : Int) ≤ ((c.toNat : Nat) : Int))) = true, (decide ((97 : Int) ≤ ((c.toNat : Nat) : Int))) = true → (decide ((97 : Int) ≤ ((c.toNat : Nat) : Int))) = true, (!((decide ((97 : Int) ≤ ((c.toNat : Nat) : Int))) && (decide (((c.toNat : Nat) : Int) ≤ (122 : Int))))) = true → (!((decide ((97 : Int) ≤ ((c.toNat : Nat) : Int))) && (decide (((c.toNat : Nat) : Int) ≤ (122 : Int))))) = true, (!((decide ((97 : Int) ≤ ((c.toNat : Nat) : Int))) && (decide (((c.toNat : Nat) : Int) ≤ (122 : Int))))) = true → (!((decide ((97 : Int) ≤ ((c.toNat : Nat) : Int))) && (decide (((c.toNat : Nat) : Int) ≤ (122 : Int))))) = true, ((!((decide ((97 : Int) ≤ ((c.toNat : Nat) : Int))) && (decide (((c.toNat : Nat) : Int) ≤ (122 : Int))))) && (decide ((65 : Int) ≤ ((c.toNat : Nat) : Int)))) = true → ((!((decide ((97 : Int) ≤ ((c.toNat : Nat) : Int))) && (decide (((c.toNat : Nat) : Int) ≤ (122 : Int))))) && (decide ((65 : Int) ≤ ((c.toNat : Nat) : Int)))) = true, (!((decide ((97 : Int) ≤ ((c.toNat : Nat) : Int))) && (decide (((c.toNat : Nat) : Int) ≤ (122 : Int))))) = true → (!((decide ((97 : Int) ≤ ((c.toNat : Nat) : Int))) && (decide (((c.toNat : Nat) : Int) ≤ (122 : Int))))) = true, (!((decide ((97 : Int) ≤ ((c.toNat : Nat) : Int))) && (decide (((c.toNat : Nat) : Int) ≤ (122 : Int))))) = true → (decide ((65 : Int) ≤ ((c.toNat : Nat) : Int))) = true → ((!((decide ((97 : Int) ≤ ((c.toNat : Nat) : Int))) && (decide (((c.toNat : Nat) : Int) ≤ (122 : Int))))) && (decide ((65 : Int) ≤ ((c.toNat : Nat) : Int)))) = true, (!((decide ((97 : Int) ≤ ((c.toNat : Nat) : Int))) && (decide (((c.toNat : Nat) : Int) ≤ (122 : Int))))) = true → (!((decide ((97 : Int) ≤ ((c.toNat : Nat) : Int))) && (decide (((c.toNat : Nat) : Int) ≤ (122 : Int))))) = true]) (by kernel_rfl) ⟨(fun h => h), (fun h => h), (fun h => h), (fun h => h), (fun h => h), (fun h => h), (by intro _; intro h; simp_all), (show (!((decide ((97 : Int) ≤ ((c.toNat : Nat) : Int))) && (decide (((c.toNat : Nat) : Int) ≤ (122 : Int))))) = true → (!((decide ((97 : Int) ≤ ((c.toNat : Nat) : Int))) && (decide (((c.toNat : Nat) : Int) ≤ (122 : Int))))) = true from fun h => h)⟩ ?_
  exact retD (hs := []) (vs := [.bool (((decide ((97 : Int) ≤ ((c.toNat : Nat) : Int))) && (decide (((c.toNat : Nat) : Int) ≤ (122 : Int)))) || ((decide ((65 : Int) ≤ ((c.toNat : Nat) : Int))) && (decide (((c.toNat : Nat) : Int) ≤ (90 : Int)))))]) (ps := []) (by kernel_rfl) trivial (v := .bool (((decide ((97 : Int) ≤ ((c.toNat : Nat) : Int))) && (decide (((c.toNat : Nat) : Int) ≤ (122 : Int)))) || ((decide ((65 : Int) ≤ ((c.toNat : Nat) : Int))) && (decide (((c.toNat : Nat) : Int) ≤ (90 : Int)))))) rfl (⟨rfl, rfl⟩)

theorem rletter_any (c : UInt8) (w : World)  :
    Does Tryd.prog 30 [.int .u8 ((c.toNat : Nat) : Int)] w (fun v w' => v = .bool (letterB c) ∧ w = w') := by
  refine startD (c := (bodyOf Tryd.f30)) Tryd.func30 rfl (by kernel_rfl) ?_
  show G _ 17 [] _ (kAt (bodyOf Tryd.f30) [] []) [(0, none, .int .u8 ((c.toNat : Nat) : Int))] w
  refine sg (tabOk Tryd.prog) 22 [.sym, .sym, .sym, .sym, .sym, .sym, .sym, .sym] [2] (k' := (kAt (bodyOf Tryd.f30) [1, 1] [])) (st' := [(2, none, .bool (((decide ((97 : Int) ≤ ((c.toNat : Nat) : Int))) && (decide (((c.toNat : Nat) : Int) ≤ (122 : Int)))) || ((decide ((65 : Int) ≤ ((c.toNat : Nat) : Int))) && (decide (((c.toNat : Nat) : Int) ≤ (90 : Int))))))]) (ps := [(decide ((97 : Int) ≤ ((c.toNat : Nat) : Int))) = true → (decide ((97 : Int) ≤ ((c.toNat : Nat) : Int))) = true, (decide ((97 : Int) ≤ ((c.toNat : Nat) : Int))) = true → (decide ((97 : Int) ≤ ((c.toNat : Nat) : Int))) = true, (!((decide ((97 : Int) ≤ ((c.toNat : Nat) : Int))) && (decide (((c.toNat : Nat) : Int) ≤ (122 : Int))))) = true → (!((decide ((97 : Int) ≤ ((c.toNat : Nat) : Int))) && (decide (((c.toNat : Nat) : Int) ≤ (122 : Int))))) = true, (!((decide ((97 : Int) ≤ ((c.toNat : Nat) : Int))) && (decide (((c.toNat : Nat) : Int) ≤ (122 : Int))))) = true → (!((decide ((97 : Int) ≤ ((c.toNat : Nat) : Int))) && (decide (((c.toNat : Nat) : Int) ≤ (122 : Int))))) = true, ((!((decide ((97 : Int) ≤ ((c.toNat : Nat) : Int))) && (decide (((c.toNat : Nat) : Int) ≤ (122 : Int))))) && (decide ((65 : Int) ≤ ((c.toNat : Nat) : Int)))) = true → ((!((decide ((97 : Int) ≤ ((c.toNat : Nat) : Int))) && (decide (((c.toNat : Nat) : Int) ≤ (122 : Int))))) && (decide ((65 : Int) ≤ ((c.toNat : Nat) : Int)))) = true, (!((decide ((97 : Int) ≤ ((c.toNat : Nat) : Int))) && (decide (((c.toNat : Nat) : Int) ≤ (122 : Int))))) = true → (!((decide ((97 : Int) ≤ ((c.toNat : Nat) : Int))) && (decide (((c.toNat : Nat) : Int) ≤ (122 : Int))))) = true, (!((decide ((97 : Int) ≤ ((c.toNat : Nat) : Int))) && (decide (((c.toNat : Nat) : Int) ≤ (122 : Int))))) = true → (decide ((65 : Int) ≤ ((c.toNat : Nat) : Int))) = true → ((!((decide ((97 : Int) ≤ ((c.toNat : Nat) : Int))) && (decide (((c.toNat : Nat) : Int) ≤ (122 : Int))))) && (decide ((65 : Int) ≤ ((c.toNat : Nat) : Int)))) = true, (!((decide ((97 : Int) ≤ ((c.toNat : Nat) : Int))) && (decide (((c.toNat : Nat) : Int) ≤ (122 : Int))))) = true → (!((decide ((97 : Int) ≤ ((c.toNat : Nat) : Int))) && (decide (((c.toNat : Nat) : Int) ≤ (122 : Int))))) = true]) (by kernel_rfl) ⟨(fun h => h), (fun h => h), (fun h => h), (fun h => h), (fun h => h), (fun h => h), (by intro _; intro h; simp_all), (show (!((decide ((97 : Int) ≤ ((c.toNat : Nat) : Int))) && (decide (((c.toNat : Nat) : Int) ≤ (122 : Int))))) = true → (!((decide ((97 : Int) ≤ ((c.toNat : Nat) : Int))) && (decide (((c.toNat : Nat) : Int) ≤ (122 : Int))))) = true from fun h => h)⟩ ?_
  exact retD (hs := []) (vs := [.bool (((decide ((97 : Int) ≤ ((c.toNat : Nat) : Int))) && (decide (((c.toNat : Nat) : Int) ≤ (122 : Int)))) || ((decide ((65 : Int) ≤ ((c.toNat : Nat) : Int))) && (decide (((c.toNat : Nat) : Int) ≤ (90 : Int)))))]) (ps := []) (by kernel_rfl) trivial (v := .bool (((decide ((97 : Int) ≤ ((c.toNat : Nat) : Int))) && (decide (((c.toNat : Nat) : Int) ≤ (122 : Int)))) || ((decide ((65 : Int) ≤ ((c.toNat : Nat) : Int))) && (decide (((c.toNat : Nat) : Int) ≤ (90 : Int)))))) rfl (⟨rfl, rfl⟩)

theorem rdigit_any (c : UInt8) (w : World)  :
    Does Tryd.prog 33 [.int .u8 ((c.toNat : Nat) : Int)] w (fun v w' => v = .bool (digitB c) ∧ w = w') := by
  refine startD (c := (bodyOf Tryd.f33)) Tryd.func33 rfl (by kernel_rfl) ?_
  show G _ 9 [] _ (kAt (bodyOf Tryd.f33) [] []) [(0, none, .int .u8 ((c.toNat : Nat) : Int))] w
  refine sg (tabOk Tryd.prog) 14 [.sym, .sym] [2] (k' := (kAt (bodyOf Tryd.f33) [1, 1] [])) (st' := [(2, none, .bool ((decide ((48 : Int) ≤ ((c.toNat : Nat) : Int))) && (decide (((c.toNat : Nat) : Int) ≤ (57 : Int)))))]) (ps := [(decide ((48 : Int) ≤ ((c.toNat : Nat) : Int))) = true → (decide ((48 : Int) ≤ ((c.toNat : Nat) : Int))) = true, (decide ((48 : Int) ≤ ((c.toNat : Nat) : Int))) = true → (decide ((48 : Int) ≤ ((c.toNat : Nat) : Int))) = true]) (by kernel_rfl) ⟨(fun h => h), (show (decide ((48 : Int) ≤ ((c.toNat : Nat) : Int))) = true → (decide ((48 : Int) ≤ ((c.toNat : Nat) : Int))) = true from fun h => h)⟩ ?_
  exact retD (hs := []) (vs := [.bool ((decide ((48 : Int) ≤ ((c.toNat : Nat) : Int))) && (decide (((c.toNat : Nat) : Int) ≤ (57 : Int))))]) (ps := []) (by kernel_rfl) trivial (v := .bool ((decide ((48 : Int) ≤ ((c.toNat : Nat) : Int))) && (decide (((c.toNat : Nat) : Int) ≤ (57 : Int))))) rfl (⟨rfl, rfl⟩)

theorem blank_any (c : UInt8) (w : World)  :
    Does Tryd.prog 36 [.int .u8 ((c.toNat : Nat) : Int)] w (fun v w' => v = .bool (blankB c) ∧ w = w') := by
  refine startD (c := (bodyOf Tryd.f36)) Tryd.func36 rfl (by kernel_rfl) ?_
  show G _ 13 [] _ (kAt (bodyOf Tryd.f36) [] []) [(0, none, .int .u8 ((c.toNat : Nat) : Int))] w
  refine sg (tabOk Tryd.prog) 18 [.sym, .sym, .sym, .sym] [2] (k' := (kAt (bodyOf Tryd.f36) [1, 1] [])) (st' := [(2, none, .bool (((decide (((c.toNat : Nat) : Int) = (32 : Int))) || (decide (((c.toNat : Nat) : Int) = (9 : Int)))) || (decide (((c.toNat : Nat) : Int) = (10 : Int)))))]) (ps := [(!(decide (((c.toNat : Nat) : Int) = (32 : Int)))) = true → (!(decide (((c.toNat : Nat) : Int) = (32 : Int)))) = true, (!(decide (((c.toNat : Nat) : Int) = (32 : Int)))) = true → (!(decide (((c.toNat : Nat) : Int) = (32 : Int)))) = true, (!((decide (((c.toNat : Nat) : Int) = (32 : Int))) || (decide (((c.toNat : Nat) : Int) = (9 : Int))))) = true → (!((decide (((c.toNat : Nat) : Int) = (32 : Int))) || (decide (((c.toNat : Nat) : Int) = (9 : Int))))) = true, (!((decide (((c.toNat : Nat) : Int) = (32 : Int))) || (decide (((c.toNat : Nat) : Int) = (9 : Int))))) = true → (!((decide (((c.toNat : Nat) : Int) = (32 : Int))) || (decide (((c.toNat : Nat) : Int) = (9 : Int))))) = true]) (by kernel_rfl) ⟨(fun h => h), (fun h => h), (fun h => h), (show (!((decide (((c.toNat : Nat) : Int) = (32 : Int))) || (decide (((c.toNat : Nat) : Int) = (9 : Int))))) = true → (!((decide (((c.toNat : Nat) : Int) = (32 : Int))) || (decide (((c.toNat : Nat) : Int) = (9 : Int))))) = true from fun h => h)⟩ ?_
  exact retD (hs := []) (vs := [.bool (((decide (((c.toNat : Nat) : Int) = (32 : Int))) || (decide (((c.toNat : Nat) : Int) = (9 : Int)))) || (decide (((c.toNat : Nat) : Int) = (10 : Int))))]) (ps := []) (by kernel_rfl) trivial (v := .bool (((decide (((c.toNat : Nat) : Int) = (32 : Int))) || (decide (((c.toNat : Nat) : Int) = (9 : Int)))) || (decide (((c.toNat : Nat) : Int) = (10 : Int))))) rfl (⟨rfl, rfl⟩)

theorem notLine_any (c : UInt8) (w : World)  :
    Does Tryd.prog 38 [.int .u8 ((c.toNat : Nat) : Int)] w (fun v w' => v = .bool (notLineB c) ∧ w = w') := by
  refine startD (c := (bodyOf Tryd.f38)) Tryd.func38 rfl (by kernel_rfl) ?_
  show G _ 5 [] _ (kAt (bodyOf Tryd.f38) [] []) [(0, none, .int .u8 ((c.toNat : Nat) : Int))] w
  refine sg (tabOk Tryd.prog) 10 [] [2] (k' := (kAt (bodyOf Tryd.f38) [1, 1] [])) (st' := [(2, none, .bool (!(decide (((c.toNat : Nat) : Int) = (10 : Int)))))]) (ps := []) (by kernel_rfl) trivial ?_
  exact retD (hs := []) (vs := [.bool (!(decide (((c.toNat : Nat) : Int) = (10 : Int))))]) (ps := []) (by kernel_rfl) trivial (v := .bool (!(decide (((c.toNat : Nat) : Int) = (10 : Int))))) rfl (⟨rfl, rfl⟩)

theorem part_any (c : UInt8) (w : World)  :
    Does Tryd.prog 29 [.int .u8 ((c.toNat : Nat) : Int)] w (fun v w' => v = .bool (partB c) ∧ w = w') := by
  refine startD (c := (bodyOf Tryd.f29)) Tryd.func29 rfl (by kernel_rfl) ?_
  show G _ 21 [] _ (kAt (bodyOf Tryd.f29) [] []) [(0, none, .int .u8 ((c.toNat : Nat) : Int))] w
  refine sg (tabOk Tryd.prog) 7 [] [0, 2, 3, 4, 5, 6, 7, 8, 9, 10, 11, 12, 13, 14, 15, 16, 17, 18, 19, 20] (k' := (kOp (bodyOf Tryd.f29) [1, 0] 1 [])) (st' := [(0, none, .int .u8 ((c.toNat : Nat) : Int)), (2, none, .bool false), (3, none, .int .u8 ((c.toNat : Nat) : Int))]) (ps := []) (by kernel_rfl) trivial ?_
  refine opStep (hs := []) (e := .call 27 [.int .u8 ((c.toNat : Nat) : Int)]) (d := some 4) (k' := (kOp (bodyOf Tryd.f29) [1, 0] 2 [])) (ps := []) (by kernel_rfl) trivial (runs_call E27 (letter_any c w)) ?_
  rintro v _ ⟨rfl, rfl⟩
  refine sg (tabOk Tryd.prog) 18 [.sym, .sym, .sym, .sym, .sym, .sym, .sym, .sym, .sym, .sym] [2] (k' := (kAt (bodyOf Tryd.f29) [1, 1] [])) (st' := [(2, none, .bool ((((letterB c) || ((decide ((48 : Int) ≤ ((c.toNat : Nat) : Int))) && (decide (((c.toNat : Nat) : Int) ≤ (57 : Int))))) || (decide (((c.toNat : Nat) : Int) = (45 : Int)))) || (decide (((c.toNat : Nat) : Int) = (95 : Int)))))]) (ps := [(!(letterB c)) = true → (!(letterB c)) = true, (!(letterB c)) = true → (!(letterB c)) = true, ((!(letterB c)) && (decide ((48 : Int) ≤ ((c.toNat : Nat) : Int)))) = true → ((!(letterB c)) && (decide ((48 : Int) ≤ ((c.toNat : Nat) : Int)))) = true, (!(letterB c)) = true → (!(letterB c)) = true, (!(letterB c)) = true → (decide ((48 : Int) ≤ ((c.toNat : Nat) : Int))) = true → ((!(letterB c)) && (decide ((48 : Int) ≤ ((c.toNat : Nat) : Int)))) = true, (!(letterB c)) = true → (!(letterB c)) = true, (!((letterB c) || ((decide ((48 : Int) ≤ ((c.toNat : Nat) : Int))) && (decide (((c.toNat : Nat) : Int) ≤ (57 : Int)))))) = true → (!((letterB c) || ((decide ((48 : Int) ≤ ((c.toNat : Nat) : Int))) && (decide (((c.toNat : Nat) : Int) ≤ (57 : Int)))))) = true, (!((letterB c) || ((decide ((48 : Int) ≤ ((c.toNat : Nat) : Int))) && (decide (((c.toNat : Nat) : Int) ≤ (57 : Int)))))) = true → (!((letterB c) || ((decide ((48 : Int) ≤ ((c.toNat : Nat) : Int))) && (decide (((c.toNat : Nat) : Int) ≤ (57 : Int)))))) = true, (!(((letterB c) || ((decide ((48 : Int) ≤ ((c.toNat : Nat) : Int))) && (decide (((c.toNat : Nat) : Int) ≤ (57 : Int))))) || (decide (((c.toNat : Nat) : Int) = (45 : Int))))) = true → (!(((letterB c) || ((decide ((48 : Int) ≤ ((c.toNat : Nat) : Int))) && (decide (((c.toNat : Nat) : Int) ≤ (57 : Int))))) || (decide (((c.toNat : Nat) : Int) = (45 : Int))))) = true, (!(((letterB c) || ((decide ((48 : Int) ≤ ((c.toNat : Nat) : Int))) && (decide (((c.toNat : Nat) : Int) ≤ (57 : Int))))) || (decide (((c.toNat : Nat) : Int) = (45 : Int))))) = true → (!(((letterB c) || ((decide ((48 : Int) ≤ ((c.toNat : Nat) : Int))) && (decide (((c.toNat : Nat) : Int) ≤ (57 : Int))))) || (decide (((c.toNat : Nat) : Int) = (45 : Int))))) = true]) (by kernel_rfl) ⟨(fun h => h), (fun h => h), (fun h => h), (fun h => h), (by intro _; intro h; simp_all), (fun h => h), (fun h => h), (fun h => h), (fun h => h), (show (!(((letterB c) || ((decide ((48 : Int) ≤ ((c.toNat : Nat) : Int))) && (decide (((c.toNat : Nat) : Int) ≤ (57 : Int))))) || (decide (((c.toNat : Nat) : Int) = (45 : Int))))) = true → (!(((letterB c) || ((decide ((48 : Int) ≤ ((c.toNat : Nat) : Int))) && (decide (((c.toNat : Nat) : Int) ≤ (57 : Int))))) || (decide (((c.toNat : Nat) : Int) = (45 : Int))))) = true from fun h => h)⟩ ?_
  exact retD (hs := []) (vs := [.bool ((((letterB c) || ((decide ((48 : Int) ≤ ((c.toNat : Nat) : Int))) && (decide (((c.toNat : Nat) : Int) ≤ (57 : Int))))) || (decide (((c.toNat : Nat) : Int) = (45 : Int)))) || (decide (((c.toNat : Nat) : Int) = (95 : Int))))]) (ps := []) (by kernel_rfl) trivial (v := .bool ((((letterB c) || ((decide ((48 : Int) ≤ ((c.toNat : Nat) : Int))) && (decide (((c.toNat : Nat) : Int) ≤ (57 : Int))))) || (decide (((c.toNat : Nat) : Int) = (45 : Int)))) || (decide (((c.toNat : Nat) : Int) = (95 : Int))))) rfl (⟨rfl, rfl⟩)

theorem rpart_any (c : UInt8) (w : World)  :
    Does Tryd.prog 26 [.int .u8 ((c.toNat : Nat) : Int)] w (fun v w' => v = .bool (partB c) ∧ w = w') := by
  refine startD (c := (bodyOf Tryd.f26)) Tryd.func26 rfl (by kernel_rfl) ?_
  show G _ 17 [] _ (kAt (bodyOf Tryd.f26) [] []) [(0, none, .int .u8 ((c.toNat : Nat) : Int))] w
  refine sg (tabOk Tryd.prog) 7 [] [0, 2, 3, 4, 5, 6, 7, 8, 9, 10, 11, 12, 13, 14, 15, 16] (k' := (kOp (bodyOf Tryd.f26) [1, 0] 1 [])) (st' := [(0, none, .int .u8 ((c.toNat : Nat) : Int)), (2, none, .bool false), (3, none, .int .u8 ((c.toNat : Nat) : Int))]) (ps := []) (by kernel_rfl) trivial ?_
  refine opStep (hs := []) (e := .call 30 [.int .u8 ((c.toNat : Nat) : Int)]) (d := some 4) (k' := (kOp (bodyOf Tryd.f26) [1, 0] 2 [])) (ps := []) (by kernel_rfl) trivial (runs_call E30 (rletter_any c w)) ?_
  rintro v _ ⟨rfl, rfl⟩
  refine sg (tabOk Tryd.prog) 2 [.sym] [0, 2, 5, 6, 7, 8, 9, 10, 11, 12, 13, 14, 15, 16] (k' := (kOp (bodyOf Tryd.f26) [1, 0] 4 [])) (st' := [(0, none, .int .u8 ((c.toNat : Nat) : Int)), (2, none, .bool false), (5, none, .bool (letterB c)), (6, some (!(letterB c)), .int .u8 ((c.toNat : Nat) : Int))]) (ps := []) (by kernel_rfl) trivial ?_
  refine opCond (fun w' => w = w') (.bool (digitB c)) (e := .call 33 [.int .u8 ((c.toNat : Nat) : Int)]) (d := 7) (g := !(letterB c)) (k' := (kOp (bodyOf Tryd.f26) [1, 0] 5 [])) (ps := [(!(letterB c)) = true → (!(letterB c)) = true]) (by kernel_rfl) (show (!(letterB c)) = true → (!(letterB c)) = true from fun h => h) (rfl) (fun hg => runs_call E33 ((rdigit_any c w).mono fun v w' ⟨h1, h2⟩ => ⟨h1, h2⟩)) ?_
  rintro _ rfl
  refine sg (tabOk Tryd.prog) 11 [.sym, .sym, .sym, .sym] [2] (k' := (kAt (bodyOf Tryd.f26) [1, 1] [])) (st' := [(2, none, .bool ((((letterB c) || (digitB c)) || (decide (((c.toNat : Nat) : Int) = (45 : Int)))) || (decide (((c.toNat : Nat) : Int) = (95 : Int)))))]) (ps := [(!(letterB c)) = true → (!(letterB c)) = true, (!((letterB c) || (digitB c))) = true → (!((letterB c) || (digitB c))) = true, (!((letterB c) || (digitB c))) = true → (!((letterB c) || (digitB c))) = true, (!(((letterB c) || (digitB c)) || (decide (((c.toNat : Nat) : Int) = (45 : Int))))) = true → (!(((letterB c) || (digitB c)) || (decide (((c.toNat : Nat) : Int) = (45 : Int))))) = true, (!(((letterB c) || (digitB c)) || (decide (((c.toNat : Nat) : Int) = (45 : Int))))) = true → (!(((letterB c) || (digitB c)) || (decide (((c.toNat : Nat) : Int) = (45 : Int))))) = true]) (by kernel_rfl) ⟨(fun h => h), (fun h => h), (fun h => h), (fun h => h), (show (!(((letterB c) || (digitB c)) || (decide (((c.toNat : Nat) : Int) = (45 : Int))))) = true → (!(((letterB c) || (digitB c)) || (decide (((c.toNat : Nat) : Int) = (45 : Int))))) = true from fun h => h)⟩ ?_
  exact retD (hs := []) (vs := [.bool ((((letterB c) || (digitB c)) || (decide (((c.toNat : Nat) : Int) = (45 : Int)))) || (decide (((c.toNat : Nat) : Int) = (95 : Int))))]) (ps := []) (by kernel_rfl) trivial (v := .bool ((((letterB c) || (digitB c)) || (decide (((c.toNat : Nat) : Int) = (45 : Int)))) || (decide (((c.toNat : Nat) : Int) = (95 : Int))))) rfl (⟨rfl, rfl⟩)

def runL (p : UInt8 → Bool) (F : FuncId) (l : Bytes) (w : World) : Lp Nat where
  S := fun k => [(0, none, .string (bs l)), (1, none, .func (.func F) #[] #[]), (7, none, .int .i64 ((l.length : Nat) : Int)), (8, none, .int .i64 ((k : Nat) : Int))]
  J := fun k w' => w = w' ∧ k ≤ l.length ∧ ∀ j, j < k → p (l.getD j 0) = true
  M := fun k => l.length - k
theorem run_any (p : UInt8 → Bool) (F : FuncId) (l : Bytes) (w : World) (hE : Enters Tryd.prog F) (hF : ∀ (c : UInt8) (w : World), Does Tryd.prog F [.int .u8 (c.toNat : Int)] w fun v w' => v = .bool (p c) ∧ w = w') (hl : l.length ≤ 9223372036854775807) :
    Does Tryd.prog 28 [.string (bs l), .func (.func F) #[] #[]] w (fun v w' => v = .int .i64 ((runLen p l : Nat) : Int) ∧ w = w') := by
  refine startD (c := (bodyOf Tryd.f28)) Tryd.func28 rfl (by kernel_rfl) ?_
  show G _ 21 [] _ (kAt (bodyOf Tryd.f28) [] []) [(0, none, .string (bs l)), (1, none, .func (.func F) #[] #[])] w
  refine sg (tabOk Tryd.prog) 12 [] [0, 1, 4, 7, 8] (k' := (kAt (bodyOf Tryd.f28) [1, 0, 1, 0] [])) (st' := [(0, none, .string (bs l)), (1, none, .func (.func F) #[] #[]), (4, none, .int .i64 (0 : Int)), (7, none, .int .i64 (((l).length : Nat) : Int)), (8, none, .int .i64 (0 : Int))]) (ps := []) (by kernel_rfl) trivial ?_
  refine loopR (runL p F l w) (k' := (kEnd (bodyOf Tryd.f28) [1, 0, 1, 0] [])) (body := (cAt (bodyOf Tryd.f28) [1, 0, 1, 0, 0])) (by kernel_rfl) 0 [0, 1, 7, 8] (by kernel_rfl) (⟨rfl, by omega, fun j hj => by omega⟩) ?_
  rintro k _ ⟨rfl, hk, hp⟩
  refine sg (tabOk Tryd.prog) 5 [] [0, 1, 4, 7, 8, 9] (k' := (kAt (cAt (bodyOf Tryd.f28) [1, 0, 1, 0, 0]) [1, 0] (.inv (LI 21 [] (runL p F l w) k) :: (kEnd (bodyOf Tryd.f28) [1, 0, 1, 0] [])))) (st' := [(0, none, .string (bs l)), (1, none, .func (.func F) #[] #[]), (7, none, .int .i64 ((l.length : Nat) : Int)), (8, none, .int .i64 ((k : Nat) : Int)), (9, none, .bool (decide (((k : Nat) : Int) < ((l.length : Nat) : Int))))]) (ps := []) (by kernel_rfl) trivial ?_
  refine br (b := (decide (((k : Nat) : Int) < ((l.length : Nat) : Int)))) (kt := (kAt (cAt (bodyOf Tryd.f28) [1, 0, 1, 0, 0]) [1, 0, 0] (.inv (LI 21 [] (runL p F l w) k) :: (kEnd (bodyOf Tryd.f28) [1, 0, 1, 0] [])))) (kf := (kAt (cAt (bodyOf Tryd.f28) [1, 0, 1, 0, 0]) [1, 0, 1] (.inv (LI 21 [] (runL p F l w) k) :: (kEnd (bodyOf Tryd.f28) [1, 0, 1, 0] [])))) (ps := []) (by kernel_rfl) trivial (p := ((k : Nat) : Int) < ((l.length : Nat) : Int)) (iffDec) (fun h => ?_) (fun h => ?_)
  · refine sg (tabOk Tryd.prog) 14 [] [0, 1, 4, 5, 7, 8, 11, 14, 15, 16] (k' := (kOp (cAt (bodyOf Tryd.f28) [1, 0, 1, 0, 0]) [1, 1, 0, 0, 1, 0] 4 (.inv (LI 21 [] (runL p F l w) k) :: (kEnd (bodyOf Tryd.f28) [1, 0, 1, 0] [])))) (st' := [(0, none, .string (bs l)), (1, none, .func (.func F) #[] #[]), (5, none, .int .i64 ((k : Nat) : Int)), (7, none, .int .i64 ((l.length : Nat) : Int)), (8, none, .int .i64 ((k : Nat) : Int)), (11, none, .func (.func F) #[] #[]), (14, none, .int .u8 (((l.getD k 0).toNat : Nat) : Int))]) (ps := [(0 ≤ ((k : Nat) : Int) ∧ ((k : Nat) : Int) < ((l).length : Int))]) (by kernel_rfl) (show (0 ≤ ((k : Nat) : Int) ∧ ((k : Nat) : Int) < ((l).length : Int)) from by omega) ?_
    refine opStep (hs := []) (e := .call F [.int .u8 (((l.getD k 0).toNat : Nat) : Int)]) (d := some 15) (k' := (kOp (cAt (bodyOf Tryd.f28) [1, 0, 1, 0, 0]) [1, 1, 0, 0, 1, 0] 5 (.inv (LI 21 [] (runL p F l w) k) :: (kEnd (bodyOf Tryd.f28) [1, 0, 1, 0] [])))) (ps := []) (by kernel_rfl) trivial (runs_call hE (hF (l.getD k 0) w)) ?_
    rintro v _ ⟨rfl, rfl⟩
    refine sg (tabOk Tryd.prog) 2 [] [0, 1, 4, 5, 7, 8, 16] (k' := (kAt (cAt (bodyOf Tryd.f28) [1, 0, 1, 0, 0]) [1, 1, 0, 0, 1, 1] (.inv (LI 21 [] (runL p F l w) k) :: (kEnd (bodyOf Tryd.f28) [1, 0, 1, 0] [])))) (st' := [(0, none, .string (bs l)), (1, none, .func (.func F) #[] #[]), (5, none, .int .i64 ((k : Nat) : Int)), (7, none, .int .i64 ((l.length : Nat) : Int)), (8, none, .int .i64 ((k : Nat) : Int)), (16, none, .bool (!(p (l.getD k 0))))]) (ps := []) (by kernel_rfl) trivial ?_
    refine br (b := (!(p (l.getD k 0)))) (kt := (kAt (cAt (bodyOf Tryd.f28) [1, 0, 1, 0, 0]) [1, 1, 0, 0, 1, 1, 0] (.inv (LI 21 [] (runL p F l w) k) :: (kEnd (bodyOf Tryd.f28) [1, 0, 1, 0] [])))) (kf := (kAt (cAt (bodyOf Tryd.f28) [1, 0, 1, 0, 0]) [1, 1, 0, 0, 1, 1, 1] (.inv (LI 21 [] (runL p F l w) k) :: (kEnd (bodyOf Tryd.f28) [1, 0, 1, 0] [])))) (ps := []) (by kernel_rfl) trivial (p := ¬ ((p (l.getD k 0)) = true)) ((iffNot Iff.rfl)) (fun hc => ?_) (fun hc => ?_)
    · refine sg (tabOk Tryd.prog) 5 [] [0, 1, 4, 7, 8] (k' := (kAt (cAt (bodyOf Tryd.f28) [1, 0, 1, 0, 0]) [1, 1, 0, 0, 1, 1, 0, 1] (.inv (LI 21 [] (runL p F l w) k) :: (kEnd (bodyOf Tryd.f28) [1, 0, 1, 0] [])))) (st' := [(0, none, .string (bs l)), (1, none, .func (.func F) #[] #[]), (4, none, .int .i64 ((k : Nat) : Int)), (7, none, .int .i64 ((l.length : Nat) : Int)), (8, none, .int .i64 ((k : Nat) : Int))]) (ps := []) (by kernel_rfl) trivial ?_
      exact retD (hs := []) (vs := [.int .i64 ((k : Nat) : Int)]) (ps := []) (by kernel_rfl) trivial (v := .int .i64 ((k : Nat) : Int)) rfl (⟨by rw [runLen_hit p l k (by omega) hp (by simpa using hc)], rfl⟩)
    · refine sg (tabOk Tryd.prog) 6 [] [0, 1, 4, 7, 8] (k' := (.inv (LI 21 [] (runL p F l w) k) :: (kEnd (bodyOf Tryd.f28) [1, 0, 1, 0] []))) (st' := [(0, none, .string (bs l)), (1, none, .func (.func F) #[] #[]), (7, none, .int .i64 ((l.length : Nat) : Int)), (8, none, .int .i64 ((k + 1 : Nat) : Int))]) (ps := [(-9223372036854775808 ≤ ((k + 1 : Nat) : Int) ∧ ((k + 1 : Nat) : Int) ≤ 9223372036854775807)]) (by kernel_rfl) (show (-9223372036854775808 ≤ ((k + 1 : Nat) : Int) ∧ ((k + 1 : Nat) : Int) ≤ 9223372036854775807) from by omega) ?_
      exact again (k + 1) [0, 1, 7, 8] (by kernel_rfl) (⟨rfl, by omega, fun j hj => by by_cases e : j = k; (subst e; simpa using hc); exact hp j (by omega)⟩) (show l.length - (k + 1) < l.length - k by omega)
  · refine sg (tabOk Tryd.prog) 7 [] [4] (k' := (kAt (bodyOf Tryd.f28) [1, 1, 1] [])) (st' := [(4, none, .int .i64 (((l).length : Nat) : Int))]) (ps := []) (by kernel_rfl) trivial ?_
    exact retD (hs := []) (vs := [.int .i64 (((l).length : Nat) : Int)]) (ps := []) (by kernel_rfl) trivial (v := .int .i64 (((l).length : Nat) : Int)) rfl (⟨by rw [runLen_all p l (fun j hj => hp j (by omega))], rfl⟩)

/-- What the library's functions read of package-level variables. -/
structure Glob (w : World) : Prop where
  syn : ∃ tp p, w.var? Tryd.prog "strconv.ErrSyntax" = some #[.iface tp p]
  rng : ∃ tp p, w.var? Tryd.prog "strconv.ErrRange" = some #[.iface tp p]
  pow : Lib.TabIs Tryd.prog w "internal/strconv.uint64pow10" .u64 Lib.pow10Tab
theorem Glob.ext {w w' : World} (h : Glob w) (hE : Ext w w') : Glob w' := by
  obtain ⟨⟨t1, p1, h1⟩, ⟨t2, p2, h2⟩, h3⟩ := h
  exact ⟨⟨t1, p1, hE.var h1⟩, ⟨t2, p2, hE.var h2⟩, hE.var h3⟩
theorem bytesWorld_ext (w : World) (e : TypeId) (s : ByteArray) : Ext w (Lib.bytesWorld w e s) :=
  ⟨by simp [Lib.bytesWorld, World.freeze, World.alloc, World.drew, -World.alloc_eq, -World.drew_eq], by simp [Lib.bytesWorld, World.freeze, World.alloc, World.drew, -World.alloc_eq, -World.drew_eq],
    by simp [Lib.bytesWorld, World.freeze, World.alloc, World.drew, -World.alloc_eq, -World.drew_eq], by rw [Lib.bytesWorld_size]; omega, fun k hk => Lib.bytesWorld_at_old w e s k hk⟩
theorem grow_ext (w : World) (k : Nat) (os : Array Obj) : Ext w (Sort.grow (w.drewN k) os) := by
  refine ⟨rfl, rfl, rfl, ?_, fun i hi => ?_⟩
  · show w.heap.size ≤ (w.heap ++ os).size
    simp
  · show (w.heap ++ os)[i]? = _
    rw [Array.getElem?_append_left hi]
theorem hasPrefix_any (l p : Bytes) (w : World) : Does Tryd.prog 37 [.string (bs l), .string (bs p)] w fun v w' => v = .bool (Lib.hasPrefix l p) ∧ w = w' :=
  Does.of_calls (Tryd.strings_HasPrefix (bs l) (bs p) w) fun _ _ ⟨he, hw⟩ => ⟨_, he, rfl, hw.symm⟩
theorem contains_kw (l : Bytes) (b : Nat) (w : World) (h : w.heap[b]? = some (.cells (kwList.map fun l => Value.string (bs l)).toArray 9 (0, 0))) :
    Does Tryd.prog 34 [.slice (some ⟨b, 0, none⟩) 13 13, .string (bs l)] w fun v w' => v = .bool (kwB l) ∧ w = w' := by
  refine Does.of_calls (Tryd.slices_Contains_string b 0 13 13 (kwList.map bs) (bs l) w (by decide) (by decide) (fun j hj => ?_)) fun _ _ ⟨he, hw⟩ => ⟨_, he, ?_, hw.symm⟩
  · refine cell_of h ?_
    rw [Nat.zero_add, List.getD_eq_getElem?_getD]
    simp only [List.getElem?_toArray, List.getElem?_map]
    have hj' : j < kwList.length := by simpa using hj
    rw [List.getElem?_eq_getElem hj']
    rfl
  · congr 1
    rw [Bool.eq_iff_iff, Lib.containsS_iff]
    unfold kwB
    rw [decide_eq_true_eq, show List.take 13 (kwList.map bs) = kwList.map bs from rfl, List.mem_map]
    constructor
    · rintro ⟨x, hx, he⟩
      rw [← bs_inj he]; exact hx
    · intro hx
      exact ⟨l, hx, rfl⟩
theorem atoi_any (l : Bytes) (hl : l.length ≤ 281474976710656) (w : World) (hG : Glob w) : Does Tryd.prog 31 [.string (bs l)] w fun v w' =>
    (∃ n, Lib.atoiAll l = .ok n ∧ v = .tuple #[.int .i64 n, .nilIface] ∧ Ext w w') ∨ ((∀ n, Lib.atoiAll l ≠ .ok n) ∧ ∃ n N, v = .tuple #[.int .i64 n, .iface 63 (.pointer (some ⟨N, 0, none⟩))] ∧ Ext w w') := by
  have hs : (bs l).size = l.length := bs_size l
  cases h : Lib.atoiAll l
  · rename_i n
    refine Does.of_calls (Tryd.strconv_Atoi_ok (bs l) (by rw [hs]; omega) n h w) fun _ _ ⟨he, hw⟩ => ⟨_, he, .inl ⟨n, rfl, rfl, ?_⟩⟩
    rcases hw with rfl | ⟨t, rfl⟩
    · exact Ext.refl _
    · exact bytesWorld_ext _ _ _
  · obtain ⟨tp, p, hv⟩ := hG.syn
    exact Does.of_calls (Tryd.strconv_Atoi_syntax_var (bs l) (by rw [hs]; omega) h tp p w hv) fun _ _ ⟨N, he, _, _, hb⟩ => ⟨_, he, .inr ⟨(fun n hn => by cases hn), _, N, rfl, hb⟩⟩
  · obtain ⟨tp, p, hv⟩ := hG.rng
    exact Does.of_calls (Tryd.strconv_Atoi_range_var (bs l) (by rw [hs]; omega) h tp p w hv) fun _ _ ⟨N, he, _, _, hb⟩ => ⟨_, he, .inr ⟨(fun n hn => by cases hn), _, N, rfl, hb⟩⟩
theorem itoa_any (n : Int) (h0 : -9223372036854775808 ≤ n) (h1 : n ≤ 9223372036854775807) (w : World) (hG : Glob w) : Does Tryd.prog 32 [.int .i64 n] w fun v w' => v = .string (bs (Lib.itoa n)) ∧ Ext w w' :=
  Does.of_calls (Tryd.strconv_Itoa n h0 h1 w hG.pow) fun _ _ ⟨he, k, os, hw⟩ => ⟨_, he, rfl, hw ▸ grow_ext w k os⟩

def skipLp (l : Bytes) (w : World) : Lp Bytes where
  S := fun m => [(0, none, .string (bs m)), (3, none, .int .i64 ((l.length : Nat) : Int))]
  J := fun m w' => w = w' ∧ m.length ≤ l.length ∧ skipL m = skipL l
  M := fun m => m.length
theorem skip_any (l : Bytes) (w : World) (hl : l.length ≤ 10000) :
    Does Tryd.prog 24 [.string (bs l)] w (fun v w' => v = .int .i64 ((l.length - (skipL l).length : Nat) : Int) ∧ w = w') := by
  refine startD (c := (bodyOf Tryd.f24)) Tryd.func24 rfl (by kernel_rfl) ?_
  show G _ 21 [] _ (kAt (bodyOf Tryd.f24) [] []) [(0, none, .string (bs l))] w
  refine sg (tabOk Tryd.prog) 11 [] [0, 2, 3] (k' := (kAt (bodyOf Tryd.f24) [1, 1, 0] [])) (st' := [(0, none, .string (bs l)), (2, none, .int .i64 (0 : Int)), (3, none, .int .i64 (((l).length : Nat) : Int))]) (ps := []) (by kernel_rfl) trivial ?_
  refine loopR (skipLp l w) (k' := (kEnd (bodyOf Tryd.f24) [1, 1, 0] [])) (body := (cAt (bodyOf Tryd.f24) [1, 1, 0, 0])) (by kernel_rfl) l [0, 3] (by kernel_rfl) (⟨rfl, Nat.le_refl _, rfl⟩) ?_
  rintro m _ ⟨rfl, hm, hs⟩
  have hb := dropWhile_le blankB m
  have r1 := runLen_le blankB m
  refine sg (tabOk Tryd.prog) 5 [] [0, 2, 3, 6, 7, 8, 9] (k' := (kOp (cAt (bodyOf Tryd.f24) [1, 1, 0, 0]) [0, 0] 2 (.inv (LI 21 [] (skipLp l w) m) :: (kEnd (bodyOf Tryd.f24) [1, 1, 0] [])))) (st' := [(0, none, .string (bs m)), (3, none, .int .i64 ((l.length : Nat) : Int)), (6, none, .string (bs m)), (7, none, .string (bs m))]) (ps := []) (by kernel_rfl) trivial ?_
  refine opStep (hs := []) (e := .call 28 [.string (bs m), .func (.func 36) #[] #[]]) (d := some 8) (k' := (kOp (cAt (bodyOf Tryd.f24) [1, 1, 0, 0]) [0, 0] 3 (.inv (LI 21 [] (skipLp l w) m) :: (kEnd (bodyOf Tryd.f24) [1, 1, 0] [])))) (ps := []) (by kernel_rfl) trivial (runs_call E28 (run_any blankB 36 m w E36 blank_any (by omega))) ?_
  rintro v _ ⟨rfl, rfl⟩
  refine sg (tabOk Tryd.prog) 7 [] [0, 2, 3, 10, 11, 12] (k' := (kOp (cAt (bodyOf Tryd.f24) [1, 1, 0, 0]) [0, 1, 0, 0] 1 (.inv (LI 21 [] (skipLp l w) m) :: (kEnd (bodyOf Tryd.f24) [1, 1, 0] [])))) (st' := [(0, none, .string (bs (m.drop (runLen blankB m)))), (3, none, .int .i64 ((l.length : Nat) : Int)), (10, none, .string (bs (m.drop (runLen blankB m))))]) (ps := [(0 ≤ ((runLen blankB m : Nat) : Int) ∧ ((runLen blankB m : Nat) : Int) ≤ ((m).length : Int))]) (by kernel_rfl) (show (0 ≤ ((runLen blankB m : Nat) : Int) ∧ ((runLen blankB m : Nat) : Int) ≤ ((m).length : Int)) from by omega) ?_
  rw [drop_runLen]
  refine opStep (hs := []) (e := .call 37 [.string (bs (m.dropWhile blankB)), .string (bs ([35]))]) (d := some 11) (k' := (kOp (cAt (bodyOf Tryd.f24) [1, 1, 0, 0]) [0, 1, 0, 0] 2 (.inv (LI 21 [] (skipLp l w) m) :: (kEnd (bodyOf Tryd.f24) [1, 1, 0] [])))) (ps := []) (by kernel_rfl) trivial (runs_call E37 (hasPrefix_any (m.dropWhile blankB) [35] w)) ?_
  rintro v _ ⟨rfl, rfl⟩
  refine sg (tabOk Tryd.prog) 2 [] [0, 2, 3, 12] (k' := (kAt (cAt (bodyOf Tryd.f24) [1, 1, 0, 0]) [0, 1, 0, 1] (.inv (LI 21 [] (skipLp l w) m) :: (kEnd (bodyOf Tryd.f24) [1, 1, 0] [])))) (st' := [(0, none, .string (bs (m.dropWhile blankB))), (3, none, .int .i64 ((l.length : Nat) : Int)), (12, none, .bool (!(Lib.hasPrefix (m.dropWhile blankB) [35])))]) (ps := []) (by kernel_rfl) trivial ?_
  refine br (b := (!(Lib.hasPrefix (m.dropWhile blankB) [35]))) (kt := (kAt (cAt (bodyOf Tryd.f24) [1, 1, 0, 0]) [0, 1, 0, 1, 0] (.inv (LI 21 [] (skipLp l w) m) :: (kEnd (bodyOf Tryd.f24) [1, 1, 0] [])))) (kf := (kAt (cAt (bodyOf Tryd.f24) [1, 1, 0, 0]) [0, 1, 0, 1, 1] (.inv (LI 21 [] (skipLp l w) m) :: (kEnd (bodyOf Tryd.f24) [1, 1, 0] [])))) (ps := []) (by kernel_rfl) trivial (p := ¬ ((Lib.hasPrefix (m.dropWhile blankB) [35]) = true)) ((iffNot Iff.rfl)) (fun h => ?_) (fun h => ?_)
  · have h : ¬ Lib.hasPrefix (m.dropWhile blankB) [35] = true := by simpa using h
    refine sg (tabOk Tryd.prog) 8 [] [0, 2, 3] (k' := (kAt (cAt (bodyOf Tryd.f24) [1, 1, 0, 0]) [0, 1, 0, 1, 0, 1] (.inv (LI 21 [] (skipLp l w) m) :: (kEnd (bodyOf Tryd.f24) [1, 1, 0] [])))) (st' := [(0, none, .string (bs (m.dropWhile blankB))), (2, none, .int .i64 (((l.length : Nat) : Int) - (((m.dropWhile blankB).length : Nat) : Int))), (3, none, .int .i64 ((l.length : Nat) : Int))]) (ps := [(-9223372036854775808 ≤ (((l.length : Nat) : Int) - (((m.dropWhile blankB).length : Nat) : Int)) ∧ (((l.length : Nat) : Int) - (((m.dropWhile blankB).length : Nat) : Int)) ≤ 9223372036854775807)]) (by kernel_rfl) (show (-9223372036854775808 ≤ (((l.length : Nat) : Int) - (((m.dropWhile blankB).length : Nat) : Int)) ∧ (((l.length : Nat) : Int) - (((m.dropWhile blankB).length : Nat) : Int)) ≤ 9223372036854775807) from by omega) ?_
    exact retD (hs := []) (vs := [.int .i64 (((l.length : Nat) : Int) - (((m.dropWhile blankB).length : Nat) : Int))]) (ps := []) (by kernel_rfl) trivial (v := .int .i64 (((l.length : Nat) : Int) - (((m.dropWhile blankB).length : Nat) : Int))) rfl (⟨by congr 1; rw [← hs, skipL_stop h]; omega, rfl⟩)
  · have h : Lib.hasPrefix (m.dropWhile blankB) [35] = true := by simpa using h
    have r2 := runLen_le notLineB (m.dropWhile blankB)
    refine sg (tabOk Tryd.prog) 4 [] [0, 2, 3, 17, 18, 19, 20] (k' := (kOp (cAt (bodyOf Tryd.f24) [1, 1, 0, 0]) [0, 1, 1] 2 (.inv (LI 21 [] (skipLp l w) m) :: (kEnd (bodyOf Tryd.f24) [1, 1, 0] [])))) (st' := [(0, none, .string (bs (m.dropWhile blankB))), (3, none, .int .i64 ((l.length : Nat) : Int)), (17, none, .string (bs (m.dropWhile blankB))), (18, none, .string (bs (m.dropWhile blankB)))]) (ps := []) (by kernel_rfl) trivial ?_
    refine opStep (hs := []) (e := .call 28 [.string (bs (m.dropWhile blankB)), .func (.func 38) #[] #[]]) (d := some 19) (k' := (kOp (cAt (bodyOf Tryd.f24) [1, 1, 0, 0]) [0, 1, 1] 3 (.inv (LI 21 [] (skipLp l w) m) :: (kEnd (bodyOf Tryd.f24) [1, 1, 0] [])))) (ps := []) (by kernel_rfl) trivial (runs_call E28 (run_any notLineB 38 (m.dropWhile blankB) w E38 notLine_any (by omega))) ?_
    rintro v _ ⟨rfl, rfl⟩
    refine sg (tabOk Tryd.prog) 4 [] [0, 2, 3] (k' := (.inv (LI 21 [] (skipLp l w) m) :: (kEnd (bodyOf Tryd.f24) [1, 1, 0] []))) (st' := [(0, none, .string (bs ((m.dropWhile blankB).drop (runLen notLineB (m.dropWhile blankB))))), (3, none, .int .i64 ((l.length : Nat) : Int))]) (ps := [(0 ≤ ((runLen notLineB (m.dropWhile blankB) : Nat) : Int) ∧ ((runLen notLineB (m.dropWhile blankB) : Nat) : Int) ≤ ((m.dropWhile blankB).length : Int))]) (by kernel_rfl) (show (0 ≤ ((runLen notLineB (m.dropWhile blankB) : Nat) : Int) ∧ ((runLen notLineB (m.dropWhile blankB) : Nat) : Int) ≤ ((m.dropWhile blankB).length : Int)) from by omega) ?_
    rw [drop_runLen]
    exact again ((m.dropWhile blankB).dropWhile notLineB) [0, 3] (by kernel_rfl) (⟨rfl, Nat.le_trans (dropWhile_le _ _) (Nat.le_trans hb hm), by rw [← hs, skipL_go h]⟩) (Nat.lt_of_lt_of_le (hash_lt h) hb)

theorem keywords_any  (w : World)  :
    Does Tryd.prog 35 [] w (fun v w' => ∃ b, v = .slice (some ⟨b, 0, none⟩) 13 13 ∧ New w w' b (.cells (kwList.map fun l => Value.string (bs l)).toArray 9)) := by
  refine startD (c := (bodyOf Tryd.f35)) Tryd.func35 rfl (by kernel_rfl) ?_
  show G _ 2 [] _ (kAt (bodyOf Tryd.f35) [] []) [] w
  refine sg (tabOk Tryd.prog) 6 [] [0, 1] (k' := (kOp (bodyOf Tryd.f35) [1, 0] 0 [])) (st' := [(0, none, .slice none 0 0)]) (ps := []) (by kernel_rfl) trivial ?_
  refine opStep (hs := []) (e := .bslice 29 13 [(0, .string (bs ([112, 114, 111, 116, 111, 99, 111, 108]))), (1, .string (bs ([118, 101, 99, 116, 111, 114]))), (2, .string (bs ([112, 97, 116, 104]))), (3, .string (bs ([102, 97, 105, 108, 117, 114, 101, 115]))), (4, .string (bs ([110, 111, 100, 101]))), (5, .string (bs ([108, 105, 110, 107]))), (6, .string (bs ([100, 101, 115, 116]))), (7, .string (bs ([97, 116]))), (8, .string (bs ([99, 104, 101, 99, 107]))), (9, .string (bs ([114, 101, 97, 99, 104]))), (10, .string (bs ([119, 105, 116, 104, 105, 110]))), (11, .string (bs ([119, 97, 121, 112, 111, 105, 110, 116]))), (12, .string (bs ([101, 113, 117, 97, 108])))]) (d := some 1) (k' := (kOp (bodyOf Tryd.f35) [1, 0] 1 [])) (ps := []) (by kernel_rfl) trivial (runs_bslice (cs := kwList.map fun l => Value.string (bs l)) (e := 9) (by kernel_rfl)) ?_
  rintro _ w1 ⟨b1, rfl, hN⟩
  refine sg (tabOk Tryd.prog) 2 [] [0] (k' := (kAt (bodyOf Tryd.f35) [1, 1] [])) (st' := [(0, none, .slice (some ⟨b1, 0, none⟩) 13 13)]) (ps := []) (by kernel_rfl) trivial ?_
  exact retD (hs := []) (vs := [.slice (some ⟨b1, 0, none⟩) 13 13]) (ps := []) (by kernel_rfl) trivial (v := .slice (some ⟨b1, 0, none⟩) 13 13) rfl (⟨_, rfl, hN⟩)

theorem Keyword_any (l : Bytes) (w : World)  :
    Does Tryd.prog 20 [.string (bs l)] w (fun v w' => v = .bool (kwB l) ∧ Ext w w') := by
  refine startD (c := (bodyOf Tryd.f20)) Tryd.func20 rfl (by kernel_rfl) ?_
  show G _ 6 [] _ (kAt (bodyOf Tryd.f20) [] []) [(0, none, .string (bs l))] w
  refine sg (tabOk Tryd.prog) 6 [] [0, 2, 3, 4, 5] (k' := (kOp (bodyOf Tryd.f20) [1, 0] 0 [])) (st' := [(0, none, .string (bs l)), (2, none, .bool false)]) (ps := []) (by kernel_rfl) trivial ?_
  refine opStep (hs := []) (e := .call 35 []) (d := some 3) (k' := (kOp (bodyOf Tryd.f20) [1, 0] 1 [])) (ps := []) (by kernel_rfl) trivial (runs_call E35 (keywords_any w)) ?_
  rintro _ w1 ⟨b1, rfl, hN⟩
  refine sg (tabOk Tryd.prog) 1 [] [2, 3, 4, 5] (k' := (kOp (bodyOf Tryd.f20) [1, 0] 2 [])) (st' := [(2, none, .bool false), (3, none, .slice (some ⟨b1, 0, none⟩) 13 13), (4, none, .string (bs l))]) (ps := []) (by kernel_rfl) trivial ?_
  refine opStep (hs := []) (e := .call 34 [.slice (some ⟨b1, 0, none⟩) 13 13, .string (bs l)]) (d := some 5) (k' := (kOp (bodyOf Tryd.f20) [1, 0] 3 [])) (ps := []) (by kernel_rfl) trivial (runs_call E34 (contains_kw l b1 w1 hN.own)) ?_
  rintro _ _ ⟨rfl, rfl⟩
  refine sg (tabOk Tryd.prog) 2 [] [2] (k' := (kAt (bodyOf Tryd.f20) [1, 1] [])) (st' := [(2, none, .bool (kwB l))]) (ps := []) (by kernel_rfl) trivial ?_
  exact retD (hs := []) (vs := [.bool (kwB l)]) (ps := []) (by kernel_rfl) trivial (v := .bool (kwB l)) rfl (⟨rfl, hN.ext⟩)

theorem Name_any (l : Bytes) (w : World) (hl : l.length ≤ 9223372036854775807) :
    Does Tryd.prog 16 [.string (bs l)] w (fun v w' => v = .bool (nameB l) ∧ Ext w w') := by
  refine startD (c := (bodyOf Tryd.f16)) Tryd.func16 rfl (by kernel_rfl) ?_
  show G _ 27 [] _ (kAt (bodyOf Tryd.f16) [] []) [(0, none, .string (bs l))] w
  refine sg (tabOk Tryd.prog) 16 [.sym, .sym, .sym, .sym, .sym] [0, 2, 10, 12, 13, 14, 15, 16, 17, 18, 19, 20, 21, 22, 23, 24, 25, 26] (k' := (kOp (bodyOf Tryd.f16) [1, 0] 10 [])) (st' := [(0, none, .string (bs l)), (2, none, .bool false), (10, none, .bool ((!(decide (l = ([])))) && (decide ((((l).length : Nat) : Int) ≤ (12 : Int))))), (12, some ((!(decide (l = ([])))) && (decide ((((l).length : Nat) : Int) ≤ (12 : Int)))), .int .u8 (((l.getD 0 0).toNat : Nat) : Int))]) (ps := [(!(decide (l = ([])))) = true → (!(decide (l = ([])))) = true, (!(decide (l = ([])))) = true → (!(decide (l = ([])))) = true, (!(decide (l = ([])))) = true → (!(decide (l = ([])))) = true, ((!(decide (l = ([])))) && (decide ((((l).length : Nat) : Int) ≤ (12 : Int)))) = true → ((!(decide (l = ([])))) && (decide ((((l).length : Nat) : Int) ≤ (12 : Int)))) = true, ((!(decide (l = ([])))) && (decide ((((l).length : Nat) : Int) ≤ (12 : Int)))) = true → (0 ≤ (0 : Int) ∧ (0 : Int) < ((l).length : Int))]) (by kernel_rfl) ⟨(fun h => h), (fun h => h), (fun h => h), (fun h => h), (show ((!(decide (l = ([])))) && (decide ((((l).length : Nat) : Int) ≤ (12 : Int)))) = true → (0 ≤ (0 : Int) ∧ (0 : Int) < ((l).length : Int)) from by intro h; cases l <;> simp_all <;> omega)⟩ ?_
  refine opCond (fun w' => w = w') (.bool (letterB (l.getD 0 0))) (e := .call 27 [.int .u8 (((l.getD 0 0).toNat : Nat) : Int)]) (d := 13) (g := (!(decide (l = ([])))) && (decide ((((l).length : Nat) : Int) ≤ (12 : Int)))) (k' := (kOp (bodyOf Tryd.f16) [1, 0] 11 [])) (ps := [((!(decide (l = ([])))) && (decide ((((l).length : Nat) : Int) ≤ (12 : Int)))) = true → ((!(decide (l = ([])))) && (decide ((((l).length : Nat) : Int) ≤ (12 : Int)))) = true]) (by kernel_rfl) (show ((!(decide (l = ([])))) && (decide ((((l).length : Nat) : Int) ≤ (12 : Int)))) = true → ((!(decide (l = ([])))) && (decide ((((l).length : Nat) : Int) ≤ (12 : Int)))) = true from fun h => h) (rfl) (fun hg => runs_call E27 (letter_any (l.getD 0 0) w)) ?_
  rintro _ rfl
  refine sg (tabOk Tryd.prog) 3 [.sym] [0, 2, 15, 16, 17, 18, 19, 20, 21, 22, 23, 24, 25, 26] (k' := (kOp (bodyOf Tryd.f16) [1, 0] 14 [])) (st' := [(0, none, .string (bs l)), (2, none, .bool false), (15, none, .bool (((!(decide (l = ([])))) && (decide ((((l).length : Nat) : Int) ≤ (12 : Int)))) && (letterB (l.getD 0 0)))), (16, some (((!(decide (l = ([])))) && (decide ((((l).length : Nat) : Int) ≤ (12 : Int)))) && (letterB (l.getD 0 0))), .string (bs l))]) (ps := [((!(decide (l = ([])))) && (decide ((((l).length : Nat) : Int) ≤ (12 : Int)))) = true → ((!(decide (l = ([])))) && (decide ((((l).length : Nat) : Int) ≤ (12 : Int)))) = true]) (by kernel_rfl) (show ((!(decide (l = ([])))) && (decide ((((l).length : Nat) : Int) ≤ (12 : Int)))) = true → ((!(decide (l = ([])))) && (decide ((((l).length : Nat) : Int) ≤ (12 : Int)))) = true from fun h => h) ?_
  refine opCond (fun w' => w = w') (.int .i64 ((runLen partB l : Nat) : Int)) (e := .call 28 [.string (bs l), .func (.func 29) #[] #[]]) (d := 17) (g := ((!(decide (l = ([])))) && (decide ((((l).length : Nat) : Int) ≤ (12 : Int)))) && (letterB (l.getD 0 0))) (k' := (kOp (bodyOf Tryd.f16) [1, 0] 15 [])) (ps := [(((!(decide (l = ([])))) && (decide ((((l).length : Nat) : Int) ≤ (12 : Int)))) && (letterB (l.getD 0 0))) = true → (((!(decide (l = ([])))) && (decide ((((l).length : Nat) : Int) ≤ (12 : Int)))) && (letterB (l.getD 0 0))) = true]) (by kernel_rfl) (show (((!(decide (l = ([])))) && (decide ((((l).length : Nat) : Int) ≤ (12 : Int)))) && (letterB (l.getD 0 0))) = true → (((!(decide (l = ([])))) && (decide ((((l).length : Nat) : Int) ≤ (12 : Int)))) && (letterB (l.getD 0 0))) = true from fun h => h) (rfl) (fun hg => runs_call E28 (run_any partB 29 l w E29 part_any hl)) ?_
  rintro _ rfl
  refine sg (tabOk Tryd.prog) 6 [.sym, .sym, .sym, .sym] [2, 22, 23, 24, 25, 26] (k' := (kOp (bodyOf Tryd.f16) [1, 0] 21 [])) (st' := [(2, none, .bool false), (22, none, .bool ((((!(decide (l = ([])))) && (decide ((((l).length : Nat) : Int) ≤ (12 : Int)))) && (letterB (l.getD 0 0))) && (decide (((runLen partB l : Nat) : Int) = (((l).length : Nat) : Int))))), (23, some ((((!(decide (l = ([])))) && (decide ((((l).length : Nat) : Int) ≤ (12 : Int)))) && (letterB (l.getD 0 0))) && (decide (((runLen partB l : Nat) : Int) = (((l).length : Nat) : Int)))), .string (bs l))]) (ps := [(((!(decide (l = ([])))) && (decide ((((l).length : Nat) : Int) ≤ (12 : Int)))) && (letterB (l.getD 0 0))) = true → (((!(decide (l = ([])))) && (decide ((((l).length : Nat) : Int) ≤ (12 : Int)))) && (letterB (l.getD 0 0))) = true, (((!(decide (l = ([])))) && (decide ((((l).length : Nat) : Int) ≤ (12 : Int)))) && (letterB (l.getD 0 0))) = true → (((!(decide (l = ([])))) && (decide ((((l).length : Nat) : Int) ≤ (12 : Int)))) && (letterB (l.getD 0 0))) = true, (((!(decide (l = ([])))) && (decide ((((l).length : Nat) : Int) ≤ (12 : Int)))) && (letterB (l.getD 0 0))) = true → (((!(decide (l = ([])))) && (decide ((((l).length : Nat) : Int) ≤ (12 : Int)))) && (letterB (l.getD 0 0))) = true, (((!(decide (l = ([])))) && (decide ((((l).length : Nat) : Int) ≤ (12 : Int)))) && (letterB (l.getD 0 0))) = true → (((!(decide (l = ([])))) && (decide ((((l).length : Nat) : Int) ≤ (12 : Int)))) && (letterB (l.getD 0 0))) = true]) (by kernel_rfl) ⟨(fun h => h), (fun h => h), (fun h => h), (show (((!(decide (l = ([])))) && (decide ((((l).length : Nat) : Int) ≤ (12 : Int)))) && (letterB (l.getD 0 0))) = true → (((!(decide (l = ([])))) && (decide ((((l).length : Nat) : Int) ≤ (12 : Int)))) && (letterB (l.getD 0 0))) = true from fun h => h)⟩ ?_
  refine opCond (fun w' => Ext w w') (.bool (kwB l)) (e := .call 20 [.string (bs l)]) (d := 24) (g := (((!(decide (l = ([])))) && (decide ((((l).length : Nat) : Int) ≤ (12 : Int)))) && (letterB (l.getD 0 0))) && (decide (((runLen partB l : Nat) : Int) = (((l).length : Nat) : Int)))) (k' := (kOp (bodyOf Tryd.f16) [1, 0] 22 [])) (ps := [((((!(decide (l = ([])))) && (decide ((((l).length : Nat) : Int) ≤ (12 : Int)))) && (letterB (l.getD 0 0))) && (decide (((runLen partB l : Nat) : Int) = (((l).length : Nat) : Int)))) = true → ((((!(decide (l = ([])))) && (decide ((((l).length : Nat) : Int) ≤ (12 : Int)))) && (letterB (l.getD 0 0))) && (decide (((runLen partB l : Nat) : Int) = (((l).length : Nat) : Int)))) = true]) (by kernel_rfl) (show ((((!(decide (l = ([])))) && (decide ((((l).length : Nat) : Int) ≤ (12 : Int)))) && (letterB (l.getD 0 0))) && (decide (((runLen partB l : Nat) : Int) = (((l).length : Nat) : Int)))) = true → ((((!(decide (l = ([])))) && (decide ((((l).length : Nat) : Int) ≤ (12 : Int)))) && (letterB (l.getD 0 0))) && (decide (((runLen partB l : Nat) : Int) = (((l).length : Nat) : Int)))) = true from fun h => h) (Ext.refl w) (fun hg => runs_call E20 (Keyword_any l w)) ?_
  rintro w1 hE
  refine sg (tabOk Tryd.prog) 4 [.sym] [2] (k' := (kAt (bodyOf Tryd.f16) [1, 1] [])) (st' := [(2, none, .bool (((((!(decide (l = ([])))) && (decide ((((l).length : Nat) : Int) ≤ (12 : Int)))) && (letterB (l.getD 0 0))) && (decide (((runLen partB l : Nat) : Int) = (((l).length : Nat) : Int)))) && (!(kwB l))))]) (ps := [((((!(decide (l = ([])))) && (decide ((((l).length : Nat) : Int) ≤ (12 : Int)))) && (letterB (l.getD 0 0))) && (decide (((runLen partB l : Nat) : Int) = (((l).length : Nat) : Int)))) = true → ((((!(decide (l = ([])))) && (decide ((((l).length : Nat) : Int) ≤ (12 : Int)))) && (letterB (l.getD 0 0))) && (decide (((runLen partB l : Nat) : Int) = (((l).length : Nat) : Int)))) = true, ((((!(decide (l = ([])))) && (decide ((((l).length : Nat) : Int) ≤ (12 : Int)))) && (letterB (l.getD 0 0))) && (decide (((runLen partB l : Nat) : Int) = (((l).length : Nat) : Int)))) = true → ((((!(decide (l = ([])))) && (decide ((((l).length : Nat) : Int) ≤ (12 : Int)))) && (letterB (l.getD 0 0))) && (decide (((runLen partB l : Nat) : Int) = (((l).length : Nat) : Int)))) = true]) (by kernel_rfl) ⟨(fun h => h), (show ((((!(decide (l = ([])))) && (decide ((((l).length : Nat) : Int) ≤ (12 : Int)))) && (letterB (l.getD 0 0))) && (decide (((runLen partB l : Nat) : Int) = (((l).length : Nat) : Int)))) = true → ((((!(decide (l = ([])))) && (decide ((((l).length : Nat) : Int) ≤ (12 : Int)))) && (letterB (l.getD 0 0))) && (decide (((runLen partB l : Nat) : Int) = (((l).length : Nat) : Int)))) = true from fun h => h)⟩ ?_
  exact retD (hs := []) (vs := [.bool (((((!(decide (l = ([])))) && (decide ((((l).length : Nat) : Int) ≤ (12 : Int)))) && (letterB (l.getD 0 0))) && (decide (((runLen partB l : Nat) : Int) = (((l).length : Nat) : Int)))) && (!(kwB l)))]) (ps := []) (by kernel_rfl) trivial (v := .bool (((((!(decide (l = ([])))) && (decide ((((l).length : Nat) : Int) ≤ (12 : Int)))) && (letterB (l.getD 0 0))) && (decide (((runLen partB l : Nat) : Int) = (((l).length : Nat) : Int)))) && (!(kwB l)))) rfl (⟨rfl, hE⟩)

theorem numI_none {l : Bytes} (h : ∀ n, Lib.atoiAll l ≠ .ok n) : Value.int .i64 (-1) = Value.int .i64 (numI l) := by
  congr 1
  unfold numI
  cases hx : Lib.atoiAll l
  · exact (h _ hx).elim
  · rfl
  · rfl

theorem Number_any (l : Bytes) (w : World) (hl : l.length ≤ 281474976710656) (hG : Glob w) :
    Does Tryd.prog 18 [.string (bs l)] w (fun v w' => v = .int .i64 (numI l) ∧ Ext w w') := by
  refine startD (c := (bodyOf Tryd.f18)) Tryd.func18 rfl (by kernel_rfl) ?_
  show G _ 27 [] _ (kAt (bodyOf Tryd.f18) [] []) [(0, none, .string (bs l))] w
  refine sg (tabOk Tryd.prog) 7 [] [0, 2, 3, 4, 5, 6, 7, 8, 9] (k' := (kOp (bodyOf Tryd.f18) [1, 0] 1 [])) (st' := [(0, none, .string (bs l)), (2, none, .int .i64 (0 : Int)), (6, none, .string (bs l))]) (ps := []) (by kernel_rfl) trivial ?_
  refine opStep (hs := []) (e := .call 31 [.string (bs l)]) (d := some 7) (k' := (kOp (bodyOf Tryd.f18) [1, 0] 2 [])) (ps := []) (by kernel_rfl) trivial (runs_call E31 (atoi_any l hl w hG)) ?_
  rintro _ w1 (⟨n, ha, rfl, hE⟩ | ⟨ha, n, N, rfl, hE⟩)
  · refine sg (tabOk Tryd.prog) 21 [.exec, .exec, .sym, .sym, .sym] [0, 2, 3, 20, 21, 22, 23, 24, 25] (k' := (kOp (bodyOf Tryd.f18) [1, 1, 0, 0] 12 [])) (st' := [(0, none, .string (bs l)), (2, none, .int .i64 (0 : Int)), (3, none, .int .i64 n), (20, none, .bool ((decide ((n : Int) < (0 : Int))) || (decide ((65535 : Int) < n)))), (21, some (!((decide ((n : Int) < (0 : Int))) || (decide ((65535 : Int) < n)))), .int .i64 n)]) (ps := [false = false, false = false, (!(decide ((n : Int) < (0 : Int)))) = true → (!(decide ((n : Int) < (0 : Int)))) = true, (!(decide ((n : Int) < (0 : Int)))) = true → (!(decide ((n : Int) < (0 : Int)))) = true]) (by kernel_rfl) ⟨(rfl), (rfl), (fun h => h), (show (!(decide ((n : Int) < (0 : Int)))) = true → (!(decide ((n : Int) < (0 : Int)))) = true from fun h => h)⟩ ?_
    by_cases h : ((n : Int) < (0 : Int)) ∨ ((65535 : Int) < n)
    · refine sg (tabOk Tryd.prog) 10 [.skip, .skip, .skip, .exec] [2, 3] (k' := (kAt (bodyOf Tryd.f18) [1, 1, 0, 1, 0, 1] [])) (st' := [(2, none, .int .i64 (-1 : Int)), (3, none, .int .i64 n)]) (ps := [((decide ((n : Int) < (0 : Int))) || (decide ((65535 : Int) < n))) = (!false), ((decide ((n : Int) < (0 : Int))) || (decide ((65535 : Int) < n))) = (!false), ((decide ((n : Int) < (0 : Int))) || (decide ((65535 : Int) < n))) = (!false), ((decide ((n : Int) < (0 : Int))) || (decide ((65535 : Int) < n))) = true, true = true]) (by kernel_rfl) ⟨(by simpa using h), (by simpa using h), (by simpa using h), (by simpa using h), (show true = true from rfl)⟩ ?_
      exact retD (hs := []) (vs := [.int .i64 (-1 : Int)]) (ps := []) (by kernel_rfl) trivial (v := .int .i64 (-1 : Int)) rfl (⟨by congr 1; unfold numI; rw [ha]; exact (if_pos (by omega)).symm, hE⟩)
    · refine opStep (hs := [.exec]) (e := .call 32 [.int .i64 n]) (d := some 22) (k' := (kOp (bodyOf Tryd.f18) [1, 1, 0, 0] 13 [])) (ps := [((decide ((n : Int) < (0 : Int))) || (decide ((65535 : Int) < n))) = false, (!((decide ((n : Int) < (0 : Int))) || (decide ((65535 : Int) < n)))) = true]) (by kernel_rfl) ⟨(by simpa using h), (show (!((decide ((n : Int) < (0 : Int))) || (decide ((65535 : Int) < n)))) = true from by simp_all)⟩ (runs_call E32 (itoa_any n (by omega) (by omega) w1 (hG.ext hE))) ?_
      rintro _ w2 ⟨rfl, hE2⟩
      refine sg (tabOk Tryd.prog) 4 [.exec, .exec] [2, 3, 25] (k' := (kAt (bodyOf Tryd.f18) [1, 1, 0, 1] [])) (st' := [(2, none, .int .i64 (0 : Int)), (3, none, .int .i64 n), (25, none, .bool (((decide ((n : Int) < (0 : Int))) || (decide ((65535 : Int) < n))) || (!(decide ((Lib.itoa n) = l)))))]) (ps := [((decide ((n : Int) < (0 : Int))) || (decide ((65535 : Int) < n))) = false, ((decide ((n : Int) < (0 : Int))) || (decide ((65535 : Int) < n))) = false]) (by kernel_rfl) ⟨(by simpa using h), (show ((decide ((n : Int) < (0 : Int))) || (decide ((65535 : Int) < n))) = false from by simpa using h)⟩ ?_
      refine br (b := (((decide ((n : Int) < (0 : Int))) || (decide ((65535 : Int) < n))) || (!(decide ((Lib.itoa n) = l))))) (kt := (kAt (bodyOf Tryd.f18) [1, 1, 0, 1, 0] [])) (kf := (kAt (bodyOf Tryd.f18) [1, 1, 0, 1, 1] [])) (ps := []) (by kernel_rfl) trivial (p := (((n : Int) < (0 : Int)) ∨ ((65535 : Int) < n)) ∨ (¬ ((Lib.itoa n) = l))) ((iffOr (iffOr iffDec iffDec) (iffNot iffDec))) (fun h2 => ?_) (fun h2 => ?_)
      · refine sg (tabOk Tryd.prog) 4 [] [2, 3] (k' := (kAt (bodyOf Tryd.f18) [1, 1, 0, 1, 0, 1] [])) (st' := [(2, none, .int .i64 (-1 : Int)), (3, none, .int .i64 n)]) (ps := []) (by kernel_rfl) trivial ?_
        exact retD (hs := []) (vs := [.int .i64 (-1 : Int)]) (ps := []) (by kernel_rfl) trivial (v := .int .i64 (-1 : Int)) rfl (⟨by congr 1; unfold numI; rw [ha]; exact (if_pos (by rcases h2 with (h2 | h2) | h2; exact .inl h2; exact .inr (.inl h2); exact .inr (.inr h2))).symm, hE.trans hE2⟩)
      · refine sg (tabOk Tryd.prog) 6 [] [2] (k' := (kAt (bodyOf Tryd.f18) [1, 1, 1, 1] [])) (st' := [(2, none, .int .i64 n)]) (ps := []) (by kernel_rfl) trivial ?_
        exact retD (hs := []) (vs := [.int .i64 n]) (ps := []) (by kernel_rfl) trivial (v := .int .i64 n) rfl (⟨by congr 1; unfold numI; rw [ha]; exact (if_neg (fun hx => h2 (by rcases hx with hx | hx | hx; exact .inl (.inl hx); exact .inl (.inr hx); exact .inr hx))).symm, hE.trans hE2⟩)
  · refine sg (tabOk Tryd.prog) 31 [.skip, .skip, .skip, .skip, .skip, .skip, .skip, .skip, .exec] [2, 3] (k' := (kAt (bodyOf Tryd.f18) [1, 1, 0, 1, 0, 1] [])) (st' := [(2, none, .int .i64 (-1 : Int)), (3, none, .int .i64 n)]) (ps := [true = (!false), true = (!false), true = true, true = (!false), true = (!false), true = true, true = (!false), true = (!false), true = (!false), true = (!false), true = true, true = true]) (by kernel_rfl) ⟨(rfl), (rfl), (rfl), (rfl), (rfl), (rfl), (rfl), (rfl), (rfl), (rfl), (rfl), (show true = true from rfl)⟩ ?_
    exact retD (hs := []) (vs := [.int .i64 (-1 : Int)]) (ps := []) (by kernel_rfl) trivial (v := .int .i64 (-1 : Int)) rfl (⟨numI_none ha, hE⟩)

theorem first_any (l : Bytes) (w : World) (hl : l.length ≤ 10000) (hG : Glob w) :
    Does Tryd.prog 25 [.string (bs l)] w (fun v w' => v = .tuple #[.agg #[.int .i64 (firstT l).1.kind, .string (bs (firstT l).1.text), .int .i64 (firstT l).1.n, .int .i64 0], .bool (firstT l).2] ∧ Ext w w') := by
  refine startD (c := (bodyOf Tryd.f25)) Tryd.func25 rfl (by kernel_rfl) ?_
  show G _ 33 [] _ (kAt (bodyOf Tryd.f25) [] []) [(0, none, .string (bs l))] w
  have hE1 : Ext w w := Ext.refl w
  refine sg (tabOk Tryd.prog) 2 [] [0, 2, 3] (k' := (kOp (bodyOf Tryd.f25) [0] 0 [])) (st' := [(0, none, .string (bs l))]) (ps := []) (by kernel_rfl) trivial ?_
  refine opStep (hs := []) (e := .alloc 39) (d := some 2) (k' := (kOp (bodyOf Tryd.f25) [0] 1 [])) (ps := []) (by kernel_rfl) trivial (runs_alloc (z := .agg #[.int .i64 (0 : Int), .string (bs ([])), .int .i64 (0 : Int), .int .i64 (0 : Int)]) (by kernel_rfl)) ?_
  rintro _ w1 ⟨b1, rfl, hN2⟩
  have hl3 : w.heap.size ≤ b1 := by have := hE1.le; have := hN2.lo; omega
  have hE4 := hE1.trans hN2.ext
  have ho5 := hN2.own
  refine sg (tabOk Tryd.prog) 8 [] [0, 2, 3, 6] (k' := (kAt (bodyOf Tryd.f25) [1, 0, 1] [])) (st' := [(0, none, .string (bs l)), (2, none, .pointer (some ⟨b1, 0, none⟩)), (3, none, .bool false), (6, none, .bool (decide (l = ([]))))]) (ps := []) (by kernel_rfl) trivial ?_
  refine br (b := (decide (l = ([])))) (kt := (kAt (bodyOf Tryd.f25) [1, 0, 1, 0] [])) (kf := (kAt (bodyOf Tryd.f25) [1, 0, 1, 1] [])) (ps := []) (by kernel_rfl) trivial (p := l = ([])) (iffDec) (fun h0 => ?_) (fun h0 => ?_)
  · refine sg (tabOk Tryd.prog) 3 [] [0, 2, 3, 7] (k' := (kOp (bodyOf Tryd.f25) [1, 0, 1, 0, 0] 1 [])) (st' := [(0, none, .string (bs l)), (2, none, .pointer (some ⟨b1, 0, none⟩)), (3, none, .bool false), (7, none, .agg #[.int .i64 (4 : Int), .string (bs ([])), .int .i64 (0 : Int), .int .i64 (0 : Int)])]) (ps := []) (by kernel_rfl) trivial ?_
    refine opStep (hs := []) (e := .store 39 (.pointer (some ⟨b1, 0, none⟩)) (.agg #[.int .i64 (4 : Int), .string (bs ([])), .int .i64 (0 : Int), .int .i64 (0 : Int)])) (d := none) (k' := (kOp (bodyOf Tryd.f25) [1, 0, 1, 0, 0] 2 [])) (ps := []) (by kernel_rfl) trivial ((runs_store (s := 4) (cs := [.int .i64 (0 : Int), .string (bs ([])), .int .i64 (0 : Int), .int .i64 (0 : Int)]) (by kernel_rfl) ho5 rfl (Nat.le_of_ble_eq_true rfl) (by simp [Value.cells, Value.oneCell'])).mono (Ψ := fun _ w' => Chg w1 w' b1 (.cells #[.int .i64 (4 : Int), .string (bs ([])), .int .i64 (0 : Int), .int .i64 (0 : Int)] _ (0, 0))) fun _ _ h => h) ?_
    rintro _ w2 hC6
    have hE7 := hC6.ext hE4 hl3
    have ho8 := hC6.own
    refine sg (tabOk Tryd.prog) 2 [] [0, 2, 3] (k' := (kAt (bodyOf Tryd.f25) [1, 0, 1, 0, 1] [])) (st' := [(0, none, .string (bs l)), (2, none, .pointer (some ⟨b1, 0, none⟩)), (3, none, .bool true)]) (ps := []) (by kernel_rfl) trivial ?_
    exact retD (hs := [.agg #[.int .i64 (4 : Int), .string (bs ([])), .int .i64 (0 : Int), .int .i64 (0 : Int)]]) (vs := [.agg #[.int .i64 (4 : Int), .string (bs ([])), .int .i64 (0 : Int), .int .i64 (0 : Int)], .bool true]) (ps := [w2.cell? ⟨b1, 0, none⟩ = some (.int .i64 (4 : Int)), w2.cell? ⟨b1, 1, none⟩ = some (.string (bs ([]))), w2.cell? ⟨b1, 2, none⟩ = some (.int .i64 (0 : Int)), w2.cell? ⟨b1, 3, none⟩ = some (.int .i64 (0 : Int))]) (by kernel_rfl) ⟨(cell_of ho8 rfl), (cell_of ho8 rfl), (cell_of ho8 rfl), (show w2.cell? ⟨b1, 3, none⟩ = some (.int .i64 (0 : Int)) from cell_of ho8 rfl)⟩ (v := .tuple #[.agg #[.int .i64 (4 : Int), .string (bs ([])), .int .i64 (0 : Int), .int .i64 (0 : Int)], .bool true]) rfl (⟨by subst h0; rfl, hE7⟩)
  · have hpos : 0 < l.length := List.length_pos_iff.2 h0
    refine sg (tabOk Tryd.prog) 8 [] [0, 2, 3, 10] (k' := (kAt (bodyOf Tryd.f25) [1, 1, 0, 1] [])) (st' := [(0, none, .string (bs l)), (2, none, .pointer (some ⟨b1, 0, none⟩)), (3, none, .bool false), (10, none, .bool (decide ((((l.getD 0 0).toNat : Nat) : Int) = (59 : Int))))]) (ps := [(0 ≤ (0 : Int) ∧ (0 : Int) < ((l).length : Int))]) (by kernel_rfl) (show (0 ≤ (0 : Int) ∧ (0 : Int) < ((l).length : Int)) from by omega) ?_
    refine br (b := (decide ((((l.getD 0 0).toNat : Nat) : Int) = (59 : Int)))) (kt := (kAt (bodyOf Tryd.f25) [1, 1, 0, 1, 0] [])) (kf := (kAt (bodyOf Tryd.f25) [1, 1, 0, 1, 1] [])) (ps := []) (by kernel_rfl) trivial (p := (((l.getD 0 0).toNat : Nat) : Int) = (59 : Int)) (iffDec) (fun h1 => ?_) (fun h1 => ?_)
    · refine sg (tabOk Tryd.prog) 5 [] [0, 2, 3, 13] (k' := (kOp (bodyOf Tryd.f25) [1, 1, 0, 1, 0, 0] 3 [])) (st' := [(0, none, .string (bs l)), (2, none, .pointer (some ⟨b1, 0, none⟩)), (3, none, .bool false), (13, none, .agg #[.int .i64 (3 : Int), .string (bs (l.take 1)), .int .i64 (0 : Int), .int .i64 (0 : Int)])]) (ps := [(0 ≤ (1 : Int) ∧ (1 : Int) ≤ ((l).length : Int))]) (by kernel_rfl) (show (0 ≤ (1 : Int) ∧ (1 : Int) ≤ ((l).length : Int)) from by omega) ?_
      refine opStep (hs := []) (e := .store 39 (.pointer (some ⟨b1, 0, none⟩)) (.agg #[.int .i64 (3 : Int), .string (bs (l.take 1)), .int .i64 (0 : Int), .int .i64 (0 : Int)])) (d := none) (k' := (kOp (bodyOf Tryd.f25) [1, 1, 0, 1, 0, 0] 4 [])) (ps := []) (by kernel_rfl) trivial ((runs_store (s := 4) (cs := [.int .i64 (0 : Int), .string (bs ([])), .int .i64 (0 : Int), .int .i64 (0 : Int)]) (by kernel_rfl) ho5 rfl (Nat.le_of_ble_eq_true rfl) (by simp [Value.cells, Value.oneCell'])).mono (Ψ := fun _ w' => Chg w1 w' b1 (.cells #[.int .i64 (3 : Int), .string (bs (l.take 1)), .int .i64 (0 : Int), .int .i64 (0 : Int)] _ (0, 0))) fun _ _ h => h) ?_
      rintro _ w2 hC9
      have hE10 := hC9.ext hE4 hl3
      have ho11 := hC9.own
      refine sg (tabOk Tryd.prog) 2 [] [0, 2, 3] (k' := (kAt (bodyOf Tryd.f25) [1, 1, 0, 1, 0, 1] [])) (st' := [(0, none, .string (bs l)), (2, none, .pointer (some ⟨b1, 0, none⟩)), (3, none, .bool true)]) (ps := []) (by kernel_rfl) trivial ?_
      exact retD (hs := [.agg #[.int .i64 (3 : Int), .string (bs (l.take 1)), .int .i64 (0 : Int), .int .i64 (0 : Int)]]) (vs := [.agg #[.int .i64 (3 : Int), .string (bs (l.take 1)), .int .i64 (0 : Int), .int .i64 (0 : Int)], .bool true]) (ps := [w2.cell? ⟨b1, 0, none⟩ = some (.int .i64 (3 : Int)), w2.cell? ⟨b1, 1, none⟩ = some (.string (bs (l.take 1))), w2.cell? ⟨b1, 2, none⟩ = some (.int .i64 (0 : Int)), w2.cell? ⟨b1, 3, none⟩ = some (.int .i64 (0 : Int))]) (by kernel_rfl) ⟨(cell_of ho11 rfl), (cell_of ho11 rfl), (cell_of ho11 rfl), (show w2.cell? ⟨b1, 3, none⟩ = some (.int .i64 (0 : Int)) from cell_of ho11 rfl)⟩ (v := .tuple #[.agg #[.int .i64 (3 : Int), .string (bs (l.take 1)), .int .i64 (0 : Int), .int .i64 (0 : Int)], .bool true]) rfl (⟨by unfold firstT; rw [if_neg h0, if_pos (by omega)], hE10⟩)
    · refine sg (tabOk Tryd.prog) 5 [] [0, 2, 3, 14, 15, 16, 17] (k' := (kOp (bodyOf Tryd.f25) [1, 1, 1, 0] 2 [])) (st' := [(0, none, .string (bs l)), (2, none, .pointer (some ⟨b1, 0, none⟩)), (3, none, .bool false), (14, none, .string (bs l)), (15, none, .string (bs l))]) (ps := []) (by kernel_rfl) trivial ?_
      have r1 := runLen_le partB l
      refine opStep (hs := []) (e := .call 28 [.string (bs l), .func (.func 29) #[] #[]]) (d := some 16) (k' := (kOp (bodyOf Tryd.f25) [1, 1, 1, 0] 3 [])) (ps := []) (by kernel_rfl) trivial (runs_call E28 (run_any partB 29 l w1 E29 part_any (by omega))) ?_
      rintro _ _ ⟨rfl, rfl⟩
      refine sg (tabOk Tryd.prog) 7 [] [0, 2, 3, 4, 18, 19] (k' := (kOp (bodyOf Tryd.f25) [1, 1, 1, 1, 0, 0] 1 [])) (st' := [(0, none, .string (bs (l.take (runLen partB l)))), (2, none, .pointer (some ⟨b1, 0, none⟩)), (3, none, .bool false), (18, none, .string (bs (l.take (runLen partB l))))]) (ps := [(0 ≤ ((runLen partB l : Nat) : Int) ∧ ((runLen partB l : Nat) : Int) ≤ ((l).length : Int))]) (by kernel_rfl) (show (0 ≤ ((runLen partB l : Nat) : Int) ∧ ((runLen partB l : Nat) : Int) ≤ ((l).length : Int)) from by omega) ?_
      rw [take_runLen]
      have r2 : (l.takeWhile partB).length ≤ l.length := runLen_le partB l
      refine opStep (hs := []) (e := .call 18 [.string (bs (l.takeWhile partB))]) (d := some 19) (k' := (kOp (bodyOf Tryd.f25) [1, 1, 1, 1, 0, 0] 2 [])) (ps := []) (by kernel_rfl) trivial (runs_call E18 (Number_any (l.takeWhile partB) w1 (by omega) (hG.ext hE4))) ?_
      rintro _ w2 ⟨rfl, hx⟩
      have hE12 := hE4.trans hx
      have ho13 := hx.heap ho5
      refine sg (tabOk Tryd.prog) 7 [] [0, 2, 3, 4, 21] (k' := (kAt (bodyOf Tryd.f25) [1, 1, 1, 1, 0, 1, 1] [])) (st' := [(0, none, .string (bs (l.takeWhile partB))), (2, none, .pointer (some ⟨b1, 0, none⟩)), (3, none, .bool false), (4, none, .int .i64 (numI (l.takeWhile partB))), (21, none, .bool (decide ((0 : Int) ≤ numI (l.takeWhile partB))))]) (ps := []) (by kernel_rfl) trivial ?_
      refine br (b := (decide ((0 : Int) ≤ numI (l.takeWhile partB)))) (kt := (kAt (bodyOf Tryd.f25) [1, 1, 1, 1, 0, 1, 1, 0] [])) (kf := (kAt (bodyOf Tryd.f25) [1, 1, 1, 1, 0, 1, 1, 1] [])) (ps := []) (by kernel_rfl) trivial (p := (0 : Int) ≤ numI (l.takeWhile partB)) (iffDec) (fun h2 => ?_) (fun h2 => ?_)
      · refine sg (tabOk Tryd.prog) 5 [] [0, 2, 3, 24] (k' := (kOp (bodyOf Tryd.f25) [1, 1, 1, 1, 0, 1, 1, 0, 0] 3 [])) (st' := [(0, none, .string (bs (l.takeWhile partB))), (2, none, .pointer (some ⟨b1, 0, none⟩)), (3, none, .bool false), (24, none, .agg #[.int .i64 (2 : Int), .string (bs (l.takeWhile partB)), .int .i64 (numI (l.takeWhile partB)), .int .i64 (0 : Int)])]) (ps := []) (by kernel_rfl) trivial ?_
        refine opStep (hs := []) (e := .store 39 (.pointer (some ⟨b1, 0, none⟩)) (.agg #[.int .i64 (2 : Int), .string (bs (l.takeWhile partB)), .int .i64 (numI (l.takeWhile partB)), .int .i64 (0 : Int)])) (d := none) (k' := (kOp (bodyOf Tryd.f25) [1, 1, 1, 1, 0, 1, 1, 0, 0] 4 [])) (ps := []) (by kernel_rfl) trivial ((runs_store (s := 4) (cs := [.int .i64 (0 : Int), .string (bs ([])), .int .i64 (0 : Int), .int .i64 (0 : Int)]) (by kernel_rfl) ho13 rfl (Nat.le_of_ble_eq_true rfl) (by simp [Value.cells, Value.oneCell'])).mono (Ψ := fun _ w' => Chg w2 w' b1 (.cells #[.int .i64 (2 : Int), .string (bs (l.takeWhile partB)), .int .i64 (numI (l.takeWhile partB)), .int .i64 (0 : Int)] _ (0, 0))) fun _ _ h => h) ?_
        rintro _ w3 hC14
        have hE15 := hC14.ext hE12 hl3
        have ho16 := hC14.own
        refine sg (tabOk Tryd.prog) 2 [] [0, 2, 3] (k' := (kAt (bodyOf Tryd.f25) [1, 1, 1, 1, 0, 1, 1, 0, 1] [])) (st' := [(0, none, .string (bs (l.takeWhile partB))), (2, none, .pointer (some ⟨b1, 0, none⟩)), (3, none, .bool true)]) (ps := []) (by kernel_rfl) trivial ?_
        exact retD (hs := [.agg #[.int .i64 (2 : Int), .string (bs (l.takeWhile partB)), .int .i64 (numI (l.takeWhile partB)), .int .i64 (0 : Int)]]) (vs := [.agg #[.int .i64 (2 : Int), .string (bs (l.takeWhile partB)), .int .i64 (numI (l.takeWhile partB)), .int .i64 (0 : Int)], .bool true]) (ps := [w3.cell? ⟨b1, 0, none⟩ = some (.int .i64 (2 : Int)), w3.cell? ⟨b1, 1, none⟩ = some (.string (bs (l.takeWhile partB))), w3.cell? ⟨b1, 2, none⟩ = some (.int .i64 (numI (l.takeWhile partB))), w3.cell? ⟨b1, 3, none⟩ = some (.int .i64 (0 : Int))]) (by kernel_rfl) ⟨(cell_of ho16 rfl), (cell_of ho16 rfl), (cell_of ho16 rfl), (show w3.cell? ⟨b1, 3, none⟩ = some (.int .i64 (0 : Int)) from cell_of ho16 rfl)⟩ (v := .tuple #[.agg #[.int .i64 (2 : Int), .string (bs (l.takeWhile partB)), .int .i64 (numI (l.takeWhile partB)), .int .i64 (0 : Int)], .bool true]) rfl (⟨by unfold firstT; rw [if_neg h0, if_neg (by omega)]; simp [h2], hE15⟩)
      · refine sg (tabOk Tryd.prog) 6 [] [0, 2, 3, 26, 27, 28, 29, 30, 31, 32] (k' := (kOp (bodyOf Tryd.f25) [1, 1, 1, 1, 1, 0] 3 [])) (st' := [(0, none, .string (bs (l.takeWhile partB))), (2, none, .pointer (some ⟨b1, 0, none⟩)), (3, none, .bool false), (26, none, .agg #[.int .i64 (1 : Int), .string (bs (l.takeWhile partB)), .int .i64 (0 : Int), .int .i64 (0 : Int)]), (27, none, .string (bs (l.takeWhile partB)))]) (ps := []) (by kernel_rfl) trivial ?_
        refine opStep (hs := []) (e := .call 20 [.string (bs (l.takeWhile partB))]) (d := some 28) (k' := (kOp (bodyOf Tryd.f25) [1, 1, 1, 1, 1, 0] 4 [])) (ps := []) (by kernel_rfl) trivial (runs_call E20 (Keyword_any (l.takeWhile partB) w2)) ?_
        rintro _ w3 ⟨rfl, hy⟩
        have hE17 := hE12.trans hy
        have ho18 := hy.heap ho13
        refine sg (tabOk Tryd.prog) 2 [.sym] [2, 3, 26, 29, 30, 31, 32] (k' := (kOp (bodyOf Tryd.f25) [1, 1, 1, 1, 1, 0] 6 [])) (st' := [(2, none, .pointer (some ⟨b1, 0, none⟩)), (3, none, .bool false), (26, none, .agg #[.int .i64 (1 : Int), .string (bs (l.takeWhile partB)), .int .i64 (0 : Int), .int .i64 (0 : Int)]), (29, none, .bool (kwB (l.takeWhile partB))), (30, some (!(kwB (l.takeWhile partB))), .string (bs (l.takeWhile partB)))]) (ps := []) (by kernel_rfl) trivial ?_
        refine opCond (fun w' => Ext w3 w') (.bool (nameB (l.takeWhile partB))) (e := .call 16 [.string (bs (l.takeWhile partB))]) (d := 31) (g := !(kwB (l.takeWhile partB))) (k' := (kOp (bodyOf Tryd.f25) [1, 1, 1, 1, 1, 0] 7 [])) (ps := [(!(kwB (l.takeWhile partB))) = true → (!(kwB (l.takeWhile partB))) = true]) (by kernel_rfl) (show (!(kwB (l.takeWhile partB))) = true → (!(kwB (l.takeWhile partB))) = true from fun h => h) (Ext.refl w3) (fun hg => runs_call E16 (Name_any (l.takeWhile partB) w3 (by omega))) ?_
        rintro w4 hz
        have hE19 := hE17.trans hz
        have ho20 := hz.heap ho18
        refine sg (tabOk Tryd.prog) 1 [] [2, 3, 26, 32] (k' := (kOp (bodyOf Tryd.f25) [1, 1, 1, 1, 1, 0] 8 [])) (st' := [(2, none, .pointer (some ⟨b1, 0, none⟩)), (3, none, .bool false), (26, none, .agg #[.int .i64 (1 : Int), .string (bs (l.takeWhile partB)), .int .i64 (0 : Int), .int .i64 (0 : Int)]), (32, none, .bool ((kwB (l.takeWhile partB)) || (nameB (l.takeWhile partB))))]) (ps := [(!(kwB (l.takeWhile partB))) = true → (!(kwB (l.takeWhile partB))) = true]) (by kernel_rfl) (show (!(kwB (l.takeWhile partB))) = true → (!(kwB (l.takeWhile partB))) = true from fun h => h) ?_
        refine opStep (hs := []) (e := .store 39 (.pointer (some ⟨b1, 0, none⟩)) (.agg #[.int .i64 (1 : Int), .string (bs (l.takeWhile partB)), .int .i64 (0 : Int), .int .i64 (0 : Int)])) (d := none) (k' := (kOp (bodyOf Tryd.f25) [1, 1, 1, 1, 1, 0] 9 [])) (ps := []) (by kernel_rfl) trivial ((runs_store (s := 4) (cs := [.int .i64 (0 : Int), .string (bs ([])), .int .i64 (0 : Int), .int .i64 (0 : Int)]) (by kernel_rfl) ho20 rfl (Nat.le_of_ble_eq_true rfl) (by simp [Value.cells, Value.oneCell'])).mono (Ψ := fun _ w' => Chg w4 w' b1 (.cells #[.int .i64 (1 : Int), .string (bs (l.takeWhile partB)), .int .i64 (0 : Int), .int .i64 (0 : Int)] _ (0, 0))) fun _ _ h => h) ?_
        rintro _ w5 hC21
        have hE22 := hC21.ext hE19 hl3
        have ho23 := hC21.own
        refine sg (tabOk Tryd.prog) 2 [] [2, 3] (k' := (kAt (bodyOf Tryd.f25) [1, 1, 1, 1, 1, 1] [])) (st' := [(2, none, .pointer (some ⟨b1, 0, none⟩)), (3, none, .bool ((kwB (l.takeWhile partB)) || (nameB (l.takeWhile partB))))]) (ps := []) (by kernel_rfl) trivial ?_
        exact retD (hs := [.agg #[.int .i64 (1 : Int), .string (bs (l.takeWhile partB)), .int .i64 (0 : Int), .int .i64 (0 : Int)]]) (vs := [.agg #[.int .i64 (1 : Int), .string (bs (l.takeWhile partB)), .int .i64 (0 : Int), .int .i64 (0 : Int)], .bool ((kwB (l.takeWhile partB)) || (nameB (l.takeWhile partB)))]) (ps := [w5.cell? ⟨b1, 0, none⟩ = some (.int .i64 (1 : Int)), w5.cell? ⟨b1, 1, none⟩ = some (.string (bs (l.takeWhile partB))), w5.cell? ⟨b1, 2, none⟩ = some (.int .i64 (0 : Int)), w5.cell? ⟨b1, 3, none⟩ = some (.int .i64 (0 : Int))]) (by kernel_rfl) ⟨(cell_of ho23 rfl), (cell_of ho23 rfl), (cell_of ho23 rfl), (show w5.cell? ⟨b1, 3, none⟩ = some (.int .i64 (0 : Int)) from cell_of ho23 rfl)⟩ (v := .tuple #[.agg #[.int .i64 (1 : Int), .string (bs (l.takeWhile partB)), .int .i64 (0 : Int), .int .i64 (0 : Int)], .bool ((kwB (l.takeWhile partB)) || (nameB (l.takeWhile partB)))]) rfl (⟨by unfold firstT; rw [if_neg h0, if_neg (by omega)]; simp [h2], hE22⟩)

end Go.Proofs.YtcbecbkongomfaaDoor
