/-
  PARSE: ParseMany returns true: so many nodes and checks as there may be are parsed; one more, or a number beyond, is told at its place.
-/
import Derived.Test.YtjhgghpeapmgdaaGreatDoorParH
import Derived.Test.YtjhgghpeapmgdaaGreatDoorParMan2
namespace Go.Proofs.YtjhgghpeapmgdaaGreatDoor
open Go.Bk Go.Proofs

theorem bad_at {w : World} {b : Nat} {t : TypeId} (h : w.heap[b]? = some (.cells #[sv [112,114,111,116,111,99,111,108,32,112,97,116,104,32,49,51,59],sv [112,114,111,116,111,99,111,108,32,112,97,116,104,32,48,59],sv [112,114,111,116,111,99,111,108,32,118,101,99,116,111,114,59,32,102,97,105,108,117,114,101,115,32,53,59],sv [112,114,111,116,111,99,111,108,32,118,101,99,116,111,114,59,32,102,97,105,108,117,114,101,115,32,48,59,32,110,111,100,101,32,97,32,48,59]] t (0,0))) {k : Nat} (hk : k < 4) : w.cell? ⟨b,0 + k * 1,none⟩ = some (sv (manyBad.getD k [])) := by
  have : k = 0 ∨ k = 1 ∨ k = 2 ∨ k = 3 := by omega
  rcases this with rfl | rfl | rfl | rfl <;> exact cell_of h rfl
theorem pos_at {w : World} {b : Nat} {t : TypeId} (h : w.heap[b]? = some (.cells #[iv 14,iv 14,iv 26,iv 36] t (0,0))) {k : Nat} (hk : k < 4) : w.cell? ⟨b,0 + k * 1,none⟩ = some (iv (manyPos.getD k 0)) := by
  have : k = 0 ∨ k = 1 ∨ k = 2 ∨ k = 3 := by omega
  rcases this with rfl | rfl | rfl | rfl <;> exact cell_of h rfl

def mnL1 (w : World) (d : Int) (n c : Nat) : Lp Nat where
  S := fun i => [(2,none,iv d),(7,none,.bool true),(8,none,iv ((n:Nat):Int)),(9,none,iv ((c:Nat):Int)),(10,none,sv (mNodes i)),(11,none,iv (atN i)),(12,none,iv ((i:Nat):Int))]
  J := fun i w' => Ext w w' ∧ i ≤ n
  M := fun i => n - i
def mnL2 (w : World) (d : Int) (i c : Nat) : Lp Nat where
  S := fun j => [(2,none,iv d),(7,none,.bool true),(9,none,iv ((c:Nat):Int)),(10,none,sv (mText i j)),(11,none,iv (mAt i j)),(13,none,iv ((j:Nat):Int))]
  J := fun j w' => Ext w w' ∧ j ≤ c
  M := fun j => c - j
set_option maxRecDepth 20000 in
set_option maxHeartbeats 1000000 in
theorem ParseMany_any (a b d : Int) (w : World) (hG : Glob w) (ha0 : -9223372036854775808 ≤ a) (ha1 : a ≤ 9223372036854775807) (hb0 : -9223372036854775808 ≤ b) (hb1 : b ≤ 9223372036854775807) (hd0 : -9223372036854775808 ≤ d) (hd1 : d ≤ 9223372036854775807) :
    Does Tryz.prog 4 [iv a,iv b,iv d] w (fun v w' => v = .bool true ∧ Ext w w') := by
 refine startD (c := (bodyOf Tryz.f4)) Tryz.func4 rfl (by kernel_rfl) ?_
 show G _ 112 [] _ (kAt (bodyOf Tryz.f4) [] []) (stz [(0,iv a),(1,iv b),(2,iv d)]) w
 have hE1 : Ext w w := Ext.refl w
 have hM2 : Hold w w.heap.size [] := Hold.nil hE1.le
 refine sgz 6 [] (kOp (bodyOf Tryz.f4) [1,0] 0 []) [(0,iv a),(1,iv b),(2,iv d),(6,.bool false)] [] trivial ?_
 refine oss [] (.call 25 []) (some 22) (kOp (bodyOf Tryz.f4) [1,0] 1 []) [] trivial (runs_call E25 (awake4 w hG)) ?_
 rintro _ w1 ⟨rfl,hx1⟩
 have hE3 := hE1.trans hx1
 have hM4 := hM2.ext hx1
 refine sgz 5 [] (kOp (bodyOf Tryz.f4) [1,1,0] 1 []) [(1,iv b),(2,iv d),(6,.bool false),(7,.bool true),(23,iv a)] [] trivial ?_
 refine oss [] (.call 26 [iv a,iv (12 : Int)]) (some 24) (kOp (bodyOf Tryz.f4) [1,1,0] 2 []) [] trivial (runs_call E26 (pick4 a 12 w1 ha0 ha1 (by decide))) ?_
 rintro _ _ ⟨rfl,rfl⟩
 have hn := pickN_lt a (show 0 < 12 by decide)
 refine sgz 6 [] (kOp (bodyOf Tryz.f4) [1,1,1,0] 1 []) [(2,iv d),(6,.bool false),(7,.bool true),(8,iv ((2 + (pickN a 12):Nat):Int)),(26,iv b)] [I64 ((2 + (pickN a 12):Nat):Int)] (A1 (i64 (by omega))) ?_
 refine oss [] (.call 26 [iv b,iv (18 : Int)]) (some 27) (kOp (bodyOf Tryz.f4) [1,1,1,0] 2 []) [] trivial (runs_call E26 (pick4 b 18 w1 hb0 hb1 (by decide))) ?_
 rintro _ _ ⟨rfl,rfl⟩
 have hc := pickN_lt b (show 0 < 18 by decide)
 obtain ⟨n,hne⟩ : ∃ n,2 + pickN a 12 = n := ⟨_,rfl⟩
 obtain ⟨c,hce⟩ : ∃ c,pickN b 18 = c := ⟨_,rfl⟩
 refine sgz 16 [] (kAt (bodyOf Tryz.f4) (ro1 6 [0,1,0]) []) [(2,iv d),(6,.bool false),(7,.bool true),(8,iv ((2 + (pickN a 12):Nat):Int)),(9,iv ((pickN b 18:Nat):Int)),(10,sv ([112,114,111,116,111,99,111,108,32,118,101,99,116,111,114,59,32,102,97,105,108,117,114,101,115,32,48,59])),(11,iv (-1 : Int)),(12,iv (0 : Int))] [] trivial ?_
 rw [hne]
 rw [hce]
 rw [hce] at hc
 refine loopR (mnL1 w d n c) (k' := (kEnd (bodyOf Tryz.f4) (ro1 6 [0,1,0]) [])) (body := (cAt (bodyOf Tryz.f4) (ro1 6 [0,1,0,0]))) (by kernel_rfl) 0 [2,7,8,9,10,11,12] (by kernel_rfl) (⟨hE3,Nat.zero_le _⟩) ?_
 rintro i w2 ⟨K1,hi⟩
 have hml := mNodes_len i
 refine sgz 7 [] (kAt (cAt (bodyOf Tryz.f4) (ro1 6 [0,1,0,0])) [0,1] (.inv (LI 112 [] (mnL1 w d n c) i) :: (kEnd (bodyOf Tryz.f4) (ro1 6 [0,1,0]) []))) [(2,iv d),(7,.bool true),(8,iv ((n:Nat):Int)),(9,iv ((c:Nat):Int)),(10,sv (mNodes i)),(11,iv (atN i)),(12,iv ((i:Nat):Int)),(30,.bool (decide (((i:Nat):Int) < ((n:Nat):Int))))] [] trivial ?_
 refine brs (decide (((i:Nat):Int) < ((n:Nat):Int))) (kAt (cAt (bodyOf Tryz.f4) (ro1 6 [0,1,0,0])) [0,1,0] (.inv (LI 112 [] (mnL1 w d n c) i) :: (kEnd (bodyOf Tryz.f4) (ro1 6 [0,1,0]) []))) (kAt (cAt (bodyOf Tryz.f4) (ro1 6 [0,1,0,0])) [0,1,1] (.inv (LI 112 [] (mnL1 w d n c) i) :: (kEnd (bodyOf Tryz.f4) (ro1 6 [0,1,0]) []))) (((i:Nat):Int) < ((n:Nat):Int)) (iffDec) (fun h1 => ?_) (fun h1 => ?_)
 · generalize hKT : ((.inv (LI 112 [] (mnL1 w d n c) i) :: (kEnd (bodyOf Tryz.f4) (ro1 6 [0,1,0]) [])) : List Fr) = KT
   refine sgz 9 [] (kAt (cAt (bodyOf Tryz.f4) (ro1 6 [0,1,0,0])) [1,0,0,0,1] KT) [(2,iv d),(7,.bool true),(8,iv ((n:Nat):Int)),(9,iv ((c:Nat):Int)),(10,sv (mNodes i)),(11,iv (atN i)),(12,iv ((i:Nat):Int)),(34,.bool (decide (((i:Nat):Int) = (12 : Int))))] [] trivial ?_
   refine brs (decide (((i:Nat):Int) = (12 : Int))) (kAt (cAt (bodyOf Tryz.f4) (ro1 6 [0,1,0,0])) [1,0,0,0,1,0] KT) (kAt (cAt (bodyOf Tryz.f4) (ro1 6 [0,1,0,0])) [1,0,0,0,1,1] KT) (((i:Nat):Int) = (12 : Int)) (iffDec) (fun h2 => ?_) (fun h2 => ?_)
   · have hi12 : i = 12 := by omega
     refine sgz 11 [] (kOp (cAt (bodyOf Tryz.f4) (ro1 6 [0,1,0,0])) [1,0,0,1] 5 KT) [(2,iv d),(7,.bool true),(8,iv ((n:Nat):Int)),(9,iv ((c:Nat):Int)),(10,sv (mNodes i)),(11,iv (((mNodes i).length:Nat):Int)),(12,iv ((i:Nat):Int)),(38,sv ((mNodes i) ++ ([110,111,100,101,32]))),(41,.int .u8 ((97 + i:Nat):Int))] [(mNodes i).length + ([110,111,100,101,32]).length ≤ 9223372036854775807,I64 ((97 + i:Nat):Int),(0 ≤ ((97 + i:Nat):Int) ∧ ((97 + i:Nat):Int) ≤ 255)] (AC (by first | omega | (simp only [List.length_append,List.length_cons,List.length_nil]; omega)) (AC (i64 (by omega)) (A1 (by omega)))) ?_
     obtain ⟨e,he⟩ : ∃ e : UInt8,UInt8.ofNat (97 + i) = e := ⟨_,rfl⟩
     have hen : e.toNat = 97 + i := by rw [← he]; simp; omega
     have hr := Ext.refl w2
     refine oss [] (.bslice 41 1 [(0,.int .u8 ((97 + i:Nat):Int))]) (some 42) (kOp (cAt (bodyOf Tryz.f4) (ro1 6 [0,1,0,0])) [1,0,0,1] 6 KT) [] trivial (runs_bslice (cs := [.int .u8 ((97 + i:Nat):Int)]) (e := 5) (by kernel_rfl)) ?_
     rintro _ w3 ⟨b1,rfl,hN5⟩
     have hl6 : w2.heap.size ≤ b1 := by have := hr.le; have := hN5.lo; omega
     have hE7 := hr.trans hN5.ext
     have ho8 := hN5.own
     refine oss [] (.conv 41 9 (.slice (some ⟨b1,0,none⟩) 1 1)) (some 43) (kOp (cAt (bodyOf Tryz.f4) (ro1 6 [0,1,0,0])) [1,0,0,1] 7 KT) [] trivial (runs_conv_bytes (l := [e]) (e := 5) (by kernel_rfl) (by kernel_rfl) (by kernel_rfl) rfl (fun j hj => by have : j = 0 := (by omega); subst this; rw [List.getD_cons_zero,hen]; exact cell_of ho8 rfl)) ?_
     rintro _ _ ⟨rfl,rfl⟩
     refine sgz 10 [] KT [(2,iv d),(7,.bool true),(8,iv ((n:Nat):Int)),(9,iv ((c:Nat):Int)),(10,sv ((((mNodes i) ++ ([110,111,100,101,32])) ++ ([e])) ++ ([32,49,59]))),(11,iv (((mNodes i).length:Nat):Int)),(12,iv ((i + 1:Nat):Int))] [((mNodes i) ++ ([110,111,100,101,32])).length + ([e]).length ≤ 9223372036854775807,(((mNodes i) ++ ([110,111,100,101,32])) ++ ([e])).length + ([32,49,59]).length ≤ 9223372036854775807,I64 ((i + 1:Nat):Int)] (AC (by first | omega | (simp only [List.length_append,List.length_cons,List.length_nil]; omega)) (AC (by first | omega | (simp only [List.length_append,List.length_cons,List.length_nil]; omega)) (A1 (i64 (by omega))))) ?_
     refine stEq (st' := (stz [(2,iv d),(7,.bool true),(8,iv ((n:Nat):Int)),(9,iv ((c:Nat):Int)),(10,sv (mNodes (i + 1))),(11,iv (atN (i + 1))),(12,iv ((i + 1:Nat):Int))])) (by rw [← he,mNodes_step,hi12,atN_hit]) ?_
     subst hKT
     exact again (i + 1) [2,7,8,9,10,11,12] (by kernel_rfl) (⟨K1.trans hE7,by omega⟩) (show n - (i + 1) < n - i by omega)
   · have hi12 : i ≠ 12 := by omega
     refine sgz 7 [] (kOp (cAt (bodyOf Tryz.f4) (ro1 6 [0,1,0,0])) [1,0,0,1] 5 KT) [(2,iv d),(7,.bool true),(8,iv ((n:Nat):Int)),(9,iv ((c:Nat):Int)),(10,sv (mNodes i)),(11,iv (atN i)),(12,iv ((i:Nat):Int)),(38,sv ((mNodes i) ++ ([110,111,100,101,32]))),(41,.int .u8 ((97 + i:Nat):Int))] [(mNodes i).length + ([110,111,100,101,32]).length ≤ 9223372036854775807,I64 ((97 + i:Nat):Int),(0 ≤ ((97 + i:Nat):Int) ∧ ((97 + i:Nat):Int) ≤ 255)] (AC (by first | omega | (simp only [List.length_append,List.length_cons,List.length_nil]; omega)) (AC (i64 (by omega)) (A1 (by omega)))) ?_
     obtain ⟨e,he⟩ : ∃ e : UInt8,UInt8.ofNat (97 + i) = e := ⟨_,rfl⟩
     have hen : e.toNat = 97 + i := by rw [← he]; simp; omega
     have hr := Ext.refl w2
     refine oss [] (.bslice 41 1 [(0,.int .u8 ((97 + i:Nat):Int))]) (some 42) (kOp (cAt (bodyOf Tryz.f4) (ro1 6 [0,1,0,0])) [1,0,0,1] 6 KT) [] trivial (runs_bslice (cs := [.int .u8 ((97 + i:Nat):Int)]) (e := 5) (by kernel_rfl)) ?_
     rintro _ w3 ⟨b1,rfl,hN9⟩
     have hl10 : w2.heap.size ≤ b1 := by have := hr.le; have := hN9.lo; omega
     have hE11 := hr.trans hN9.ext
     have ho12 := hN9.own
     refine oss [] (.conv 41 9 (.slice (some ⟨b1,0,none⟩) 1 1)) (some 43) (kOp (cAt (bodyOf Tryz.f4) (ro1 6 [0,1,0,0])) [1,0,0,1] 7 KT) [] trivial (runs_conv_bytes (l := [e]) (e := 5) (by kernel_rfl) (by kernel_rfl) (by kernel_rfl) rfl (fun j hj => by have : j = 0 := (by omega); subst this; rw [List.getD_cons_zero,hen]; exact cell_of ho12 rfl)) ?_
     rintro _ _ ⟨rfl,rfl⟩
     refine sgz 10 [] KT [(2,iv d),(7,.bool true),(8,iv ((n:Nat):Int)),(9,iv ((c:Nat):Int)),(10,sv ((((mNodes i) ++ ([110,111,100,101,32])) ++ ([e])) ++ ([32,49,59]))),(11,iv (atN i)),(12,iv ((i + 1:Nat):Int))] [((mNodes i) ++ ([110,111,100,101,32])).length + ([e]).length ≤ 9223372036854775807,(((mNodes i) ++ ([110,111,100,101,32])) ++ ([e])).length + ([32,49,59]).length ≤ 9223372036854775807,I64 ((i + 1:Nat):Int)] (AC (by first | omega | (simp only [List.length_append,List.length_cons,List.length_nil]; omega)) (AC (by first | omega | (simp only [List.length_append,List.length_cons,List.length_nil]; omega)) (A1 (i64 (by omega))))) ?_
     refine stEq (st' := (stz [(2,iv d),(7,.bool true),(8,iv ((n:Nat):Int)),(9,iv ((c:Nat):Int)),(10,sv (mNodes (i + 1))),(11,iv (atN (i + 1))),(12,iv ((i + 1:Nat):Int))])) (by rw [← he,mNodes_step,atN_miss hi12]) ?_
     subst hKT
     exact again (i + 1) [2,7,8,9,10,11,12] (by kernel_rfl) (⟨K1.trans hE11,by omega⟩) (show n - (i + 1) < n - i by omega)
 · have hin : i = n := by omega
   subst hin
   refine sgz 13 [] (kAt (bodyOf Tryz.f4) (ro1 8 [0,1,0]) []) [(2,iv d),(7,.bool true),(9,iv ((c:Nat):Int)),(10,sv ((mNodes i) ++ ([100,101,115,116,32,120,32,97,116,32,97,59]))),(11,iv (atN i)),(13,iv (0 : Int))] [(mNodes i).length + ([100,101,115,116,32,120,32,97,116,32,97,59]).length ≤ 9223372036854775807] (A1 (by first | omega | (simp only [List.length_append,List.length_cons,List.length_nil]; omega))) ?_
   refine stEq (st' := (stz [(2,iv d),(7,.bool true),(9,iv ((c:Nat):Int)),(10,sv (mText i 0)),(11,iv (mAt i 0)),(13,iv (0 : Int))])) (by rw [mText_zero,mAt_zero]) ?_
   refine loopR (mnL2 w d i c) (k' := (kEnd (bodyOf Tryz.f4) (ro1 8 [0,1,0]) [])) (body := (cAt (bodyOf Tryz.f4) (ro1 8 [0,1,0,0]))) (by kernel_rfl) 0 [2,7,9,10,11,13] (by kernel_rfl) (⟨K1,Nat.zero_le _⟩) ?_
   rintro j w4 ⟨K2,hj⟩
   have hml2 := mText_len i j
   refine sgz 7 [] (kAt (cAt (bodyOf Tryz.f4) (ro1 8 [0,1,0,0])) [0,1] (.inv (LI 112 [] (mnL2 w d i c) j) :: (kEnd (bodyOf Tryz.f4) (ro1 8 [0,1,0]) []))) [(2,iv d),(7,.bool true),(9,iv ((c:Nat):Int)),(10,sv (mText i j)),(11,iv (mAt i j)),(13,iv ((j:Nat):Int)),(50,.bool (decide (((j:Nat):Int) < ((c:Nat):Int))))] [] trivial ?_
   refine brs (decide (((j:Nat):Int) < ((c:Nat):Int))) (kAt (cAt (bodyOf Tryz.f4) (ro1 8 [0,1,0,0])) [0,1,0] (.inv (LI 112 [] (mnL2 w d i c) j) :: (kEnd (bodyOf Tryz.f4) (ro1 8 [0,1,0]) []))) (kAt (cAt (bodyOf Tryz.f4) (ro1 8 [0,1,0,0])) [0,1,1] (.inv (LI 112 [] (mnL2 w d i c) j) :: (kEnd (bodyOf Tryz.f4) (ro1 8 [0,1,0]) []))) (((j:Nat):Int) < ((c:Nat):Int)) (iffDec) (fun h3 => ?_) (fun h3 => ?_)
   · generalize hKU : ((.inv (LI 112 [] (mnL2 w d i c) j) :: (kEnd (bodyOf Tryz.f4) (ro1 8 [0,1,0]) [])) : List Fr) = KU
     refine sgz 13 [.sym,.sym] (kAt (cAt (bodyOf Tryz.f4) (ro1 8 [0,1,0,0])) [1,0,0,0,1] KU) [(2,iv d),(7,.bool true),(9,iv ((c:Nat):Int)),(10,sv (mText i j)),(11,iv (mAt i j)),(13,iv ((j:Nat):Int)),(58,.bool ((decide (((j:Nat):Int) = (16 : Int))) && (decide ((mAt i j : Int) < (0 : Int)))))] [(decide (((j:Nat):Int) = (16 : Int))) = true → (decide (((j:Nat):Int) = (16 : Int))) = true,(decide (((j:Nat):Int) = (16 : Int))) = true → (decide (((j:Nat):Int) = (16 : Int))) = true] (AC (fun h => h) (A1 (fun h => h))) ?_
     refine brs ((decide (((j:Nat):Int) = (16 : Int))) && (decide ((mAt i j : Int) < (0 : Int)))) (kAt (cAt (bodyOf Tryz.f4) (ro1 8 [0,1,0,0])) [1,0,0,0,1,0] KU) (kAt (cAt (bodyOf Tryz.f4) (ro1 8 [0,1,0,0])) [1,0,0,0,1,1] KU) ((((j:Nat):Int) = (16 : Int)) ∧ ((mAt i j : Int) < (0 : Int))) ((iffAnd iffDec iffDec)) (fun h4 => ?_) (fun h4 => ?_)
     · have hj16 : j = 16 := by omega
       have hjm : mAt i 16 < 0 := by have := h4.2; rw [hj16] at this; exact this
       refine sgz 16 [] KU [(2,iv d),(7,.bool true),(9,iv ((c:Nat):Int)),(10,sv ((mText i j) ++ ([99,104,101,99,107,32,114,101,97,99,104,32,97,32,120,59]))),(11,iv (((mText i j).length:Nat):Int)),(13,iv ((j + 1:Nat):Int))] [(mText i j).length + ([99,104,101,99,107,32,114,101,97,99,104,32,97,32,120,59]).length ≤ 9223372036854775807,I64 ((j + 1:Nat):Int)] (AC (by simp only [List.length_cons,List.length_nil]; omega) (A1 (i64 (by omega)))) ?_
       refine stEq (st' := (stz [(2,iv d),(7,.bool true),(9,iv ((c:Nat):Int)),(10,sv (mText i (j + 1))),(11,iv (mAt i (j + 1))),(13,iv ((j + 1:Nat):Int))])) (by rw [mText_step,hj16,mAt_hit hjm]) ?_
       subst hKU
       exact again (j + 1) [2,7,9,10,11,13] (by kernel_rfl) (⟨K2,by omega⟩) (show c - (j + 1) < c - j by omega)
     · have hjm : ¬ (j = 16 ∧ mAt i j < 0) := fun h => h4 ⟨by omega,h.2⟩
       refine sgz 12 [] KU [(2,iv d),(7,.bool true),(9,iv ((c:Nat):Int)),(10,sv ((mText i j) ++ ([99,104,101,99,107,32,114,101,97,99,104,32,97,32,120,59]))),(11,iv (mAt i j)),(13,iv ((j + 1:Nat):Int))] [(mText i j).length + ([99,104,101,99,107,32,114,101,97,99,104,32,97,32,120,59]).length ≤ 9223372036854775807,I64 ((j + 1:Nat):Int)] (AC (by simp only [List.length_cons,List.length_nil]; omega) (A1 (i64 (by omega)))) ?_
       refine stEq (st' := (stz [(2,iv d),(7,.bool true),(9,iv ((c:Nat):Int)),(10,sv (mText i (j + 1))),(11,iv (mAt i (j + 1))),(13,iv ((j + 1:Nat):Int))])) (by rw [mText_step,mAt_miss hjm]) ?_
       subst hKU
       exact again (j + 1) [2,7,9,10,11,13] (by kernel_rfl) (⟨K2,by omega⟩) (show c - (j + 1) < c - j by omega)
   · have hjc : j = c := by omega
     subst hjc
     refine sgz 4 [] (kOp (bodyOf Tryz.f4) (ro1 9 [0]) 1 []) [(2,iv d),(7,.bool true),(11,iv (mAt i j)),(64,sv (mText i j))] [] trivial ?_
     have hlaw := many_law (n := i) (c := j) (by omega) (by omega) (by omega)
     have hP := Parse_any (mText i j) w4 (hG.ext K2)
     obtain ⟨e,m,hem⟩ : ∃ e m,(parseT (mText i j)).2 = (e,m) := ⟨_,_,rfl⟩
     rw [hem] at hlaw
     rw [show (parseT (mText i j)).2.1 = e by rw [hem],show (parseT (mText i j)).2.2 = m by rw [hem]] at hP
     have hM13 : Hold w4 w.heap.size [] := Hold.nil K2.le
     refine oss [] (.call 27 [sv (mText i j)]) (some 65) (kOp (bodyOf Tryz.f4) (ro1 9 [0]) 2 []) [] trivial (runs_call E27 (hP)) ?_
     rintro _ w5 ⟨q,rfl,hx5,_⟩
     have hE14 := K2.trans hx5
     have hM15 := hM13.ext hx5
     refine sgz 4 [] (kOp (bodyOf Tryz.f4) (ro1 9 [0]) 6 []) [(2,iv d),(7,.bool true),(11,iv (mAt i j)),(66,.agg #[iv ((parseT (mText i j)).1.proto),iv ((parseT (mText i j)).1.cap),iv ((parseT (mText i j)).1.k),.slice q.a1 ((parseT (mText i j)).1.nodes.length) q.c1,.slice q.a2 ((parseT (mText i j)).1.links.length) q.c2,.slice q.a3 ((parseT (mText i j)).1.dests.length) q.c3,.slice q.a4 ((parseT (mText i j)).1.checks.length) q.c4]),(67,iv e),(68,iv m)] [] trivial ?_
     refine oss [] (.alloc 29) (some 14) (kOp (bodyOf Tryz.f4) (ro1 9 [0]) 7 []) [] trivial (runs_alloc (z := .agg #[iv (0 : Int),iv (0 : Int),iv (0 : Int),.slice none 0 0,.slice none 0 0,.slice none 0 0,.slice none 0 0]) (by kernel_rfl)) ?_
     rintro _ w6 ⟨b1,rfl,hN16⟩
     have hE17 := hE14.trans hN16.ext
     have hM18 := hM15.new hN16
     refine oss [] (.store 29 (pt b1 0) (.agg #[iv ((parseT (mText i j)).1.proto),iv ((parseT (mText i j)).1.cap),iv ((parseT (mText i j)).1.k),.slice q.a1 ((parseT (mText i j)).1.nodes.length) q.c1,.slice q.a2 ((parseT (mText i j)).1.links.length) q.c2,.slice q.a3 ((parseT (mText i j)).1.dests.length) q.c3,.slice q.a4 ((parseT (mText i j)).1.checks.length) q.c4])) none (kOp (bodyOf Tryz.f4) (ro1 9 [0]) 8 []) [] trivial (runs_st (hM18.blk 0 rfl) (by kernel_rfl)) ?_
     rintro _ w7 hC19
     have hE20 := hM18.toExt hE17 hC19 0 rfl
     have hM21 := hM18.set 0 rfl hC19
     refine sgz 6 [] (kOp (bodyOf Tryz.f4) (ro1 10 [0]) 1 []) [(7,.bool true),(11,iv (mAt i j)),(15,iv e),(16,iv m),(69,iv d)] [] trivial ?_
     refine oss [] (.call 26 [iv d,iv (4 : Int)]) (some 70) (kOp (bodyOf Tryz.f4) (ro1 10 [0]) 2 []) [] trivial (runs_call E26 (pick4 d 4 w7 hd0 hd1 (by decide))) ?_
     rintro _ _ ⟨rfl,rfl⟩
     have hk := pickN_lt d (show 0 < 4 by decide)
     refine sgz 4 [] (kOp (bodyOf Tryz.f4) (ro1 11 [0]) 0 []) [(7,.bool true),(11,iv (mAt i j)),(15,iv e),(16,iv m),(17,iv ((pickN d 4:Nat):Int))] [] trivial ?_
     refine oss [] (.bslice 37 4 [(0,sv ([112,114,111,116,111,99,111,108,32,112,97,116,104,32,49,51,59])),(1,sv ([112,114,111,116,111,99,111,108,32,112,97,116,104,32,48,59])),(2,sv ([112,114,111,116,111,99,111,108,32,118,101,99,116,111,114,59,32,102,97,105,108,117,114,101,115,32,53,59])),(3,sv ([112,114,111,116,111,99,111,108,32,118,101,99,116,111,114,59,32,102,97,105,108,117,114,101,115,32,48,59,32,110,111,100,101,32,97,32,48,59]))]) (some 71) (kOp (bodyOf Tryz.f4) (ro1 11 [0]) 1 []) [] trivial (runs_bslice (cs := [sv ([112,114,111,116,111,99,111,108,32,112,97,116,104,32,49,51,59]),sv ([112,114,111,116,111,99,111,108,32,112,97,116,104,32,48,59]),sv ([112,114,111,116,111,99,111,108,32,118,101,99,116,111,114,59,32,102,97,105,108,117,114,101,115,32,53,59]),sv ([112,114,111,116,111,99,111,108,32,118,101,99,116,111,114,59,32,102,97,105,108,117,114,101,115,32,48,59,32,110,111,100,101,32,97,32,48,59])]) (e := 9) (by kernel_rfl)) ?_
     rintro _ w8 ⟨b2,rfl,hN22⟩
     have hE23 := hE20.trans hN22.ext
     have hM24 := hM21.new hN22
     refine sgz 8 [.ld (sv (manyBad.getD (pickN d 4) []))] (kOp (bodyOf Tryz.f4) (ro1 12 [0]) 1 []) [(7,.bool true),(11,iv (mAt i j)),(15,iv e),(16,iv m),(17,iv ((pickN d 4:Nat):Int)),(76,sv (manyBad.getD (pickN d 4) []))] [(0 ≤ ((pickN d 4:Nat):Int) ∧ ((pickN d 4:Nat):Int) < (4 : Int)),((some ⟨b2,0,none⟩) : Option Addr) = some ⟨b2,0,none⟩,w8.cell? ⟨b2,0 + (pickN d 4) * 1,none⟩ = some (sv (manyBad.getD (pickN d 4) []))] (AC (by omega) (AC rfl (A1 (bad_at (hM24.blk 0 rfl) hk)))) ?_
     have hP2 := Parse_any (manyBad.getD (pickN d 4) []) w8 (hG.ext hE23)
     rw [show (parseT (manyBad.getD (pickN d 4) [])).2.1 = 42 by rw [bad_law hk],show (parseT (manyBad.getD (pickN d 4) [])).2.2 = manyPos.getD (pickN d 4) 0 by rw [bad_law hk]] at hP2
     refine oss [] (.call 27 [sv (manyBad.getD (pickN d 4) [])]) (some 77) (kOp (bodyOf Tryz.f4) (ro1 12 [0]) 2 []) [] trivial (runs_call E27 (hP2)) ?_
     rintro _ w9 ⟨q2,rfl,hx9,_⟩
     have hE25 := hE23.trans hx9
     have hM26 := hM24.ext hx9
     refine sgz 4 [] (kOp (bodyOf Tryz.f4) (ro1 12 [0]) 6 []) [(7,.bool true),(11,iv (mAt i j)),(15,iv e),(16,iv m),(17,iv ((pickN d 4:Nat):Int)),(78,.agg #[iv ((parseT (manyBad.getD (pickN d 4) [])).1.proto),iv ((parseT (manyBad.getD (pickN d 4) [])).1.cap),iv ((parseT (manyBad.getD (pickN d 4) [])).1.k),.slice q2.a1 ((parseT (manyBad.getD (pickN d 4) [])).1.nodes.length) q2.c1,.slice q2.a2 ((parseT (manyBad.getD (pickN d 4) [])).1.links.length) q2.c2,.slice q2.a3 ((parseT (manyBad.getD (pickN d 4) [])).1.dests.length) q2.c3,.slice q2.a4 ((parseT (manyBad.getD (pickN d 4) [])).1.checks.length) q2.c4]),(79,iv (42 : Int)),(80,iv (manyPos.getD (pickN d 4) 0))] [] trivial ?_
     refine oss [] (.alloc 29) (some 19) (kOp (bodyOf Tryz.f4) (ro1 12 [0]) 7 []) [] trivial (runs_alloc (z := .agg #[iv (0 : Int),iv (0 : Int),iv (0 : Int),.slice none 0 0,.slice none 0 0,.slice none 0 0,.slice none 0 0]) (by kernel_rfl)) ?_
     rintro _ wa ⟨b3,rfl,hN27⟩
     have hE28 := hE25.trans hN27.ext
     have hM29 := hM26.new hN27
     refine oss [] (.store 29 (pt b3 0) (.agg #[iv ((parseT (manyBad.getD (pickN d 4) [])).1.proto),iv ((parseT (manyBad.getD (pickN d 4) [])).1.cap),iv ((parseT (manyBad.getD (pickN d 4) [])).1.k),.slice q2.a1 ((parseT (manyBad.getD (pickN d 4) [])).1.nodes.length) q2.c1,.slice q2.a2 ((parseT (manyBad.getD (pickN d 4) [])).1.links.length) q2.c2,.slice q2.a3 ((parseT (manyBad.getD (pickN d 4) [])).1.dests.length) q2.c3,.slice q2.a4 ((parseT (manyBad.getD (pickN d 4) [])).1.checks.length) q2.c4])) none (kOp (bodyOf Tryz.f4) (ro1 12 [0]) 8 []) [] trivial (runs_st (hM29.blk 0 rfl) (by kernel_rfl)) ?_
     rintro _ wb hC30
     have hE31 := hM29.toExt hE28 hC30 0 rfl
     have hM32 := hM29.set 0 rfl hC30
     refine sgz 10 [.exec] (kOp (bodyOf Tryz.f4) (ro1 13 [0,0]) 4 []) [(7,.bool true),(11,iv (mAt i j)),(15,iv e),(16,iv m),(17,iv ((pickN d 4:Nat):Int)),(83,.bool false),(84,iv (manyPos.getD (pickN d 4) 0))] [false = false] (A1 rfl) ?_
     refine oss [.exec] (.bslice 22 4 [(0,iv (14 : Int)),(1,iv (14 : Int)),(2,iv (26 : Int)),(3,iv (36 : Int))]) (some 85) (kOp (bodyOf Tryz.f4) (ro1 13 [0,0]) 5 []) [false = false] (A1 rfl) (runs_bslice (cs := [iv (14 : Int),iv (14 : Int),iv (26 : Int),iv (36 : Int)]) (e := 3) (by kernel_rfl)) ?_
     rintro _ wc ⟨b4,rfl,hN33⟩
     have hE34 := hE31.trans hN33.ext
     have hM35 := hM32.new hN33
     have kf36 : (!(decide ((manyPos.getD (pickN d 4) 0 : Int) = manyPos.getD (pickN d 4) 0))) = false := by rw [show (decide ((manyPos.getD (pickN d 4) 0 : Int) = manyPos.getD (pickN d 4) 0)) = true from decide_eq_true rfl]; first | done | rfl
     refine sgz 14 [.exec,.exec,.exec,.ld (iv (manyPos.getD (pickN d 4) 0)),.exec,.skip] (kAt (bodyOf Tryz.f4) (ro1 14 [0,1]) []) [(7,.bool true),(11,iv (mAt i j)),(15,iv e),(16,iv m),(92,.bool (decide ((0 : Int) ≤ mAt i j)))] [false = false,false = false,(0 ≤ ((pickN d 4:Nat):Int) ∧ ((pickN d 4:Nat):Int) < (4 : Int)),((some ⟨b4,0,none⟩) : Option Addr) = some ⟨b4,0,none⟩,false = false,wc.cell? ⟨b4,0 + (pickN d 4) * 1,none⟩ = some (iv (manyPos.getD (pickN d 4) 0)),false = false,(!(decide ((manyPos.getD (pickN d 4) 0 : Int) = manyPos.getD (pickN d 4) 0))) = false] (AC rfl (AC rfl (AC (by omega) (AC rfl (AC rfl (AC (pos_at (hM35.blk 0 rfl) hk) (AC rfl (A1 kf36)))))))) ?_
     refine brs (decide ((0 : Int) ≤ mAt i j)) (kAt (bodyOf Tryz.f4) (ro1 14 [0,1,0]) []) (kAt (bodyOf Tryz.f4) (ro1 14 [0,1,1]) []) ((0 : Int) ≤ mAt i j) (iffDec) (fun h5 => ?_) (fun h5 => ?_)
     · have hem2 : (e,m) = ((44 : Int),mAt i j) := by rw [if_pos (by omega)] at hlaw; exact hlaw
       obtain ⟨he,hm⟩ := Prod.mk.inj hem2
       refine sgz 14 [.exec,.exec,.sym,.sym,.sym] (kAt (bodyOf Tryz.f4) (ro1 14 [0,1,0,1]) []) [(6,.bool ((decide ((e : Int) = (44 : Int))) && (decide ((m : Int) = mAt i j)))),(7,.bool true),(15,iv e),(16,iv m)] [true = true,true = true,(decide ((e : Int) = (44 : Int))) = true → (decide ((e : Int) = (44 : Int))) = true,(decide ((e : Int) = (44 : Int))) = true → (decide ((e : Int) = (44 : Int))) = true,(decide ((e : Int) = (44 : Int))) = true → (decide ((e : Int) = (44 : Int))) = true] (AC rfl (AC rfl (AC (fun h => h) (AC (fun h => h) (A1 (fun h => h)))))) ?_
       exact retD (hs := []) (vs := [.bool ((decide ((e : Int) = (44 : Int))) && (decide ((m : Int) = mAt i j)))]) (ps := []) (by kernel_rfl) trivial (v := .bool ((decide ((e : Int) = (44 : Int))) && (decide ((m : Int) = mAt i j)))) rfl (⟨by simp [he,hm],hE34⟩)
     · have hem2 : (e,m) = ((0 : Int),(0 : Int)) := by rw [if_neg (by omega)] at hlaw; exact hlaw
       obtain ⟨he,hm⟩ := Prod.mk.inj hem2
       refine sgz 14 [.exec,.exec,.sym,.sym] (kAt (bodyOf Tryz.f4) (ro1 16 []) []) [(6,.bool ((decide ((e : Int) = (0 : Int))) && (decide ((m : Int) = (0 : Int)))))] [true = true,true = true,(decide ((e : Int) = (0 : Int))) = true → (decide ((e : Int) = (0 : Int))) = true,(decide ((e : Int) = (0 : Int))) = true → (decide ((e : Int) = (0 : Int))) = true] (AC rfl (AC rfl (AC (fun h => h) (A1 (fun h => h))))) ?_
       exact retD (hs := []) (vs := [.bool ((decide ((e : Int) = (0 : Int))) && (decide ((m : Int) = (0 : Int))))]) (ps := []) (by kernel_rfl) trivial (v := .bool ((decide ((e : Int) = (0 : Int))) && (decide ((m : Int) = (0 : Int))))) rfl (⟨by simp [he,hm],hE34⟩)

end Go.Proofs.YtjhgghpeapmgdaaGreatDoor
