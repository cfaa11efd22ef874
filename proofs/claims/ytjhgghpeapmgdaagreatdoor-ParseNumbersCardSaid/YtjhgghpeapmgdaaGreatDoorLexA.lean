/-
  LEX: contracts of the lexer's small functions, the references' among them.
-/
import Derived.Test.YtjhgghpeapmgdaaGreatDoorPlanE
import Derived.Test.YtjhgghpeapmgdaaGreatDoorMg1
import Derived.Test.YtjhgghpeapmgdaaGreatDoorMg2
namespace Go.Proofs.YtjhgghpeapmgdaaGreatDoor
open Go.Bk Go.Proofs

theorem E101 : Proofs.Enters Tryz.prog 101 := Proofs.enters_of Tryz.func101 (by kernel_rfl) rfl

theorem E102 : Proofs.Enters Tryz.prog 102 := Proofs.enters_of Tryz.func102 (by kernel_rfl) rfl

theorem E66 : Proofs.Enters Tryz.prog 66 := Proofs.enters_of Tryz.func66 (by kernel_rfl) rfl

theorem E67 : Proofs.Enters Tryz.prog 67 := Proofs.enters_of Tryz.func67 (by kernel_rfl) rfl

theorem E68 : Proofs.Enters Tryz.prog 68 := Proofs.enters_of Tryz.func68 (by kernel_rfl) rfl

theorem E69 : Proofs.Enters Tryz.prog 69 := Proofs.enters_of Tryz.func69 (by kernel_rfl) rfl

theorem E29 : Proofs.Enters Tryz.prog 29 := Proofs.enters_of Tryz.func29 (by kernel_rfl) rfl

set_option maxRecDepth 20000 in
theorem rletter_any (c : UInt8) (w : World)  :
    Does Tryz.prog 101 [.int .u8 (c.toNat:Int)] w (fun v w' => v = .bool (letterB c) ∧ w = w') := by
 refine startD (c := Y101) Tryz.func101 rfl (by kernel_rfl) ?_
 show G _ 17 [] _ (kAt Y101 [] []) (stz [(0,.int .u8 (c.toNat:Int))]) w
 refine sgz 22 [.sym,.sym,.sym,.sym,.sym,.sym,.sym,.sym] (kAt Y101 [1,1] []) [(2,.bool (((decide ((97 : Int) ≤ (c.toNat:Int))) && (decide ((c.toNat:Int) ≤ (122 : Int)))) || ((decide ((65 : Int) ≤ (c.toNat:Int))) && (decide ((c.toNat:Int) ≤ (90 : Int))))))] ((fun (z1 : Bool) => ((fun (z2 : Bool) => ((fun (z3 : Bool) => ([z2 = true → z2 = true,z2 = true → z2 = true,z1 = true → z1 = true,z1 = true → z1 = true,(z1 && z3) = true → (z1 && z3) = true,z1 = true → z1 = true,z1 = true → z3 = true → (z1 && z3) = true,z1 = true → z1 = true] : List Prop)) (decide ((65 : Int) ≤ (c.toNat:Int))))) (decide ((97 : Int) ≤ (c.toNat:Int))))) (!((decide ((97 : Int) ≤ (c.toNat:Int))) && (decide ((c.toNat:Int) ≤ (122 : Int)))))) (AC (fun h => h) (AC (fun h => h) (AC (fun h => h) (AC (fun h => h) (AC (fun h => h) (AC (fun h => h) (AC (by intro _; intro h; simp_all) (A1 (fun h => h))))))))) ?_
 exact ret1 (.bool (((decide ((97 : Int) ≤ (c.toNat:Int))) && (decide ((c.toNat:Int) ≤ (122 : Int)))) || ((decide ((65 : Int) ≤ (c.toNat:Int))) && (decide ((c.toNat:Int) ≤ (90 : Int)))))) (⟨rfl,rfl⟩)

set_option maxRecDepth 20000 in
theorem rdigit_any (c : UInt8) (w : World)  :
    Does Tryz.prog 102 [.int .u8 (c.toNat:Int)] w (fun v w' => v = .bool (digitB c) ∧ w = w') := by
 refine startD (c := Y102) Tryz.func102 rfl (by kernel_rfl) ?_
 show G _ 9 [] _ (kAt Y102 [] []) (stz [(0,.int .u8 (c.toNat:Int))]) w
 refine sgz 14 [.sym,.sym] (kAt Y102 [1,1] []) [(2,.bool ((decide ((48 : Int) ≤ (c.toNat:Int))) && (decide ((c.toNat:Int) ≤ (57 : Int)))))] ((fun (z1 : Bool) => ([z1 = true → z1 = true,z1 = true → z1 = true] : List Prop)) (decide ((48 : Int) ≤ (c.toNat:Int)))) (AC (fun h => h) (A1 (fun h => h))) ?_
 exact ret1 (.bool ((decide ((48 : Int) ≤ (c.toNat:Int))) && (decide ((c.toNat:Int) ≤ (57 : Int))))) (⟨rfl,rfl⟩)

set_option maxRecDepth 20000 in
theorem blank_any (c : UInt8) (w : World)  :
    Does Tryz.prog 95 [.int .u8 (c.toNat:Int)] w (fun v w' => v = .bool (blankB c) ∧ w = w') := by
 refine startD (c := Y95) Tryz.func95 rfl (by kernel_rfl) ?_
 show G _ 13 [] _ (kAt Y95 [] []) (stz [(0,.int .u8 (c.toNat:Int))]) w
 refine sgz 18 [.sym,.sym,.sym,.sym] (kAt Y95 [1,1] []) [(2,.bool (((decide ((c.toNat:Int) = (32 : Int))) || (decide ((c.toNat:Int) = (9 : Int)))) || (decide ((c.toNat:Int) = (10 : Int)))))] ((fun (z1 : Bool) => ((fun (z2 : Bool) => ([(!z1) = true → (!z1) = true,(!z1) = true → (!z1) = true,z2 = true → z2 = true,z2 = true → z2 = true] : List Prop)) (!(z1 || (decide ((c.toNat:Int) = (9 : Int))))))) (decide ((c.toNat:Int) = (32 : Int)))) (AC (fun h => h) (AC (fun h => h) (AC (fun h => h) (A1 (fun h => h))))) ?_
 exact ret1 (.bool (((decide ((c.toNat:Int) = (32 : Int))) || (decide ((c.toNat:Int) = (9 : Int)))) || (decide ((c.toNat:Int) = (10 : Int))))) (⟨rfl,rfl⟩)

set_option maxRecDepth 20000 in
theorem notLine_any (c : UInt8) (w : World)  :
    Does Tryz.prog 97 [.int .u8 (c.toNat:Int)] w (fun v w' => v = .bool (notLineB c) ∧ w = w') := by
 refine startD (c := Y97) Tryz.func97 rfl (by kernel_rfl) ?_
 show G _ 5 [] _ (kAt Y97 [] []) (stz [(0,.int .u8 (c.toNat:Int))]) w
 refine sg0 10 (kAt Y97 [1,1] []) [(2,.bool (!(decide ((c.toNat:Int) = (10 : Int)))))] ?_
 exact ret1 (.bool (!(decide ((c.toNat:Int) = (10 : Int))))) (⟨rfl,rfl⟩)

set_option maxRecDepth 20000 in
theorem rpart_any (c : UInt8) (w : World)  :
    Does Tryz.prog 66 [.int .u8 (c.toNat:Int)] w (fun v w' => v = .bool (partB c) ∧ w = w') := by
 refine startD (c := Y66) Tryz.func66 rfl (by kernel_rfl) ?_
 show G _ 17 [] _ (kAt Y66 [] []) (stz [(0,.int .u8 (c.toNat:Int))]) w
 refine sg0 7 (kOp Y66 [1,0] 1 []) [(0,.int .u8 (c.toNat:Int)),(2,.bool false),(3,.int .u8 (c.toNat:Int))] ?_
 refine os0 _ (some 4) (kOp Y66 [1,0] 2 []) (runs_call E101 (rletter_any c w)) ?_
 rintro v _ ⟨rfl,rfl⟩
 refine sgs 2 [.sym] [0,2,5,6] (kOp Y66 [1,0] 4 []) [(0,none,.int .u8 (c.toNat:Int)),(2,none,.bool false),(5,none,.bool (letterB c)),(6,some (!(letterB c)),.int .u8 (c.toNat:Int))] [] trivial ?_
 refine opCond (fun w' => w = w') (.bool (digitB c)) (e := .call 102 [.int .u8 (c.toNat:Int)]) (d := 7) (g := !(letterB c)) (k' := (kOp Y66 [1,0] 5 [])) (ps := [(!(letterB c)) = true → (!(letterB c)) = true]) (by kernel_rfl) (A1 (fun h => h)) (rfl) (fun hg => runs_call E102 ((rdigit_any c w).mono fun v w' ⟨h1,h2⟩ => ⟨h1,h2⟩)) ?_
 rintro _ rfl
 refine sgz 11 [.sym,.sym,.sym,.sym] (kAt Y66 [1,1] []) [(2,.bool ((((letterB c) || (digitB c)) || (decide ((c.toNat:Int) = (45 : Int)))) || (decide ((c.toNat:Int) = (95 : Int)))))] ((fun (z1 : Bool) => ((fun (z2 : Bool) => ([(!(letterB c)) = true → (!(letterB c)) = true,z2 = true → z2 = true,z2 = true → z2 = true,z1 = true → z1 = true,z1 = true → z1 = true] : List Prop)) (!((letterB c) || (digitB c))))) (!(((letterB c) || (digitB c)) || (decide ((c.toNat:Int) = (45 : Int)))))) (AC (fun h => h) (AC (fun h => h) (AC (fun h => h) (AC (fun h => h) (A1 (fun h => h)))))) ?_
 exact ret1 (.bool ((((letterB c) || (digitB c)) || (decide ((c.toNat:Int) = (45 : Int)))) || (decide ((c.toNat:Int) = (95 : Int))))) (⟨rfl,rfl⟩)

theorem bytesWorld_ext (w : World) (e : TypeId) (s : ByteArray) : Ext w (Lib.bytesWorld w e s) :=
  ⟨by simp [Lib.bytesWorld,World.freeze,World.alloc,World.drew,-World.alloc_eq,-World.drew_eq],by simp [Lib.bytesWorld,World.freeze,World.alloc,World.drew,-World.alloc_eq,-World.drew_eq],
    by simp [Lib.bytesWorld,World.freeze,World.alloc,World.drew,-World.alloc_eq,-World.drew_eq],by rw [Lib.bytesWorld_size]; omega,fun k hk => Lib.bytesWorld_at_old w e s k hk⟩
theorem hasPrefix_any (l p : Bytes) (w : World) : Does Tryz.prog 96 [.string (bs l),.string (bs p)] w fun v w' => v = .bool (Lib.hasPrefix l p) ∧ w = w' :=
  Does.of_calls (Tryz.strings_HasPrefix (bs l) (bs p) w) fun _ _ ⟨he,hw⟩ => ⟨_,he,rfl,hw.symm⟩
theorem atoi_any (l : Bytes) (hl : l.length ≤ 281474976710656) (w : World) (hG : Glob w) : Does Tryz.prog 124 [.string (bs l)] w fun v w' =>
    (∃ n,Lib.atoiAll l = .ok n ∧ v = .tuple #[.int .i64 n,.nilIface] ∧ Ext w w') ∨ ((∀ n,Lib.atoiAll l ≠ .ok n) ∧ ∃ n N,v = .tuple #[.int .i64 n,.iface 180 (.pointer (some ⟨N,0,none⟩))] ∧ Ext w w') := by
  have hs : (bs l).size = l.length := bs_size l
  cases h : Lib.atoiAll l
  · rename_i n
    refine Does.of_calls (Tryz.strconv_Atoi_ok (bs l) (by rw [hs]; omega) n h w) fun _ _ ⟨he,hw⟩ => ⟨_,he,.inl ⟨n,rfl,rfl,?_⟩⟩
    rcases hw with rfl | ⟨t,rfl⟩
    · exact Ext.refl _
    · exact bytesWorld_ext _ _ _
  · obtain ⟨tp,p,hv⟩ := hG.syn
    exact Does.of_calls (Tryz.strconv_Atoi_syntax_var (bs l) (by rw [hs]; omega) h tp p w hv) fun _ _ ⟨N,he,_,_,hb⟩ => ⟨_,he,.inr ⟨(fun n hn => by cases hn),_,N,rfl,hb⟩⟩
  · obtain ⟨tp,p,hv⟩ := hG.rng
    exact Does.of_calls (Tryz.strconv_Atoi_range_var (bs l) (by rw [hs]; omega) h tp p w hv) fun _ _ ⟨N,he,_,_,hb⟩ => ⟨_,he,.inr ⟨(fun n hn => by cases hn),_,N,rfl,hb⟩⟩

def skipLp (l : Bytes) (w : World) : Lp Bytes where
  S := fun m => [(0,none,sv m),(3,none,iv (l.length:Int))]
  J := fun m w' => w = w' ∧ m.length ≤ l.length ∧ skipL m = skipL l
  M := fun m => m.length
set_option maxRecDepth 20000 in
theorem skip_any (l : Bytes) (w : World) (hl : l.length ≤ 10000) :
    Does Tryz.prog 64 [sv l] w (fun v w' => v = .int .i64 ((l.length - (skipL l).length:Nat):Int) ∧ w = w') := by
 refine startD (c := Y64) Tryz.func64 rfl (by kernel_rfl) ?_
 show G _ 21 [] _ (kAt Y64 [] []) (stz [(0,sv l)]) w
 refine sg0 11 (kAt Y64 [1,1,0] []) [(0,sv l),(2,iv 0),(3,iv (((l).length:Nat):Int))] ?_
 refine loopR (skipLp l w) (k' := (kEnd Y64 [1,1,0] [])) (body := (cAt Y64 [1,1,0,0])) (by kernel_rfl) l [0,3] (by kernel_rfl) (⟨rfl,Nat.le_refl _,rfl⟩) ?_
 rintro m _ ⟨rfl,hm,hs⟩
 have hb := dropWhile_le blankB m
 have r1 := runLen_le blankB m
 refine sg0 5 (kOp (cAt Y64 [1,1,0,0]) [0,0] 2 (.inv (LI 21 [] (skipLp l w) m) :: (kEnd Y64 [1,1,0] []))) [(0,sv m),(3,iv (l.length:Int)),(6,sv m),(7,sv m)] ?_
 refine os0 _ (some 8) (kOp (cAt Y64 [1,1,0,0]) [0,0] 3 (.inv (LI 21 [] (skipLp l w) m) :: (kEnd Y64 [1,1,0] []))) (runs_call E94 (run_any blankB 95 m w E95 blank_any (by omega))) ?_
 rintro v _ ⟨rfl,rfl⟩
 refine sgz 7 [] (kOp (cAt Y64 [1,1,0,0]) [0,1,0,0] 1 (.inv (LI 21 [] (skipLp l w) m) :: (kEnd Y64 [1,1,0] []))) [(0,sv (m.drop (runLen blankB m))),(3,iv (l.length:Int)),(10,sv (m.drop (runLen blankB m)))] [(0 ≤ ((runLen blankB m:Nat):Int) ∧ ((runLen blankB m:Nat):Int) ≤ ((m).length : Int))] (A1 (by omega)) ?_
 rw [drop_runLen]
 refine os0 _ (some 11) (kOp (cAt Y64 [1,1,0,0]) [0,1,0,0] 2 (.inv (LI 21 [] (skipLp l w) m) :: (kEnd Y64 [1,1,0] []))) (runs_call E96 (hasPrefix_any (m.dropWhile blankB) [35] w)) ?_
 rintro v _ ⟨rfl,rfl⟩
 refine sg0 2 (kAt (cAt Y64 [1,1,0,0]) [0,1,0,1] (.inv (LI 21 [] (skipLp l w) m) :: (kEnd Y64 [1,1,0] []))) [(0,sv (m.dropWhile blankB)),(3,iv (l.length:Int)),(12,.bool (!(Lib.hasPrefix (m.dropWhile blankB) [35])))] ?_
 refine brk _ (¬ ((Lib.hasPrefix (m.dropWhile blankB) [35]) = true)) ((iffNot Iff.rfl)) (fun h => ?_) (fun h => ?_)
 ·have h : ¬ Lib.hasPrefix (m.dropWhile blankB) [35] = true := by simpa using h
  refine sgz 8 [] (kAt (cAt Y64 [1,1,0,0]) [0,1,0,1,0,1] (.inv (LI 21 [] (skipLp l w) m) :: (kEnd Y64 [1,1,0] []))) [(0,sv (m.dropWhile blankB)),(2,iv ((l.length:Int) - (((m.dropWhile blankB).length:Nat):Int))),(3,iv (l.length:Int))] [I64 ((l.length:Int) - (((m.dropWhile blankB).length:Nat):Int))] (A1 (i64 (by omega))) ?_
  exact ret1 (iv ((l.length:Int) - (((m.dropWhile blankB).length:Nat):Int))) (⟨by congr 1; rw [← hs,skipL_stop h]; omega,rfl⟩)
 have h : Lib.hasPrefix (m.dropWhile blankB) [35] = true := by simpa using h
 have r2 := runLen_le notLineB (m.dropWhile blankB)
 refine sg0 4 (kOp (cAt Y64 [1,1,0,0]) [0,1,1] 2 (.inv (LI 21 [] (skipLp l w) m) :: (kEnd Y64 [1,1,0] []))) [(0,sv (m.dropWhile blankB)),(3,iv (l.length:Int)),(17,sv (m.dropWhile blankB)),(18,sv (m.dropWhile blankB))] ?_
 refine os0 _ (some 19) (kOp (cAt Y64 [1,1,0,0]) [0,1,1] 3 (.inv (LI 21 [] (skipLp l w) m) :: (kEnd Y64 [1,1,0] []))) (runs_call E94 (run_any notLineB 97 (m.dropWhile blankB) w E97 notLine_any (by omega))) ?_
 rintro v _ ⟨rfl,rfl⟩
 refine sgz 4 [] (.inv (LI 21 [] (skipLp l w) m) :: (kEnd Y64 [1,1,0] [])) [(0,sv ((m.dropWhile blankB).drop (runLen notLineB (m.dropWhile blankB)))),(3,iv (l.length:Int))] [(0 ≤ ((runLen notLineB (m.dropWhile blankB):Nat):Int) ∧ ((runLen notLineB (m.dropWhile blankB):Nat):Int) ≤ ((m.dropWhile blankB).length : Int))] (A1 (by omega)) ?_
 rw [drop_runLen]
 exact again ((m.dropWhile blankB).dropWhile notLineB) [0,3] (by kernel_rfl) (⟨rfl,Nat.le_trans (dropWhile_le _ _) (Nat.le_trans hb hm),by rw [← hs,skipL_go h]⟩) (Nat.lt_of_lt_of_le (hash_lt h) hb)

theorem numI_none {l : Bytes} (h : ∀ n,Lib.atoiAll l ≠ .ok n) : Value.int .i64 (-1) = Value.int .i64 (numI l) := by
  congr 1
  unfold numI
  cases hx : Lib.atoiAll l
  · exact (h _ hx).elim
  · rfl
  · rfl

set_option maxRecDepth 20000 in
theorem Number_any (l : Bytes) (w : World) (hl : l.length ≤ 281474976710656) (hG : Glob w) :
    Does Tryz.prog 99 [sv l] w (fun v w' => v = .int .i64 (numI l) ∧ Ext w w') := by
 refine startD (c := Y99) Tryz.func99 rfl (by kernel_rfl) ?_
 show G _ 27 [] _ (kAt Y99 [] []) (stz [(0,sv l)]) w
 refine sg0 7 (kOp Y99 [1,0] 1 []) [(0,sv l),(2,iv 0),(6,sv l)] ?_
 refine os0 _ (some 7) (kOp Y99 [1,0] 2 []) (runs_call E124 (atoi_any l hl w hG)) ?_
 rintro _ w1 (⟨n,ha,rfl,hE⟩ | ⟨ha,n,N,rfl,hE⟩)
 ·refine sgs 21 [.exec,.exec,.sym,.sym,.sym] [0,2,3,20,21] (kOp Y99 [1,1,0,0] 12 []) [(0,none,sv l),(2,none,iv 0),(3,none,iv n),(20,none,.bool ((decide ((n : Int) < (0 : Int))) || (decide ((65535 : Int) < n)))),(21,some (!((decide ((n : Int) < (0 : Int))) || (decide ((65535 : Int) < n)))),iv n)] ((fun (z1 : Bool) => ([false = false,false = false,z1 = true → z1 = true,z1 = true → z1 = true] : List Prop)) (!(decide ((n : Int) < (0 : Int))))) (AC rfl (AC rfl (AC (fun h => h) (A1 (fun h => h))))) ?_
  by_cases h : ((n : Int) < (0 : Int)) ∨ ((65535 : Int) < n)
  ·refine sgz 10 [.skip,.skip,.skip,.exec] (kAt Y99 [1,1,0,1,0,1] []) [(2,iv (-1)),(3,iv n)] ((fun (z1 : Bool) => ([z1 = (!false),z1 = (!false),z1 = (!false),z1 = true,true = true] : List Prop)) ((decide ((n : Int) < (0 : Int))) || (decide ((65535 : Int) < n)))) (AC (by simpa using h) (AC (by simpa using h) (AC (by simpa using h) (AC (by simpa using h) (A1 rfl))))) ?_
   exact ret1 (iv (-1)) (⟨by congr 1; unfold numI; rw [ha]; exact (if_pos (by omega)).symm,hE⟩)
  refine oss [.exec] (.call 73 [iv n]) (some 22) (kOp Y99 [1,1,0,0] 13 []) [((decide ((n : Int) < (0 : Int))) || (decide ((65535 : Int) < n))) = false,(!((decide ((n : Int) < (0 : Int))) || (decide ((65535 : Int) < n)))) = true] (AC (by simpa using h) (A1 (by simp_all))) (runs_call E73 (itoa_any n (by omega) (by omega) w1 (hG.ext hE))) ?_
  rintro _ w2 ⟨rfl,hE2⟩
  refine sgz 4 [.exec,.exec] (kAt Y99 [1,1,0,1] []) [(2,iv 0),(3,iv n),(25,.bool (((decide ((n : Int) < (0 : Int))) || (decide ((65535 : Int) < n))) || (!(decide ((Lib.itoa n) = l)))))] ((fun (z1 : Bool) => ([z1 = false,z1 = false] : List Prop)) ((decide ((n : Int) < (0 : Int))) || (decide ((65535 : Int) < n)))) (AC (by simpa using h) (A1 (by simpa using h))) ?_
  refine brk _ ((((n : Int) < (0 : Int)) ∨ ((65535 : Int) < n)) ∨ (¬ ((Lib.itoa n) = l))) ((iffOr (iffOr iffDec iffDec) (iffNot iffDec))) (fun h2 => ?_) (fun h2 => ?_)
  ·refine sg0 4 (kAt Y99 [1,1,0,1,0,1] []) [(2,iv (-1)),(3,iv n)] ?_
   exact ret1 (iv (-1)) (⟨by congr 1; unfold numI; rw [ha]; exact (if_pos (by rcases h2 with (h2 | h2) | h2; exact .inl h2; exact .inr (.inl h2); exact .inr (.inr h2))).symm,hE.trans hE2⟩)
  refine sg0 6 (kAt Y99 (ro1 4 []) []) [(2,iv n)] ?_
  exact ret1 (iv n) (⟨by congr 1; unfold numI; rw [ha]; exact (if_neg (fun hx => h2 (by rcases hx with hx | hx | hx; exact .inl (.inl hx); exact .inl (.inr hx); exact .inr hx))).symm,hE.trans hE2⟩)
 refine sgz 31 [.skip,.skip,.skip,.skip,.skip,.skip,.skip,.skip,.exec] (kAt Y99 [1,1,0,1,0,1] []) [(2,iv (-1)),(3,iv n)] [true = (!false),true = (!false),true = true,true = (!false),true = (!false),true = true,true = (!false),true = (!false),true = (!false),true = (!false),true = true,true = true] (AC rfl (AC rfl (AC rfl (AC rfl (AC rfl (AC rfl (AC rfl (AC rfl (AC rfl (AC rfl (AC rfl (A1 rfl)))))))))))) ?_
 exact ret1 (iv (-1)) (⟨numI_none ha,hE⟩)

set_option maxRecDepth 20000 in
theorem first_any (l : Bytes) (w : World) (hl : l.length ≤ 10000) (hG : Glob w) :
    Does Tryz.prog 65 [sv l] w (fun v w' => v = .tuple #[.agg #[.int .i64 (firstT l).1.kind,.string (bs (firstT l).1.text),.int .i64 (firstT l).1.n,.int .i64 0],.bool (firstT l).2] ∧ Ext w w') := by
 refine startD (c := Y65) Tryz.func65 rfl (by kernel_rfl) ?_
 show G _ 33 [] _ (kAt Y65 [] []) (stz [(0,sv l)]) w
 have hE1 : Ext w w := Ext.refl w
 refine sg0 2 (kOp Y65 [0] 0 []) [(0,sv l)] ?_
 refine os0 (.alloc 49) (some 2) (kOp Y65 [0] 1 []) (runs_alloc (z := .agg #[iv 0,sv ([]),iv 0,iv 0]) (by kernel_rfl)) ?_
 rintro _ w1 ⟨b1,rfl,hN2⟩
 have hl3 : w.heap.size ≤ b1 := by have := hE1.le; have := hN2.lo; omega
 have hE4 := hE1.trans hN2.ext
 have ho5 := hN2.own
 refine sg0 8 (kAt Y65 [1,0,1] []) [(0,sv l),(2,pt b1 0),(3,.bool false),(6,.bool (decide (l = ([]))))] ?_
 refine brd (l = ([])) (fun h0 => ?_) (fun h0 => ?_)
 ·refine sg0 3 (kOp Y65 [1,0,1,0,0] 1 []) [(0,sv l),(2,pt b1 0),(3,.bool false),(7,.agg #[iv 4,sv ([]),iv 0,iv 0])] ?_
  refine os0 (.store 49 (pt b1 0) (.agg #[iv 4,sv ([]),iv 0,iv 0])) none (kOp Y65 [1,0,1,0,0] 2 []) (runs_st ho5 (by kernel_rfl)) ?_
  rintro _ w2 hC6
  have hE7 := hC6.ext hE4 hl3
  have ho8 := hC6.own
  refine sg0 2 (kAt Y65 [1,0,1,0,1] []) [(0,sv l),(2,pt b1 0),(3,.bool true)] ?_
  exact retD (hs := [.agg #[iv 4,sv ([]),iv 0,iv 0]]) (vs := [.agg #[iv 4,sv ([]),iv 0,iv 0],.bool true]) (ps := [w2.cell? ⟨b1,0,none⟩ = some (iv 4),w2.cell? ⟨b1,1,none⟩ = some (sv ([])),w2.cell? ⟨b1,2,none⟩ = some (iv 0),w2.cell? ⟨b1,3,none⟩ = some (iv 0)]) (by kernel_rfl) (AC (cell_of ho8 rfl) (AC (cell_of ho8 rfl) (AC (cell_of ho8 rfl) (A1 (cell_of ho8 rfl))))) (v := .tuple #[.agg #[iv 4,sv ([]),iv 0,iv 0],.bool true]) rfl (⟨by subst h0; rfl,hE7⟩)
 have hpos : 0 < l.length := List.length_pos_iff.2 h0
 refine sgz 8 [] (kAt Y65 [1,1,0,1] []) [(0,sv l),(2,pt b1 0),(3,.bool false),(10,.bool (decide ((((l.getD 0 0).toNat:Nat):Int) = (59 : Int))))] [(0 ≤ (0 : Int) ∧ (0 : Int) < ((l).length : Int))] (A1 (by omega)) ?_
 refine brd ((((l.getD 0 0).toNat:Nat):Int) = (59 : Int)) (fun h1 => ?_) (fun h1 => ?_)
 ·refine sgz 5 [] (kOp Y65 [1,1,0,1,0,0] 3 []) [(0,sv l),(2,pt b1 0),(3,.bool false),(13,.agg #[iv 3,sv (l.take 1),iv 0,iv 0])] [(0 ≤ (1 : Int) ∧ (1 : Int) ≤ ((l).length : Int))] (A1 (by omega)) ?_
  refine os0 (.store 49 (pt b1 0) (.agg #[iv 3,sv (l.take 1),iv 0,iv 0])) none (kOp Y65 [1,1,0,1,0,0] 4 []) (runs_st ho5 (by kernel_rfl)) ?_
  rintro _ w2 hC9
  have hE10 := hC9.ext hE4 hl3
  have ho11 := hC9.own
  refine sg0 2 (kAt Y65 [1,1,0,1,0,1] []) [(0,sv l),(2,pt b1 0),(3,.bool true)] ?_
  exact retD (hs := [.agg #[iv 3,sv (l.take 1),iv 0,iv 0]]) (vs := [.agg #[iv 3,sv (l.take 1),iv 0,iv 0],.bool true]) (ps := [w2.cell? ⟨b1,0,none⟩ = some (iv 3),w2.cell? ⟨b1,1,none⟩ = some (sv (l.take 1)),w2.cell? ⟨b1,2,none⟩ = some (iv 0),w2.cell? ⟨b1,3,none⟩ = some (iv 0)]) (by kernel_rfl) (AC (cell_of ho11 rfl) (AC (cell_of ho11 rfl) (AC (cell_of ho11 rfl) (A1 (cell_of ho11 rfl))))) (v := .tuple #[.agg #[iv 3,sv (l.take 1),iv 0,iv 0],.bool true]) rfl (⟨by unfold firstT; rw [if_neg h0,if_pos (by omega)],hE10⟩)
 refine sg0 5 (kOp Y65 [1,1,1,0] 2 []) [(0,sv l),(2,pt b1 0),(3,.bool false),(14,sv l),(15,sv l)] ?_
 have r1 := runLen_le partB l
 refine os0 _ (some 16) (kOp Y65 [1,1,1,0] 3 []) (runs_call E94 (run_any partB 98 l w1 E98 part_any (by omega))) ?_
 rintro _ _ ⟨rfl,rfl⟩
 refine sgz 7 [] (kOp Y65 (ro1 4 [0,0]) 1 []) [(0,sv (l.take (runLen partB l))),(2,pt b1 0),(3,.bool false),(18,sv (l.take (runLen partB l)))] [(0 ≤ ((runLen partB l:Nat):Int) ∧ ((runLen partB l:Nat):Int) ≤ ((l).length : Int))] (A1 (by omega)) ?_
 rw [take_runLen]
 have r2 : (l.takeWhile partB).length ≤ l.length := runLen_le partB l
 refine os0 _ (some 19) (kOp Y65 (ro1 4 [0,0]) 2 []) (runs_call E99 (Number_any (l.takeWhile partB) w1 (by omega) (hG.ext hE4))) ?_
 rintro _ w2 ⟨rfl,hx⟩
 have hE12 := hE4.trans hx
 have ho13 := hx.heap ho5
 refine sg0 7 (kAt Y65 (ro1 4 [0,1,1]) []) [(0,sv (l.takeWhile partB)),(2,pt b1 0),(3,.bool false),(4,iv (numI (l.takeWhile partB))),(21,.bool (decide ((0 : Int) ≤ numI (l.takeWhile partB))))] ?_
 refine brd ((0 : Int) ≤ numI (l.takeWhile partB)) (fun h2 => ?_) (fun h2 => ?_)
 ·refine sg0 5 (kOp Y65 (ro1 4 [0,1,1,0,0]) 3 []) [(0,sv (l.takeWhile partB)),(2,pt b1 0),(3,.bool false),(24,.agg #[iv 2,sv (l.takeWhile partB),iv (numI (l.takeWhile partB)),iv 0])] ?_
  refine os0 (.store 49 (pt b1 0) (.agg #[iv 2,sv (l.takeWhile partB),iv (numI (l.takeWhile partB)),iv 0])) none (kOp Y65 (ro1 4 [0,1,1,0,0]) 4 []) (runs_st ho13 (by kernel_rfl)) ?_
  rintro _ w3 hC14
  have hE15 := hC14.ext hE12 hl3
  have ho16 := hC14.own
  refine sg0 2 (kAt Y65 (ro1 4 [0,1,1,0,1]) []) [(0,sv (l.takeWhile partB)),(2,pt b1 0),(3,.bool true)] ?_
  exact retD (hs := [.agg #[iv 2,sv (l.takeWhile partB),iv (numI (l.takeWhile partB)),iv 0]]) (vs := [.agg #[iv 2,sv (l.takeWhile partB),iv (numI (l.takeWhile partB)),iv 0],.bool true]) (ps := [w3.cell? ⟨b1,0,none⟩ = some (iv 2),w3.cell? ⟨b1,1,none⟩ = some (sv (l.takeWhile partB)),w3.cell? ⟨b1,2,none⟩ = some (iv (numI (l.takeWhile partB))),w3.cell? ⟨b1,3,none⟩ = some (iv 0)]) (by kernel_rfl) (AC (cell_of ho16 rfl) (AC (cell_of ho16 rfl) (AC (cell_of ho16 rfl) (A1 (cell_of ho16 rfl))))) (v := .tuple #[.agg #[iv 2,sv (l.takeWhile partB),iv (numI (l.takeWhile partB)),iv 0],.bool true]) rfl (⟨by unfold firstT; rw [if_neg h0,if_neg (by omega)]; simp [h2],hE15⟩)
 refine sg0 6 (kOp Y65 (ro1 5 [0]) 3 []) [(0,sv (l.takeWhile partB)),(2,pt b1 0),(3,.bool false),(26,.agg #[iv 1,sv (l.takeWhile partB),iv 0,iv 0]),(27,sv (l.takeWhile partB))] ?_
 refine os0 _ (some 28) (kOp Y65 (ro1 5 [0]) 4 []) (runs_call E100 (Keyword_any (l.takeWhile partB) w2)) ?_
 rintro _ w3 ⟨rfl,hy⟩
 have hE17 := hE12.trans hy
 have ho18 := hy.heap ho13
 refine sgs 2 [.sym] [2,3,26,29,30] (kOp Y65 (ro1 5 [0]) 6 []) [(2,none,pt b1 0),(3,none,.bool false),(26,none,.agg #[iv 1,sv (l.takeWhile partB),iv 0,iv 0]),(29,none,.bool (kwB (l.takeWhile partB))),(30,some (!(kwB (l.takeWhile partB))),sv (l.takeWhile partB))] [] trivial ?_
 refine opCond (fun w' => Ext w3 w') (.bool (nameB (l.takeWhile partB))) (e := .call 81 [sv (l.takeWhile partB)]) (d := 31) (g := !(kwB (l.takeWhile partB))) (k' := (kOp Y65 (ro1 5 [0]) 7 [])) (ps := [(!(kwB (l.takeWhile partB))) = true → (!(kwB (l.takeWhile partB))) = true]) (by kernel_rfl) (A1 (fun h => h)) (Ext.refl w3) (fun hg => runs_call E81 (Name_any (l.takeWhile partB) w3 (by omega))) ?_
 rintro w4 hz
 have hE19 := hE17.trans hz
 have ho20 := hz.heap ho18
 refine sgz 1 [] (kOp Y65 (ro1 5 [0]) 8 []) [(2,pt b1 0),(3,.bool false),(26,.agg #[iv 1,sv (l.takeWhile partB),iv 0,iv 0]),(32,.bool ((kwB (l.takeWhile partB)) || (nameB (l.takeWhile partB))))] [(!(kwB (l.takeWhile partB))) = true → (!(kwB (l.takeWhile partB))) = true] (A1 (fun h => h)) ?_
 refine os0 (.store 49 (pt b1 0) (.agg #[iv 1,sv (l.takeWhile partB),iv 0,iv 0])) none (kOp Y65 (ro1 5 [0]) 9 []) (runs_st ho20 (by kernel_rfl)) ?_
 rintro _ w5 hC21
 have hE22 := hC21.ext hE19 hl3
 have ho23 := hC21.own
 refine sg0 2 (kAt Y65 (ro1 6 []) []) [(2,pt b1 0),(3,.bool ((kwB (l.takeWhile partB)) || (nameB (l.takeWhile partB))))] ?_
 exact retD (hs := [.agg #[iv 1,sv (l.takeWhile partB),iv 0,iv 0]]) (vs := [.agg #[iv 1,sv (l.takeWhile partB),iv 0,iv 0],.bool ((kwB (l.takeWhile partB)) || (nameB (l.takeWhile partB)))]) (ps := [w5.cell? ⟨b1,0,none⟩ = some (iv 1),w5.cell? ⟨b1,1,none⟩ = some (sv (l.takeWhile partB)),w5.cell? ⟨b1,2,none⟩ = some (iv 0),w5.cell? ⟨b1,3,none⟩ = some (iv 0)]) (by kernel_rfl) (AC (cell_of ho23 rfl) (AC (cell_of ho23 rfl) (AC (cell_of ho23 rfl) (A1 (cell_of ho23 rfl))))) (v := .tuple #[.agg #[iv 1,sv (l.takeWhile partB),iv 0,iv 0],.bool ((kwB (l.takeWhile partB)) || (nameB (l.takeWhile partB)))]) rfl (⟨by unfold firstT; rw [if_neg h0,if_neg (by omega)]; simp [h2],hE22⟩)

end Go.Proofs.YtjhgghpeapmgdaaGreatDoor
