/-
  LEX: contracts of the lexer's small functions, the references' among them.
-/
import Derived.Test.YtjhgghpeapmgdaaGreatDoorPlanE
import Derived.Test.YtjhgghpeapmgdaaGreatDoorMg1
import Derived.Test.YtjhgghpeapmgdaaGreatDoorLz
import Derived.Test.YtjhgghpeapmgdaaGreatDoorMg2
namespace Go.Proofs.YtjhgghpeapmgdaaGreatDoor
open Go.Bk Go.Proofs

theorem E101 : Proofs.Enters Tryz.prog 101 := Proofs.enters_of Tryz.func101 (by kernel_rfl) rfl

theorem E102 : Proofs.Enters Tryz.prog 102 := Proofs.enters_of Tryz.func102 (by kernel_rfl) rfl

theorem E66 : Proofs.Enters Tryz.prog 66 := Proofs.enters_of Tryz.func66 (by kernel_rfl) rfl

theorem E67 : Proofs.Enters Tryz.prog 67 := Proofs.enters_of Tryz.func67 (by kernel_rfl) rfl

theorem E68 : Proofs.Enters Tryz.prog 68 := Proofs.enters_of Tryz.func68 (by kernel_rfl) rfl

theorem E69 : Proofs.Enters Tryz.prog 69 := Proofs.enters_of Tryz.func69 (by kernel_rfl) rfl

theorem E29 : Proofs.Enters Tryz.prog 29 := Proofs.enters_of Tryz.func29 (by kernel_rfl) rfl

set_option maxRecDepth 20000 in
theorem rletter_any (c : UInt8) (w : World)  :
    Does Tryz.prog 101 [.int .u8 (c.toNat:Int)] w (fun v w' => v = .bool (letterB c) ∧ w = w') := by
 refine startZ (c := Y101) Tryz.func101 rfl (by kernel_rfl) ?_
 show H _ 17 [] _ (kAt Y101 [] []) (stz [(0,.int .u8 (c.toNat:Int))]) w
 refine Zi 22 [.gn 0,.gn 0,.gn 1,.gn 1,.gn 2,.gn 1,.p (fun _ => (!((decide ((97 : Int) ≤ (c.toNat:Int))) && (decide ((c.toNat:Int) ≤ (122 : Int))))) = true → (decide ((65 : Int) ≤ (c.toNat:Int))) = true → ((!((decide ((97 : Int) ≤ (c.toNat:Int))) && (decide ((c.toNat:Int) ≤ (122 : Int))))) && (decide ((65 : Int) ≤ (c.toNat:Int)))) = true),.gn 1,.y,.y,.y,.y,.y,.y,.y,.y] [] trivial [decide ((97 : Int) ≤ (c.toNat:Int)),!((decide ((97 : Int) ≤ (c.toNat:Int))) && (decide ((c.toNat:Int) ≤ (122 : Int)))),(!((decide ((97 : Int) ≤ (c.toNat:Int))) && (decide ((c.toNat:Int) ≤ (122 : Int))))) && (decide ((65 : Int) ≤ (c.toNat:Int)))] (A1 (by intro _; intro h; simp_all)) ?_
 exact Z1 0 (.bool (((decide ((97 : Int) ≤ (c.toNat:Int))) && (decide ((c.toNat:Int) ≤ (122 : Int)))) || ((decide ((65 : Int) ≤ (c.toNat:Int))) && (decide ((c.toNat:Int) ≤ (90 : Int)))))) (⟨rfl,rfl⟩)

set_option maxRecDepth 20000 in
theorem rdigit_any (c : UInt8) (w : World)  :
    Does Tryz.prog 102 [.int .u8 (c.toNat:Int)] w (fun v w' => v = .bool (digitB c) ∧ w = w') := by
 refine startZ (c := Y102) Tryz.func102 rfl (by kernel_rfl) ?_
 show H _ 9 [] _ (kAt Y102 [] []) (stz [(0,.int .u8 (c.toNat:Int))]) w
 refine Zi 14 [.gn 0,.gn 0,.y,.y] [] trivial [decide ((48 : Int) ≤ (c.toNat:Int))] trivial ?_
 exact Z1 0 (.bool ((decide ((48 : Int) ≤ (c.toNat:Int))) && (decide ((c.toNat:Int) ≤ (57 : Int))))) (⟨rfl,rfl⟩)

set_option maxRecDepth 20000 in
theorem blank_any (c : UInt8) (w : World)  :
    Does Tryz.prog 95 [.int .u8 (c.toNat:Int)] w (fun v w' => v = .bool (blankB c) ∧ w = w') := by
 refine startZ (c := Y95) Tryz.func95 rfl (by kernel_rfl) ?_
 show H _ 13 [] _ (kAt Y95 [] []) (stz [(0,.int .u8 (c.toNat:Int))]) w
 refine Zi 18 [.gn 0,.gn 0,.gn 1,.gn 1,.y,.y,.y,.y] [] trivial [!(decide ((c.toNat:Int) = (32 : Int))),!((decide ((c.toNat:Int) = (32 : Int))) || (decide ((c.toNat:Int) = (9 : Int))))] trivial ?_
 exact Z1 0 (.bool (((decide ((c.toNat:Int) = (32 : Int))) || (decide ((c.toNat:Int) = (9 : Int)))) || (decide ((c.toNat:Int) = (10 : Int))))) (⟨rfl,rfl⟩)

set_option maxRecDepth 20000 in
theorem notLine_any (c : UInt8) (w : World)  :
    Does Tryz.prog 97 [.int .u8 (c.toNat:Int)] w (fun v w' => v = .bool (notLineB c) ∧ w = w') := by
 refine startZ (c := Y97) Tryz.func97 rfl (by kernel_rfl) ?_
 show H _ 5 [] _ (kAt Y97 [] []) (stz [(0,.int .u8 (c.toNat:Int))]) w
 exact Z1 10 (.bool (!(decide ((c.toNat:Int) = (10 : Int))))) (⟨rfl,rfl⟩)

set_option maxRecDepth 20000 in
theorem rpart_any (c : UInt8) (w : World)  :
    Does Tryz.prog 66 [.int .u8 (c.toNat:Int)] w (fun v w' => v = .bool (partB c) ∧ w = w') := by
 refine startZ (c := Y66) Tryz.func66 rfl (by kernel_rfl) ?_
 show H _ 17 [] _ (kAt Y66 [] []) (stz [(0,.int .u8 (c.toNat:Int))]) w
 refine Zl 7 E101 (rletter_any c w) ?_
 rintro v _ ⟨rfl,rfl⟩
 refine Zs 2 [.sym] [] trivial ?_
 refine ZCond (fun w' => w = w') (.bool (digitB c)) (e := .call 102 [.int .u8 (c.toNat:Int)]) (d := 7) (g := !(letterB c)) (k' := (kOp Y66 [1,0] 5 [])) (ps := [(!(letterB c)) = true → (!(letterB c)) = true]) (by kernel_rfl) (A1 (fun h => h)) (rfl) (fun hg => runs_call E102 ((rdigit_any c w).mono fun v w' ⟨h1,h2⟩ => ⟨h1,h2⟩)) ?_
 rintro _ rfl
 refine Zi 11 [.gn 0,.gn 1,.gn 1,.gn 2,.gn 2,.y,.y,.y,.y] [] trivial [!(letterB c),!((letterB c) || (digitB c)),!(((letterB c) || (digitB c)) || (decide ((c.toNat:Int) = (45 : Int))))] trivial ?_
 exact Z1 0 (.bool ((((letterB c) || (digitB c)) || (decide ((c.toNat:Int) = (45 : Int)))) || (decide ((c.toNat:Int) = (95 : Int))))) (⟨rfl,rfl⟩)

theorem bytesWorld_ext (w : World) (e : TypeId) (s : ByteArray) : Ext w (Lib.bytesWorld w e s) :=
  ⟨by simp [Lib.bytesWorld,World.freeze,World.alloc,World.drew,-World.alloc_eq,-World.drew_eq],by simp [Lib.bytesWorld,World.freeze,World.alloc,World.drew,-World.alloc_eq,-World.drew_eq],
    by simp [Lib.bytesWorld,World.freeze,World.alloc,World.drew,-World.alloc_eq,-World.drew_eq],by rw [Lib.bytesWorld_size]; omega,fun k hk => Lib.bytesWorld_at_old w e s k hk⟩
theorem hasPrefix_any (l p : Bytes) (w : World) : Does Tryz.prog 96 [.string (bs l),.string (bs p)] w fun v w' => v = .bool (Lib.hasPrefix l p) ∧ w = w' :=
  Does.of_calls (Tryz.strings_HasPrefix (bs l) (bs p) w) fun _ _ ⟨he,hw⟩ => ⟨_,he,rfl,hw.symm⟩
theorem atoi_any (l : Bytes) (hl : l.length ≤ 281474976710656) (w : World) (hG : Glob w) : Does Tryz.prog 124 [.string (bs l)] w fun v w' =>
    (∃ n,Lib.atoiAll l = .ok n ∧ v = .tuple #[.int .i64 n,.nilIface] ∧ Ext w w') ∨ ((∀ n,Lib.atoiAll l ≠ .ok n) ∧ ∃ n N,v = .tuple #[.int .i64 n,.iface 180 (.pointer (some ⟨N,0,none⟩))] ∧ Ext w w') := by
  have hs : (bs l).size = l.length := bs_size l
  cases h : Lib.atoiAll l
  · rename_i n
    refine Does.of_calls (Tryz.strconv_Atoi_ok (bs l) (by rw [hs]; omega) n h w) fun _ _ ⟨he,hw⟩ => ⟨_,he,.inl ⟨n,rfl,rfl,?_⟩⟩
    rcases hw with rfl | ⟨t,rfl⟩
    · exact Ext.refl _
    · exact bytesWorld_ext _ _ _
  · obtain ⟨tp,p,hv⟩ := hG.syn
    exact Does.of_calls (Tryz.strconv_Atoi_syntax_var (bs l) (by rw [hs]; omega) h tp p w hv) fun _ _ ⟨N,he,_,_,hb⟩ => ⟨_,he,.inr ⟨(fun n hn => by cases hn),_,N,rfl,hb⟩⟩
  · obtain ⟨tp,p,hv⟩ := hG.rng
    exact Does.of_calls (Tryz.strconv_Atoi_range_var (bs l) (by rw [hs]; omega) h tp p w hv) fun _ _ ⟨N,he,_,_,hb⟩ => ⟨_,he,.inr ⟨(fun n hn => by cases hn),_,N,rfl,hb⟩⟩

def skipLp (l : Bytes) (w : World) : Lp Bytes where
  S := fun m => [(0,none,sv m),(3,none,iv (l.length:Int))]
  J := fun m w' => w = w' ∧ m.length ≤ l.length ∧ skipL m = skipL l
  M := fun m => m.length
set_option maxRecDepth 20000 in
theorem skip_any (l : Bytes) (w : World) (hl : l.length ≤ 10000) :
    Does Tryz.prog 64 [sv l] w (fun v w' => v = .int .i64 ((l.length - (skipL l).length:Nat):Int) ∧ w = w') := by
 refine startZ (c := Y64) Tryz.func64 rfl (by kernel_rfl) ?_
 show H _ 21 [] _ (kAt Y64 [] []) (stz [(0,sv l)]) w
 refine Zs 11 [] [] trivial ?_
 refine ZLoop (skipLp l w) (k' := (kEnd Y64 [1,1,0] [])) (body := (cAt Y64 [1,1,0,0])) (by kernel_rfl) l [0,3] (by kernel_rfl) (⟨rfl,Nat.le_refl _,rfl⟩) ?_
 rintro m _ ⟨rfl,hm,hs⟩
 have hb := dropWhile_le blankB m
 have r1 := runLen_le blankB m
 refine Zl 5 E94 (run_any blankB 95 m w E95 blank_any (by omega)) ?_
 rintro v _ ⟨rfl,rfl⟩
 refine Zs 7 [] [(0 ≤ ((runLen blankB m:Nat):Int) ∧ ((runLen blankB m:Nat):Int) ≤ ((m).length : Int))] (A1 (by omega)) ?_
 refine Zw 0 0 (sv (m.drop (runLen blankB m))) (sv (m.dropWhile blankB)) (by rw [drop_runLen]) ?_
 refine Zw 0 10 (sv (m.drop (runLen blankB m))) (sv (m.dropWhile blankB)) (by rw [drop_runLen]) ?_
 refine Zl 0 E96 (hasPrefix_any (m.dropWhile blankB) [35] w) ?_
 rintro v _ ⟨rfl,rfl⟩
 refine Zr 2 _ (¬ ((Lib.hasPrefix (m.dropWhile blankB) [35]) = true)) ((iffNot Iff.rfl)) (fun h => ?_) (fun h => ?_)
 ·have h : ¬ Lib.hasPrefix (m.dropWhile blankB) [35] = true := by simpa using h
  refine Zs 8 [] [I64 ((l.length:Int) - (((m.dropWhile blankB).length:Nat):Int))] (A1 (i64 (by omega))) ?_
  exact Z1 0 (iv ((l.length:Int) - (((m.dropWhile blankB).length:Nat):Int))) (⟨by congr 1; rw [← hs,skipL_stop h]; omega,rfl⟩)
 have h : Lib.hasPrefix (m.dropWhile blankB) [35] = true := by simpa using h
 have r2 := runLen_le notLineB (m.dropWhile blankB)
 refine Zl 4 E94 (run_any notLineB 97 (m.dropWhile blankB) w E97 notLine_any (by omega)) ?_
 rintro v _ ⟨rfl,rfl⟩
 refine Zs 4 [] [(0 ≤ ((runLen notLineB (m.dropWhile blankB):Nat):Int) ∧ ((runLen notLineB (m.dropWhile blankB):Nat):Int) ≤ ((m.dropWhile blankB).length : Int))] (A1 (by omega)) ?_
 refine Zw 0 0 (sv ((m.dropWhile blankB).drop (runLen notLineB (m.dropWhile blankB)))) (sv ((m.dropWhile blankB).dropWhile notLineB)) (by rw [drop_runLen]) ?_
 exact ZA 0 (skipLp l w) m ((m.dropWhile blankB).dropWhile notLineB) [0,3] (⟨rfl,Nat.le_trans (dropWhile_le _ _) (Nat.le_trans hb hm),by rw [← hs,skipL_go h]⟩) (Nat.lt_of_lt_of_le (hash_lt h) hb)

theorem numI_none {l : Bytes} (h : ∀ n,Lib.atoiAll l ≠ .ok n) : Value.int .i64 (-1) = Value.int .i64 (numI l) := by
  congr 1
  unfold numI
  cases hx : Lib.atoiAll l
  · exact (h _ hx).elim
  · rfl
  · rfl

set_option maxRecDepth 20000 in
theorem Number_any (l : Bytes) (w : World) (hl : l.length ≤ 281474976710656) (hG : Glob w) :
    Does Tryz.prog 99 [sv l] w (fun v w' => v = .int .i64 (numI l) ∧ Ext w w') := by
 refine startZ (c := Y99) Tryz.func99 rfl (by kernel_rfl) ?_
 show H _ 27 [] _ (kAt Y99 [] []) (stz [(0,sv l)]) w
 refine Zl 7 E124 (atoi_any l hl w hG) ?_
 rintro _ w1 (⟨n,ha,rfl,hE⟩ | ⟨ha,n,N,rfl,hE⟩)
 ·refine Zi 21 [.xf,.xf,.gn 0,.gn 0,.y,.y,.y] [] trivial [!(decide ((n : Int) < (0 : Int)))] trivial ?_
  by_cases h : ((n : Int) < (0 : Int)) ∨ ((65535 : Int) < n)
  ·refine Zi 10 [.sg 0,.sg 0,.sg 0,.p (fun _ => ((decide ((n : Int) < (0 : Int))) || (decide ((65535 : Int) < n))) = true),.xt] [((decide ((n : Int) < (0 : Int))) || (decide ((65535 : Int) < n))) = (!false)] (A1 (by simpa using h)) [] (A1 (by simpa using h)) ?_
   exact Z1 0 (iv (-1)) (⟨by congr 1; unfold numI; rw [ha]; exact (if_pos (by omega)).symm,hE⟩)
  refine Zo 0 [.exec] _ [((decide ((n : Int) < (0 : Int))) || (decide ((65535 : Int) < n))) = false,(!((decide ((n : Int) < (0 : Int))) || (decide ((65535 : Int) < n)))) = true] (AC (by simpa using h) (A1 (by simp_all))) (runs_call E73 (itoa_any n (by omega) (by omega) w1 (hG.ext hE))) ?_
  rintro _ w2 ⟨rfl,hE2⟩
  refine Zi 4 [.xg 0,.xg 0] [((decide ((n : Int) < (0 : Int))) || (decide ((65535 : Int) < n))) = false] (A1 (by simpa using h)) [] trivial ?_
  refine Zr 0 _ ((((n : Int) < (0 : Int)) ∨ ((65535 : Int) < n)) ∨ (¬ ((Lib.itoa n) = l))) ((iffOr (iffOr iffDec iffDec) (iffNot iffDec))) (fun h2 => ?_) (fun h2 => ?_)
  ·exact Z1 4 (iv (-1)) (⟨by congr 1; unfold numI; rw [ha]; exact (if_pos (by rcases h2 with (h2 | h2) | h2; exact .inl h2; exact .inr (.inl h2); exact .inr (.inr h2))).symm,hE.trans hE2⟩)
  exact Z1 6 (iv n) (⟨by congr 1; unfold numI; rw [ha]; exact (if_neg (fun hx => h2 (by rcases hx with hx | hx | hx; exact .inl (.inl hx); exact .inl (.inr hx); exact .inr hx))).symm,hE.trans hE2⟩)
 refine Zi 31 [.st,.st,.st,.st,.st,.st,.st,.st,.xt,.g 0,.g 1,.g 1] [true = (!false),true = true] (AC rfl (A1 rfl)) [] trivial ?_
 exact Z1 0 (iv (-1)) (⟨numI_none ha,hE⟩)

set_option maxRecDepth 20000 in
theorem first_any (l : Bytes) (w : World) (hl : l.length ≤ 10000) (hG : Glob w) :
    Does Tryz.prog 65 [sv l] w (fun v w' => v = .tuple #[.agg #[.int .i64 (firstT l).1.kind,.string (bs (firstT l).1.text),.int .i64 (firstT l).1.n,.int .i64 0],.bool (firstT l).2] ∧ Ext w w') := by
 refine startZ (c := Y65) Tryz.func65 rfl (by kernel_rfl) ?_
 show H _ 33 [] _ (kAt Y65 [] []) (stz [(0,sv l)]) w
 have hE1 : Ext w w := Ext.refl w
 refine Z0 2 (.alloc 49) (runs_alloc (z := .agg #[iv 0,sv ([]),iv 0,iv 0]) (by kernel_rfl)) ?_
 rintro _ w1 ⟨b1,rfl,hN2⟩
 have hl3 : w.heap.size ≤ b1 := by have := hE1.le; have := hN2.lo; omega
 have hE4 := hE1.trans hN2.ext
 have ho5 := hN2.own
 refine Zq 8 (l = ([])) (fun h0 => ?_) (fun h0 => ?_)
 ·refine Z0 3 (.store 49 (pt b1 0) (.agg #[iv 4,sv ([]),iv 0,iv 0])) (runs_st ho5 (by kernel_rfl)) ?_
  rintro _ w2 hC6
  have hE7 := hC6.ext hE4 hl3
  have ho8 := hC6.own
  exact Ze 2 [.agg #[iv 4,sv ([]),iv 0,iv 0]] [.agg #[iv 4,sv ([]),iv 0,iv 0],.bool true] [w2.cell? ⟨b1,0,none⟩ = some (iv 4),w2.cell? ⟨b1,1,none⟩ = some (sv ([])),w2.cell? ⟨b1,2,none⟩ = some (iv 0),w2.cell? ⟨b1,3,none⟩ = some (iv 0)] (AC (cell_of ho8 rfl) (AC (cell_of ho8 rfl) (AC (cell_of ho8 rfl) (A1 (cell_of ho8 rfl))))) (v := .tuple #[.agg #[iv 4,sv ([]),iv 0,iv 0],.bool true]) rfl (⟨by subst h0; rfl,hE7⟩)
 have hpos : 0 < l.length := List.length_pos_iff.2 h0
 refine Zs 8 [] [(0 ≤ (0 : Int) ∧ (0 : Int) < ((l).length : Int))] (A1 (by omega)) ?_
 refine Zq 0 ((((l.getD 0 0).toNat:Nat):Int) = (59 : Int)) (fun h1 => ?_) (fun h1 => ?_)
 ·refine Zs 5 [] [(0 ≤ (1 : Int) ∧ (1 : Int) ≤ ((l).length : Int))] (A1 (by omega)) ?_
  refine Z0 0 (.store 49 (pt b1 0) (.agg #[iv 3,sv (l.take 1),iv 0,iv 0])) (runs_st ho5 (by kernel_rfl)) ?_
  rintro _ w2 hC9
  have hE10 := hC9.ext hE4 hl3
  have ho11 := hC9.own
  exact Ze 2 [.agg #[iv 3,sv (l.take 1),iv 0,iv 0]] [.agg #[iv 3,sv (l.take 1),iv 0,iv 0],.bool true] [w2.cell? ⟨b1,0,none⟩ = some (iv 3),w2.cell? ⟨b1,1,none⟩ = some (sv (l.take 1)),w2.cell? ⟨b1,2,none⟩ = some (iv 0),w2.cell? ⟨b1,3,none⟩ = some (iv 0)] (AC (cell_of ho11 rfl) (AC (cell_of ho11 rfl) (AC (cell_of ho11 rfl) (A1 (cell_of ho11 rfl))))) (v := .tuple #[.agg #[iv 3,sv (l.take 1),iv 0,iv 0],.bool true]) rfl (⟨by unfold firstT; rw [if_neg h0,if_pos (by omega)],hE10⟩)
 have r1 := runLen_le partB l
 refine Zl 5 E94 (run_any partB 98 l w1 E98 part_any (by omega)) ?_
 rintro _ _ ⟨rfl,rfl⟩
 refine Zs 7 [] [(0 ≤ ((runLen partB l:Nat):Int) ∧ ((runLen partB l:Nat):Int) ≤ ((l).length : Int))] (A1 (by omega)) ?_
 refine Zw 0 0 (sv (l.take (runLen partB l))) (sv (l.takeWhile partB)) (by rw [take_runLen]) ?_
 refine Zw 0 18 (sv (l.take (runLen partB l))) (sv (l.takeWhile partB)) (by rw [take_runLen]) ?_
 have r2 : (l.takeWhile partB).length ≤ l.length := runLen_le partB l
 refine Zl 0 E99 (Number_any (l.takeWhile partB) w1 (by omega) (hG.ext hE4)) ?_
 rintro _ w2 ⟨rfl,hx⟩
 have hE12 := hE4.trans hx
 have ho13 := hx.heap ho5
 refine Zq 7 ((0 : Int) ≤ numI (l.takeWhile partB)) (fun h2 => ?_) (fun h2 => ?_)
 ·refine Z0 5 (.store 49 (pt b1 0) (.agg #[iv 2,sv (l.takeWhile partB),iv (numI (l.takeWhile partB)),iv 0])) (runs_st ho13 (by kernel_rfl)) ?_
  rintro _ w3 hC14
  have hE15 := hC14.ext hE12 hl3
  have ho16 := hC14.own
  exact Ze 2 [.agg #[iv 2,sv (l.takeWhile partB),iv (numI (l.takeWhile partB)),iv 0]] [.agg #[iv 2,sv (l.takeWhile partB),iv (numI (l.takeWhile partB)),iv 0],.bool true] [w3.cell? ⟨b1,0,none⟩ = some (iv 2),w3.cell? ⟨b1,1,none⟩ = some (sv (l.takeWhile partB)),w3.cell? ⟨b1,2,none⟩ = some (iv (numI (l.takeWhile partB))),w3.cell? ⟨b1,3,none⟩ = some (iv 0)] (AC (cell_of ho16 rfl) (AC (cell_of ho16 rfl) (AC (cell_of ho16 rfl) (A1 (cell_of ho16 rfl))))) (v := .tuple #[.agg #[iv 2,sv (l.takeWhile partB),iv (numI (l.takeWhile partB)),iv 0],.bool true]) rfl (⟨by unfold firstT; rw [if_neg h0,if_neg (by omega)]; simp [h2],hE15⟩)
 refine Zl 6 E100 (Keyword_any (l.takeWhile partB) w2) ?_
 rintro _ w3 ⟨rfl,hy⟩
 have hE17 := hE12.trans hy
 have ho18 := hy.heap ho13
 refine Zs 2 [.sym] [] trivial ?_
 refine ZCond (fun w' => Ext w3 w') (.bool (nameB (l.takeWhile partB))) (e := .call 81 [sv (l.takeWhile partB)]) (d := 31) (g := !(kwB (l.takeWhile partB))) (k' := (kOp Y65 (ro1 5 [0]) 7 [])) (ps := [(!(kwB (l.takeWhile partB))) = true → (!(kwB (l.takeWhile partB))) = true]) (by kernel_rfl) (A1 (fun h => h)) (Ext.refl w3) (fun hg => runs_call E81 (Name_any (l.takeWhile partB) w3 (by omega))) ?_
 rintro w4 hz
 have hE19 := hE17.trans hz
 have ho20 := hz.heap ho18
 refine Zi 1 [.gn 0] [] trivial [!(kwB (l.takeWhile partB))] trivial ?_
 refine Z0 0 (.store 49 (pt b1 0) (.agg #[iv 1,sv (l.takeWhile partB),iv 0,iv 0])) (runs_st ho20 (by kernel_rfl)) ?_
 rintro _ w5 hC21
 have hE22 := hC21.ext hE19 hl3
 have ho23 := hC21.own
 exact Ze 2 [.agg #[iv 1,sv (l.takeWhile partB),iv 0,iv 0]] [.agg #[iv 1,sv (l.takeWhile partB),iv 0,iv 0],.bool ((kwB (l.takeWhile partB)) || (nameB (l.takeWhile partB)))] [w5.cell? ⟨b1,0,none⟩ = some (iv 1),w5.cell? ⟨b1,1,none⟩ = some (sv (l.takeWhile partB)),w5.cell? ⟨b1,2,none⟩ = some (iv 0),w5.cell? ⟨b1,3,none⟩ = some (iv 0)] (AC (cell_of ho23 rfl) (AC (cell_of ho23 rfl) (AC (cell_of ho23 rfl) (A1 (cell_of ho23 rfl))))) (v := .tuple #[.agg #[iv 1,sv (l.takeWhile partB),iv 0,iv 0],.bool ((kwB (l.takeWhile partB)) || (nameB (l.takeWhile partB)))]) rfl (⟨by unfold firstT; rw [if_neg h0,if_neg (by omega)]; simp [h2],hE22⟩)

end Go.Proofs.YtjhgghpeapmgdaaGreatDoor
