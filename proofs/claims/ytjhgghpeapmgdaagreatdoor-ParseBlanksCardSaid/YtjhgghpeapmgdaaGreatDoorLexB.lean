/-
  LEX: the contract of Lex itself.
-/
import Derived.Test.YtjhgghpeapmgdaaGreatDoorLexA
import Derived.Test.YtjhgghpeapmgdaaGreatDoorMg1
import Derived.Test.YtjhgghpeapmgdaaGreatDoorLz
import Derived.Test.YtjhgghpeapmgdaaGreatDoorMg2
namespace Go.Proofs.YtjhgghpeapmgdaaGreatDoor
open Go.Bk Go.Proofs

def TokSl (w : World) (v : Value) (ts : List Tok) : Prop := SlV w v ts.length (ts.flatMap tokCells)
theorem TokSl.ext {w w' : World} {v : Value} {ts : List Tok} (h : TokSl w v ts) (hE : Ext w w') : TokSl w' v ts := SlV.ext h hE
theorem lexT_ok {l : Bytes} (h : ¬ (10000 : Int) < (l.length:Int)) : comb [] (lexR (l.length + 1) l 0) = lexT l := by
  unfold lexT
  rw [if_neg (by omega)]
  exact comb_nil (lexR_form _ _ _)

def lexL (l : Bytes) (w : World) : Lp (Value × List Tok × Nat) where
  S := fun x => [(0,none,sv l),(2,none,x.1),(3,none,iv 0),(4,none,iv (x.2.2:Int))]
  J := fun x w' => Ext w w' ∧ w'.ownsRow w.heap.size 49 4 x.1 x.2.1.length (x.2.1.flatMap tokCells) ∧ x.2.2 ≤ l.length ∧ x.2.1.length ≤ x.2.2 ∧ comb x.2.1 (lexR ((l.drop x.2.2).length + 1) (l.drop x.2.2) x.2.2) = lexT l
  M := fun x => l.length - x.2.2
set_option maxRecDepth 20000 in
theorem Lex_anyC (l : Bytes) (w : World) (hG : Glob w) :
    Does Tryz.prog 28 [sv l] w (fun v w' => ∃ u,v = .tuple #[u,.int .i64 (lexT l).2.1,.int .i64 (lexT l).2.2] ∧ TokSl w' u (lexT l).1 ∧ Ext w w' ∧ w'.ownsRow w.heap.size 49 4 u (lexT l).1.length ((lexT l).1.flatMap tokCells)) := by
 refine startZ (c := Y28) Tryz.func28 rfl (by kernel_rfl) ?_
 show H _ 41 [] _ (kAt Y28 [] []) (stz [(0,sv l)]) w
 refine Zq 13 ((10000 : Int) < (((l).length:Nat):Int)) (fun h0 => ?_) (fun h0 => ?_)
 ·exact Z3 6 (.slice none 0 0) (iv 20) (iv 10000) (⟨.slice none 0 0,by unfold lexT; rw [if_pos (by omega)],by unfold lexT; rw [if_pos (by omega)]; exact SlV.nil w,Ext.refl w,by unfold lexT; rw [if_pos (by omega)]; exact ownsRow_nil⟩)
 have hE1 : Ext w w := Ext.refl w
 refine Zs 2 [] [] trivial ?_
 refine ZLoop (lexL l w) (k' := (kEnd Y28 [1,1,0] [])) (body := (cAt Y28 [1,1,0,0])) (by kernel_rfl) (.slice none 0 0,[],0) [0,2,3,4] (by kernel_rfl) (⟨hE1,ownsRow_nil,Nat.zero_le _,Nat.le_refl _,lexT_ok h0⟩) ?_
 rintro ⟨v,acc,k⟩ w0 ⟨hE,hrow,hk,hak,hcomb⟩
 simp only at hE hrow hk hak hcomb
 show H _ _ _ _ (kAt (cAt Y28 [1,1,0,0]) [] (.inv (LI 41 [] (lexL l w) (v,acc,k)) :: (kEnd Y28 [1,1,0] []))) (stz [(0,sv l),(2,v),(3,iv 0),(4,iv (k:Int))]) w0
 have hr : (l.drop k).length = l.length - k := List.length_drop
 have hs := skipL_le (l.drop k)
 obtain ⟨r,hrd⟩ : ∃ r,skipL (l.drop k) = r := ⟨_,rfl⟩
 obtain ⟨q,hq⟩ : ∃ q,(l.drop k).length - r.length = q := ⟨_,rfl⟩
 have hd : l.drop (k + q) = r := by rw [← hrd,skipL_drop,List.drop_drop,hrd,hq]
 rw [hrd] at hs
 have hsk := skip_any (l.drop k) w0 (by omega)
 rw [hrd,hq] at hsk
 obtain ⟨t,ok,ht⟩ : ∃ t ok,firstT r = (t,ok) := ⟨_,_,rfl⟩
 have hfi := first_any r w0 (by omega) (hG.ext hE)
 rw [ht] at hfi
 refine Zs 7 [] [(0 ≤ (k:Int) ∧ (k:Int) ≤ ((l).length : Int))] (A1 (by omega)) ?_
 refine Zl 0 E64 (hsk) ?_
 rintro _ _ ⟨rfl,rfl⟩
 refine Zs 8 [] [I64 ((k + q:Nat):Int),(0 ≤ ((k + q:Nat):Int) ∧ ((k + q:Nat):Int) ≤ ((l).length : Int))] (AC (i64 (by omega)) (A1 (by omega))) ?_
 refine Zw 0 19 (sv (l.drop (k + q))) (sv r) (by rw [hd]) ?_
 refine Zl 0 E65 (hfi) ?_
 rintro _ w1 ⟨rfl,hx⟩
 have hE2 := hE.trans hx
 have hr3 := ownsRow_ext hrow hx
 refine Z0 3 (.alloc 49) (runs_alloc (z := .agg #[iv 0,sv ([]),iv 0,iv 0]) (by kernel_rfl)) ?_
 rintro _ w2 ⟨b1,rfl,hN4⟩
 have hd5 := ownsRow_apart hr3 (Nat.le_of_eq hN4.lo.symm)
 have hl6 : w.heap.size ≤ b1 := by have := hE2.le; have := hN4.lo; omega
 have hE7 := hE2.trans hN4.ext
 have hr8 := ownsRow_ext hr3 hN4.ext
 have ho9 := hN4.own
 refine Z0 0 (.store 49 (pt b1 0) (.agg #[iv t.kind,sv t.text,iv t.n,iv 0])) (runs_st ho9 (by kernel_rfl)) ?_
 rintro _ w3 hC10
 have hE11 := hC10.ext hE7 hl6
 have hr12 := ownsRow_chg hr8 hC10 hd5
 have ho13 := hC10.own
 refine Zr 8 _ (¬ (ok = true)) ((iffNot Iff.rfl)) (fun h1 => ?_) (fun h1 => ?_)
 ·have h1 : (firstT (skipL (l.drop k))).2 = false := by rw [hrd,ht]; simpa using h1
  have hx1 : lexT l = ([],21,((k + q:Nat):Int)) := by rw [← hcomb,lexR_bad h1,hrd,hq]; rfl
  exact Z3 7 (.slice none 0 0) (iv 21) (iv ((k + q:Nat):Int)) (⟨.slice none 0 0,by rw [hx1],by rw [hx1]; exact SlV.nil _,hE11,by rw [hx1]; exact ownsRow_nil⟩)
 have h1 : ok = true := by simpa using h1
 refine Z0 5 (.store 3 (pt b1 3) (iv ((k + q:Nat):Int))) (runs_st ho13 (by kernel_rfl)) ?_
 rintro _ w4 hC14
 have hE15 := hC14.ext hE11 hl6
 have hr16 := ownsRow_chg hr12 hC14 hd5
 have ho17 := hC14.own
 refine Zs 5 [.ld (.agg #[iv t.kind,sv t.text,iv t.n,iv ((k + q:Nat):Int)])] [cl w4 b1 0 (iv t.kind),cl w4 b1 1 (sv t.text),cl w4 b1 2 (iv t.n),cl w4 b1 3 (iv ((k + q:Nat):Int))] (AC (cell_of ho17 rfl) (AC (cell_of ho17 rfl) (AC (cell_of ho17 rfl) (A1 (cell_of ho17 rfl))))) ?_
 refine Z0 0 (.bslice 45 1 [(0,.agg #[iv t.kind,sv t.text,iv t.n,iv ((k + q:Nat):Int)])]) (runs_bslice (cs := [iv t.kind,sv t.text,iv t.n,iv ((k + q:Nat):Int)]) (e := 49) (by kernel_rfl)) ?_
 rintro _ w5 ⟨b2,rfl,hN18⟩
 have hd19 : b1 ≠ b2 := New.ne hN18 ho17
 have hd20 : b2 ≠ b1 := Ne.symm hd19
 have hd21 := ownsRow_apart hr16 (Nat.le_of_eq hN18.lo.symm)
 have hl22 : w.heap.size ≤ b2 := by have := hE15.le; have := hN18.lo; omega
 have hE23 := hE15.trans hN18.ext
 have ho24 := hN18.ext.heap ho17
 have hr25 := ownsRow_ext hr16 hN18.ext
 have ho26 := hN18.own
 refine Z0 0 (.builtin .append #[45,45] 45 #[false,false] [v,.slice (some ⟨b2,0,none⟩) 1 1]) (runs_app (e := 49) (size := 4) (bytes := 40) (by kernel_rfl) hr25 (m := 1) (news := [iv t.kind,sv t.text,iv t.n,iv ((k + q:Nat):Int)]) ho26 rfl (by simp [Value.oneCell']) (by omega) (by omega) hE23.le) ?_
 rintro v1 w6 ⟨hr27,hg28⟩
 have hE29 := grown_ext hg28 hE23 hr25 (Nat.le_refl _)
 have ho30 := grown_heap hg28 ho24 hd5
 have ho31 := grown_heap hg28 ho26 hd21
 have hr27 : w6.ownsRow w.heap.size 49 4 v1 ((acc ++ [{ t with at' := ((k + q:Nat):Int) }]).length) ((acc ++ [{ t with at' := ((k + q:Nat):Int) }]).flatMap tokCells) := by simpa [tokCells] using hr27
 refine Zs 9 [.ld (iv t.kind)] [cl w6 b1 0 (iv t.kind)] (A1 (cell_of ho30 rfl)) ?_
 refine Zq 0 ((t.kind : Int) = (4 : Int)) (fun h2 => ?_) (fun h2 => ?_)
 ·have hc : (firstT (skipL (l.drop k))).2 = true := by rw [hrd,ht]; exact h1
  have h2 : (firstT (skipL (l.drop k))).1.kind = 4 := by rw [hrd,ht]; exact h2
  have hx1 : lexT l = (acc ++ [{ t with at' := ((k + q:Nat):Int) }],0,0) := by rw [← hcomb,lexR_end hc h2,hrd,hq,ht]; rfl
  exact Z3 7 v1 (iv 0) (iv 0) (⟨v1,by rw [hx1],by rw [hx1]; exact SlV.of_owns hr27,hE29,by rw [hx1]; exact hr27⟩)
 have hc : (firstT (skipL (l.drop k))).2 = true := by rw [hrd,ht]; exact h1
 have h2 : (firstT (skipL (l.drop k))).1.kind ≠ 4 := by rw [hrd,ht]; exact h2
 have hx1 := lexR_go (a := k) acc hc h2
 rw [hcomb,hrd,hq,ht] at hx1
 simp only at hx1
 have hne := skip_ne h2
 rw [hrd] at hne
 have hp1 := firstT_pos hne (by rw [ht]; exact h1)
 have hp2 := firstT_text (l := r)
 rw [ht] at hp1 hp2
 simp only at hp1 hp2
 have hdd : l.drop (k + q + t.text.length) = r.drop t.text.length := by rw [← hd,List.drop_drop]
 refine Zs 10 [.ld (sv t.text)] [cl w6 b1 1 (sv t.text),I64 ((k + q + ((t.text).length):Nat):Int)] (AC (cell_of ho30 rfl) (A1 (i64 (by omega)))) ?_
 exact ZA 0 (lexL l w) (v,acc,k) (v1,(acc ++ [{ t with at' := ((k + q:Nat):Int) }]),k + q + t.text.length) [0,2,3,4] (⟨hE29,hr27,by show k + q + t.text.length ≤ l.length; omega,by show (acc ++ [{ t with at' := ((k + q:Nat):Int) }]).length ≤ k + q + t.text.length; rw [List.length_append]; simp; omega,by show comb (acc ++ [{ t with at' := ((k + q:Nat):Int) }]) (lexR ((l.drop (k + q + t.text.length)).length + 1) (l.drop (k + q + t.text.length)) (k + q + t.text.length)) = lexT l; rw [hdd]; exact hx1.symm⟩) (show l.length - (k + q + t.text.length) < l.length - k by omega)

end Go.Proofs.YtjhgghpeapmgdaaGreatDoor
