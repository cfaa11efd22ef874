/-
  PARSE: contracts of the library's short loops and of link.
-/
import Derived.Test.YtjhgghpeapmgdaaGreatDoorParB
import Derived.Test.YtjhgghpeapmgdaaGreatDoorParSort
import Derived.Test.YtjhgghpeapmgdaaGreatDoorMg2
namespace Go.Proofs.YtjhgghpeapmgdaaGreatDoor
open Go.Bk Go.Proofs

theorem E141 : Proofs.Enters Tryz.prog 141 := Proofs.enters_of Tryz.func141 (by kernel_rfl) rfl

theorem E117 : Proofs.Enters Tryz.prog 117 := Proofs.enters_of Tryz.func117 (by kernel_rfl) rfl

theorem E118 : Proofs.Enters Tryz.prog 118 := Proofs.enters_of Tryz.func118 (by kernel_rfl) rfl

theorem E121 : Proofs.Enters Tryz.prog 121 := Proofs.enters_of Tryz.func121 (by kernel_rfl) rfl

theorem E142 : Proofs.Enters Tryz.prog 142 := Proofs.enters_of Tryz.func142 (by kernel_rfl) rfl

theorem E119 : Proofs.Enters Tryz.prog 119 := Proofs.enters_of Tryz.func119 (by kernel_rfl) rfl

theorem E120 : Proofs.Enters Tryz.prog 120 := Proofs.enters_of Tryz.func120 (by kernel_rfl) rfl

def idxLinkL (xs : List PLink) (a : Option Addr) (c : Nat) (F : FuncId) (b0 : Nat) (pr : PLink → Bool) (w : World) : Lp Nat where
  S := fun k => [(0,none,.slice a xs.length c),(1,none,.func (.func F) #[] #[pt b0 0]),(7,none,iv (xs.length:Int)),(8,none,iv (k:Int))]
  J := fun k w' => Ext w w' ∧ k ≤ xs.length ∧ ∀ j,j < k → pr (xs.getD j d0L) = false
  M := fun k => xs.length - k
set_option maxRecDepth 20000 in
theorem idxLink (xs : List PLink) (a : Option Addr) (c : Nat) (F : FuncId) (b0 : Nat) (pr : PLink → Bool) (w : World) (hE : Enters Tryz.prog F) (hF : ∀ k,k < xs.length → ∀ w',Ext w w' → Does Tryz.prog F [(vL (xs.getD k d0L)),pt b0 0] w' fun v w2 => v = .bool (pr (xs.getD k d0L)) ∧ Ext w' w2) (hc : Cells w a (xs.flatMap linkC)) (hl : xs.length ≤ 140737488355328) :
    Does Tryz.prog 141 [.slice a xs.length c,.func (.func F) #[] #[pt b0 0]] w (fun v w' => v = .int .i64 (idxI pr xs) ∧ Ext w w') := by
 refine startD (c := Y141) Tryz.func141 rfl (by kernel_rfl) ?_
 show G _ 19 [] _ (kAt Y141 [] []) (stz [(0,.slice a xs.length c),(1,.func (.func F) #[] #[pt b0 0])]) w
 have hE1 : Ext w w := Ext.refl w
 refine sg0 12 (kAt Y141 [1,0,1,0] []) [(0,.slice a xs.length c),(1,.func (.func F) #[] #[pt b0 0]),(4,iv 0),(7,iv (xs.length:Int)),(8,iv 0)] ?_
 refine loopR (idxLinkL xs a c F b0 pr w) (k' := (kEnd Y141 [1,0,1,0] [])) (body := (cAt Y141 [1,0,1,0,0])) (by kernel_rfl) 0 [0,1,7,8] (by kernel_rfl) (⟨hE1,by omega,fun j h => by omega⟩) ?_
 rintro k w0 ⟨K1,hk,hp⟩
 refine sg0 5 (kAt (cAt Y141 [1,0,1,0,0]) [1,0] (.inv (LI 19 [] (idxLinkL xs a c F b0 pr w) k) :: (kEnd Y141 [1,0,1,0] []))) [(0,.slice a xs.length c),(1,.func (.func F) #[] #[pt b0 0]),(7,iv (xs.length:Int)),(8,iv (k:Int)),(9,.bool (decide ((k:Int) < (xs.length:Int))))] ?_
 refine brd ((k:Int) < (xs.length:Int)) (fun h1 => ?_) (fun h1 => ?_)
 ·have hk2 : k < xs.length := by omega
  have ha := hc.addrE linkC_len (by decide) hk2
  refine sgz 15 [.ld (vL (xs.getD k d0L))] (kOp (cAt Y141 [1,0,1,0,0]) [1,1,0,0,1,0] 5 (.inv (LI 19 [] (idxLinkL xs a c F b0 pr w) k) :: (kEnd Y141 [1,0,1,0] []))) [(0,.slice a xs.length c),(1,.func (.func F) #[] #[pt b0 0]),(5,iv (k:Int)),(7,iv (xs.length:Int)),(8,iv (k:Int)),(11,.func (.func F) #[] #[pt b0 0]),(15,(vL (xs.getD k d0L)))] [(0 ≤ (k:Int) ∧ (k:Int) < (xs.length:Int)),(a : Option Addr) = some ⟨(slB a),slO a,none⟩,cl w0 (slB a) (slO a + k * 3) (iv ((xs.getD k d0L).a)),cl w0 (slB a) (slO a + k * 3 + 1) (iv ((xs.getD k d0L).b)),cl w0 (slB a) (slO a + k * 3 + 2) (iv ((xs.getD k d0L).cost))] (AC (by omega) (AC (by assumption) (AC (K1.cell (cellAt linkC_len d0L hc hk2 (j := 0) rfl)) (AC (K1.cell (cellAt linkC_len d0L hc hk2 (j := 1) rfl)) (A1 (K1.cell (cellAt linkC_len d0L hc hk2 (j := 2) rfl))))))) ?_
  refine os0 (.call F [(vL (xs.getD k d0L)),pt b0 0]) (some 16) (kOp (cAt Y141 [1,0,1,0,0]) [1,1,0,0,1,0] 6 (.inv (LI 19 [] (idxLinkL xs a c F b0 pr w) k) :: (kEnd Y141 [1,0,1,0] []))) (runs_call hE (hF k hk2 w0 K1)) ?_
  rintro _ w1 ⟨rfl,hx⟩
  have hE2 := K1.trans hx
  refine sg0 1 (kAt (cAt Y141 [1,0,1,0,0]) [1,1,0,0,1,1] (.inv (LI 19 [] (idxLinkL xs a c F b0 pr w) k) :: (kEnd Y141 [1,0,1,0] []))) [(0,.slice a xs.length c),(1,.func (.func F) #[] #[pt b0 0]),(5,iv (k:Int)),(7,iv (xs.length:Int)),(8,iv (k:Int)),(16,.bool (pr (xs.getD k d0L)))] ?_
  refine brk _ ((pr (xs.getD k d0L)) = true) (Iff.rfl) (fun h2 => ?_) (fun h2 => ?_)
  ·refine sg0 5 (kAt (cAt Y141 [1,0,1,0,0]) [1,1,0,0,1,1,0,1] (.inv (LI 19 [] (idxLinkL xs a c F b0 pr w) k) :: (kEnd Y141 [1,0,1,0] []))) [(0,.slice a xs.length c),(1,.func (.func F) #[] #[pt b0 0]),(4,iv (k:Int)),(7,iv (xs.length:Int)),(8,iv (k:Int))] ?_
   exact ret1 (iv (k:Int)) (⟨by rw [idxI_hit d0L hk2 hp h2],hE2⟩)
  refine sgz 6 [] (.inv (LI 19 [] (idxLinkL xs a c F b0 pr w) k) :: (kEnd Y141 [1,0,1,0] [])) [(0,.slice a xs.length c),(1,.func (.func F) #[] #[pt b0 0]),(7,iv (xs.length:Int)),(8,iv ((k + 1:Nat):Int))] [I64 ((k + 1:Nat):Int)] (A1 (i64 (by omega))) ?_
  exact again (k + 1) [0,1,7,8] (by kernel_rfl) (⟨hE2,by omega,fun j hj => by by_cases e : j = k; (subst e; simpa using h2); exact hp j (by omega)⟩) (show xs.length - (k + 1) < xs.length - k by omega)
 refine sg0 5 (kAt Y141 [1,1,1] []) [(4,iv (-1))] ?_
 exact ret1 (iv (-1)) (⟨by rw [idxI_miss d0L (fun j hj => hp j (by omega))],K1⟩)

set_option maxRecDepth 20000 in
theorem anyLink (xs : List PLink) (a : Option Addr) (c : Nat) (F : FuncId) (b0 : Nat) (pr : PLink → Bool) (w : World) (hE : Enters Tryz.prog F) (hF : ∀ k,k < xs.length → ∀ w',Ext w w' → Does Tryz.prog F [(vL (xs.getD k d0L)),pt b0 0] w' fun v w2 => v = .bool (pr (xs.getD k d0L)) ∧ Ext w' w2) (hc : Cells w a (xs.flatMap linkC)) (hl : xs.length ≤ 140737488355328) :
    Does Tryz.prog 117 [.slice a xs.length c,.func (.func F) #[] #[pt b0 0]] w (fun v w' => v = .bool (xs.any pr) ∧ Ext w w') := by
 refine startD (c := Y117) Tryz.func117 rfl (by kernel_rfl) ?_
 show G _ 9 [] _ (kAt Y117 [] []) (stz [(0,.slice a xs.length c),(1,.func (.func F) #[] #[pt b0 0])]) w
 have hE1 : Ext w w := Ext.refl w
 refine sg0 8 (kOp Y117 [1,0] 2 []) [(4,.bool false),(5,.slice a xs.length c),(6,.func (.func F) #[] #[pt b0 0])] ?_
 refine os0 _ (some 7) (kOp Y117 [1,0] 3 []) (runs_call E141 (idxLink xs a c F b0 pr w hE hF hc hl)) ?_
 rintro _ w1 ⟨rfl,hx⟩
 have hE2 := hE1.trans hx
 refine sg0 3 (kAt Y117 [1,1] []) [(4,.bool (decide ((0 : Int) ≤ idxI pr xs)))] ?_
 exact ret1 (.bool (decide ((0 : Int) ≤ idxI pr xs))) (⟨by rw [idxI_any],hE2⟩)

set_option maxRecDepth 20000 in
theorem link1_any (y : PLink) (x1 x2 x3 : Int) (b0 : Nat) (w : World) (hb : w.heap[b0]? = some (.cells #[iv x1,iv x2,iv x3] 61 (0,0))) :
    Does Tryz.prog 118 [(vL y),pt b0 0] w (fun v w' => v = .bool (decide (x1 = y.a) && decide (x2 = y.b)) ∧ Ext w w') := by
 refine startD (c := Y118) Tryz.func118 rfl (by kernel_rfl) ?_
 show G _ 16 [] _ (kAt Y118 [] []) (stz [(0,(vL y)),(1,pt b0 0)]) w
 have hE1 : Ext w w := Ext.refl w
 have hM2 : Hold w w.heap.size [] := Hold.nil hE1.le
 refine sg0 2 (kOp Y118 [0] 0 []) [(0,(vL y)),(1,pt b0 0)] ?_
 refine os0 (.box 61 (vL y)) (some 2) (kOp Y118 [0] 1 []) (runs_box _ _) ?_
 rintro _ w1 ⟨b2,rfl,hN3⟩
 have hE4 := hE1.trans hN3.ext
 have hM5 := hM2.new hN3
 refine sgz 18 [.ld (iv x1),.ld (iv y.a),.sym,.sym,.ld (iv x2),.sym,.sym,.ld (iv y.b),.sym] (kAt Y118 [1,1] []) [(3,.bool ((decide ((x1 : Int) = y.a)) && (decide ((x2 : Int) = y.b))))] ((fun (z1 : Bool) => ([cl w1 b0 0 (iv x1),cl w1 b2 0 (iv y.a),z1 = true → z1 = true,z1 = true → cl w1 b0 1 (iv x2),z1 = true → z1 = true,z1 = true → cl w1 b2 1 (iv y.b),z1 = true → z1 = true,z1 = true → z1 = true,z1 = true → z1 = true] : List Prop)) (decide ((x1 : Int) = y.a))) (AC (hE4.cell (cell_of hb rfl)) (AC (cell_of (hM5.blk 0 rfl) rfl) (AC (fun h => h) (AC (fun _ => hE4.cell (cell_of hb rfl)) (AC (fun h => h) (AC (fun _ => cell_of (hM5.blk 0 rfl) rfl) (AC (fun h => h) (AC (fun h => h) (A1 (fun h => h)))))))))) ?_
 exact ret1 (.bool ((decide ((x1 : Int) = y.a)) && (decide ((x2 : Int) = y.b)))) (⟨rfl,hE4⟩)

def idxStrL (xs : List Bytes) (a : Option Addr) (c : Nat) (x : Bytes) (w : World) : Lp Nat where
  S := fun k => [(0,none,.slice a xs.length c),(1,none,sv x),(7,none,iv (xs.length:Int)),(8,none,iv (k:Int))]
  J := fun k w' => Ext w w' ∧ k ≤ xs.length ∧ ∀ j,j < k → decide (x = xs.getD j []) = false
  M := fun k => xs.length - k
set_option maxRecDepth 20000 in
theorem idxStr (xs : List Bytes) (a : Option Addr) (c : Nat) (x : Bytes) (w : World) (hc : Cells w a (xs.flatMap strC)) (hl : xs.length ≤ 140737488355328) :
    Does Tryz.prog 121 [.slice a xs.length c,sv x] w (fun v w' => v = .int .i64 (idxI (fun y => decide (x = y)) xs) ∧ Ext w w') := by
 refine startD (c := Y121) Tryz.func121 rfl (by kernel_rfl) ?_
 show G _ 19 [] _ (kAt Y121 [] []) (stz [(0,.slice a xs.length c),(1,sv x)]) w
 have hE1 : Ext w w := Ext.refl w
 refine sg0 12 (kAt Y121 [1,0,1,0] []) [(0,.slice a xs.length c),(1,sv x),(4,iv 0),(7,iv (xs.length:Int)),(8,iv 0)] ?_
 refine loopR (idxStrL xs a c x w) (k' := (kEnd Y121 [1,0,1,0] [])) (body := (cAt Y121 [1,0,1,0,0])) (by kernel_rfl) 0 [0,1,7,8] (by kernel_rfl) (⟨hE1,by omega,fun j h => by omega⟩) ?_
 rintro k w0 ⟨K1,hk,hp⟩
 refine sg0 5 (kAt (cAt Y121 [1,0,1,0,0]) [1,0] (.inv (LI 19 [] (idxStrL xs a c x w) k) :: (kEnd Y121 [1,0,1,0] []))) [(0,.slice a xs.length c),(1,sv x),(7,iv (xs.length:Int)),(8,iv (k:Int)),(9,.bool (decide ((k:Int) < (xs.length:Int))))] ?_
 refine brd ((k:Int) < (xs.length:Int)) (fun h1 => ?_) (fun h1 => ?_)
 ·have hk2 : k < xs.length := by omega
  have ha := hc.addrE strC_len (by decide) hk2
  refine sgz 17 [.ld (sv (xs.getD k []))] (kAt (cAt Y121 [1,0,1,0,0]) [1,1,0,0,1,1] (.inv (LI 19 [] (idxStrL xs a c x w) k) :: (kEnd Y121 [1,0,1,0] []))) [(0,.slice a xs.length c),(1,sv x),(5,iv (k:Int)),(7,iv (xs.length:Int)),(8,iv (k:Int)),(16,.bool (decide (x = (xs.getD k []))))] [(0 ≤ (k:Int) ∧ (k:Int) < (xs.length:Int)),(a : Option Addr) = some ⟨(slB a),slO a,none⟩,cl w0 (slB a) (slO a + k * 1) (sv (xs.getD k []))] (AC (by omega) (AC (by assumption) (A1 (K1.cell (cellAt strC_len [] hc hk2 (j := 0) rfl))))) ?_
  refine brd (x = (xs.getD k [])) (fun h2 => ?_) (fun h2 => ?_)
  ·refine sg0 5 (kAt (cAt Y121 [1,0,1,0,0]) [1,1,0,0,1,1,0,1] (.inv (LI 19 [] (idxStrL xs a c x w) k) :: (kEnd Y121 [1,0,1,0] []))) [(0,.slice a xs.length c),(1,sv x),(4,iv (k:Int)),(7,iv (xs.length:Int)),(8,iv (k:Int))] ?_
   exact ret1 (iv (k:Int)) (⟨by rw [idxI_hit [] hk2 hp (decide_eq_true h2)],K1⟩)
  refine sgz 6 [] (.inv (LI 19 [] (idxStrL xs a c x w) k) :: (kEnd Y121 [1,0,1,0] [])) [(0,.slice a xs.length c),(1,sv x),(7,iv (xs.length:Int)),(8,iv ((k + 1:Nat):Int))] [I64 ((k + 1:Nat):Int)] (A1 (i64 (by omega))) ?_
  exact again (k + 1) [0,1,7,8] (by kernel_rfl) (⟨K1,by omega,fun j hj => by by_cases e : j = k; (subst e; exact decide_eq_false h2); exact hp j (by omega)⟩) (show xs.length - (k + 1) < xs.length - k by omega)
 refine sg0 5 (kAt Y121 [1,1,1] []) [(4,iv (-1))] ?_
 exact ret1 (iv (-1)) (⟨by rw [idxI_miss [] (fun j hj => hp j (by omega))],K1⟩)

def idxIntL (xs : List Int) (a : Option Addr) (c : Nat) (x : Int) (w : World) : Lp Nat where
  S := fun k => [(0,none,.slice a xs.length c),(1,none,iv x),(7,none,iv (xs.length:Int)),(8,none,iv (k:Int))]
  J := fun k w' => Ext w w' ∧ k ≤ xs.length ∧ ∀ j,j < k → decide (x = xs.getD j 0) = false
  M := fun k => xs.length - k
set_option maxRecDepth 20000 in
theorem idxInt (xs : List Int) (a : Option Addr) (c : Nat) (x : Int) (w : World) (hc : Cells w a (xs.flatMap intCells)) (hl : xs.length ≤ 140737488355328) :
    Does Tryz.prog 142 [.slice a xs.length c,iv x] w (fun v w' => v = .int .i64 (idxI (fun y => decide (x = y)) xs) ∧ Ext w w') := by
 refine startD (c := Y142) Tryz.func142 rfl (by kernel_rfl) ?_
 show G _ 19 [] _ (kAt Y142 [] []) (stz [(0,.slice a xs.length c),(1,iv x)]) w
 have hE1 : Ext w w := Ext.refl w
 refine sg0 12 (kAt Y142 [1,0,1,0] []) [(0,.slice a xs.length c),(1,iv x),(4,iv 0),(7,iv (xs.length:Int)),(8,iv 0)] ?_
 refine loopR (idxIntL xs a c x w) (k' := (kEnd Y142 [1,0,1,0] [])) (body := (cAt Y142 [1,0,1,0,0])) (by kernel_rfl) 0 [0,1,7,8] (by kernel_rfl) (⟨hE1,by omega,fun j h => by omega⟩) ?_
 rintro k w0 ⟨K1,hk,hp⟩
 refine sg0 5 (kAt (cAt Y142 [1,0,1,0,0]) [1,0] (.inv (LI 19 [] (idxIntL xs a c x w) k) :: (kEnd Y142 [1,0,1,0] []))) [(0,.slice a xs.length c),(1,iv x),(7,iv (xs.length:Int)),(8,iv (k:Int)),(9,.bool (decide ((k:Int) < (xs.length:Int))))] ?_
 refine brd ((k:Int) < (xs.length:Int)) (fun h1 => ?_) (fun h1 => ?_)
 ·have hk2 : k < xs.length := by omega
  have ha := hc.addrE intCells_len (by decide) hk2
  refine sgz 17 [.ld (iv (xs.getD k 0))] (kAt (cAt Y142 [1,0,1,0,0]) [1,1,0,0,1,1] (.inv (LI 19 [] (idxIntL xs a c x w) k) :: (kEnd Y142 [1,0,1,0] []))) [(0,.slice a xs.length c),(1,iv x),(5,iv (k:Int)),(7,iv (xs.length:Int)),(8,iv (k:Int)),(16,.bool (decide ((x : Int) = (xs.getD k 0))))] [(0 ≤ (k:Int) ∧ (k:Int) < (xs.length:Int)),(a : Option Addr) = some ⟨(slB a),slO a,none⟩,cl w0 (slB a) (slO a + k * 1) (iv (xs.getD k 0))] (AC (by omega) (AC (by assumption) (A1 (K1.cell (cellAt intCells_len 0 hc hk2 (j := 0) rfl))))) ?_
  refine brd ((x : Int) = (xs.getD k 0)) (fun h2 => ?_) (fun h2 => ?_)
  ·refine sg0 5 (kAt (cAt Y142 [1,0,1,0,0]) [1,1,0,0,1,1,0,1] (.inv (LI 19 [] (idxIntL xs a c x w) k) :: (kEnd Y142 [1,0,1,0] []))) [(0,.slice a xs.length c),(1,iv x),(4,iv (k:Int)),(7,iv (xs.length:Int)),(8,iv (k:Int))] ?_
   exact ret1 (iv (k:Int)) (⟨by rw [idxI_hit 0 hk2 hp (decide_eq_true h2)],K1⟩)
  refine sgz 6 [] (.inv (LI 19 [] (idxIntL xs a c x w) k) :: (kEnd Y142 [1,0,1,0] [])) [(0,.slice a xs.length c),(1,iv x),(7,iv (xs.length:Int)),(8,iv ((k + 1:Nat):Int))] [I64 ((k + 1:Nat):Int)] (A1 (i64 (by omega))) ?_
  exact again (k + 1) [0,1,7,8] (by kernel_rfl) (⟨K1,by omega,fun j hj => by by_cases e : j = k; (subst e; exact decide_eq_false h2); exact hp j (by omega)⟩) (show xs.length - (k + 1) < xs.length - k by omega)
 refine sg0 5 (kAt Y142 [1,1,1] []) [(4,iv (-1))] ?_
 exact ret1 (iv (-1)) (⟨by rw [idxI_miss 0 (fun j hj => hp j (by omega))],K1⟩)

theorem any_mem (x : Int) (xs : List Int) : (xs.any fun y => decide (x = y)) = decide (x ∈ xs) := by
  rw [Bool.eq_iff_iff,List.any_eq_true,decide_eq_true_eq]
  constructor
  · rintro ⟨y,hy,h⟩
    rw [decide_eq_true_eq] at h
    exact h ▸ hy
  · intro h
    exact ⟨x,h,decide_eq_true rfl⟩

set_option maxRecDepth 20000 in
theorem contInt (xs : List Int) (a : Option Addr) (c : Nat) (x : Int) (w : World) (hc : Cells w a (xs.flatMap intCells)) (hl : xs.length ≤ 140737488355328) :
    Does Tryz.prog 119 [.slice a xs.length c,iv x] w (fun v w' => v = .bool (decide (x ∈ xs)) ∧ Ext w w') := by
 refine startD (c := Y119) Tryz.func119 rfl (by kernel_rfl) ?_
 show G _ 9 [] _ (kAt Y119 [] []) (stz [(0,.slice a xs.length c),(1,iv x)]) w
 have hE1 : Ext w w := Ext.refl w
 refine sg0 8 (kOp Y119 [1,0] 2 []) [(4,.bool false),(5,.slice a xs.length c),(6,iv x)] ?_
 refine os0 _ (some 7) (kOp Y119 [1,0] 3 []) (runs_call E142 (idxInt xs a c x w hc hl)) ?_
 rintro _ w1 ⟨rfl,hx⟩
 have hE2 := hE1.trans hx
 refine sg0 3 (kAt Y119 [1,1] []) [(4,.bool (decide ((0 : Int) ≤ idxI (fun y => decide (x = y)) xs)))] ?_
 exact ret1 (.bool (decide ((0 : Int) ≤ idxI (fun y => decide (x = y)) xs))) (⟨by rw [idxI_any,any_mem],hE2⟩)

theorem intC_enc (xs : List Int) : xs.flatMap intCells = xs.map (Value.int .i64) := by
  induction xs with
  | nil => rfl
  | cons x r ih => rw [List.flatMap_cons,ih]; rfl
theorem grown_sorted {w : World} {g n : Nat} {os : Array Obj} (d : Array Int) : w.grownBy (Sort.grow (Sort.putRow (Value.int .i64) (Sort.ahead w n) g 0 d) os) (some g) := by
  refine ⟨rfl,rfl,rfl,by simp,fun k hk hne => ?_⟩
  rw [Sort.heap_grow_old _ _ (by simpa using hk)]
  have : g ≠ k := fun e => hne (by rw [e])
  simp [Sort.putRow,Sort.mapBlock,Sort.ahead,Array.getElem?_modify,this]
theorem sortI_any (B g cap : Nat) (xs : List Int) (w : World) (hl : xs.length ≤ 10001) (h : w.ownsRow B 3 1 (.slice (some ⟨g,0,none⟩) xs.length cap) xs.length (xs.flatMap intCells)) :
    Does Tryz.prog 120 [.slice (some ⟨g,0,none⟩) xs.length cap] w fun v w' => v = .tuple #[] ∧ w'.ownsRow B 3 1 (.slice (some ⟨g,0,none⟩) (sortI xs).length cap) (sortI xs).length ((sortI xs).flatMap intCells) ∧ w.grownBy w' (some g) := by
  rw [intC_enc] at h
  obtain ⟨g',cap',hv,hg,hlt,_,_,_,hH⟩ := Lib.holds_of_ownsRow h (by simp)
  simp only [Value.slice.injEq,Option.some.injEq,Addr.mk.injEq,and_true,true_and] at hv
  obtain ⟨rfl,rfl⟩ := hv
  refine Does.of_calls (Tryz.slices_Sort_int g 0 cap xs w hH hlt (by omega)) fun _ _ ⟨he,n,os,hw⟩ => ⟨_,he,rfl,?_,?_⟩
  · rw [sortI_merge] at hw
    have h2 := Lib.ownsRow_putRow (q := n) (k := xs.length) h (sortI_len xs) (Nat.le_refl _)
    rw [sortI_len,intC_enc]
    rw [show (sortI xs).take xs.length = sortI xs from by rw [← sortI_len xs,List.take_length]] at h2
    subst hw
    exact ownsRow_ext h2 (grow_ext _ 0 os)
  · subst hw
    exact grown_sorted _

set_option maxRecDepth 20000 in
theorem link_any (w0 : World) (bp : Nat) (X : List Res) (s : PSt) (m : PM) (w : World) (hA : ParAt w0 w bp X s m) :
    DoesP Tryz.prog 89 [pt bp 0] w (fun v w' => ∃ s' m',linkS s = .ok s' ∧ v = .tuple #[] ∧ ParAt w0 w' bp X s' m') (PanP (linkS s) w0) := by
 refine startP (c := Y89) Tryz.func89 rfl (by kernel_rfl) ?_
 show G _ 59 [] _ (kAt Y89 [] []) (stz [(0,pt bp 0)]) w
 have hE1 : Ext w0 w := hA.ext
 have hM2 := hA.hold
 have hp3 := hA.inv.pos
 have ha4 := hA.toks.addrE tokCells_len (by decide) hp3
 have hnn := hA.inv.nl
 refine sgz 9 [.ld (.slice m.q.a2 s.p.links.length m.q.c2)] (kOp Y89 [0] 7 []) [(0,pt bp 0),(6,pt bp 0),(12,iv (s.p.links.length:Int))] [cl w bp 4 (.slice m.q.a2 s.p.links.length m.q.c2)] (A1 (cell_of (hM2.blk 0 rfl) rfl)) ?_
 have hA5 : ParAt w0 w bp X s m := ⟨hE1,hM2,hA.deq,hA.toks,hA.cap,hA.inv⟩
 refine ossP [] (.call 113 [pt bp 0,sv ([108,105,110,107]),iv 16,iv (s.p.links.length:Int)]) (some 13) (kOp Y89 [0] 8 []) [] trivial (runs_callP E113 (head_any w0 bp X s m wdLink 16 (s.p.links.length : Int) w hA5)) (fun x w' ⟨e,a,he,hx,hE⟩ => ⟨e,a,by simp only [linkS,he,andE_error],hx,hE⟩) ?_
 rintro _ w6 ⟨s7,m8,hs9,rfl,hA10⟩
 have hE11 : Ext w0 w6 := hA10.ext
 have hM12 := hA10.hold
 have hp13 := hA10.inv.pos
 have ha14 := hA10.toks.addrE tokCells_len (by decide) hp13
 have hp1 : s7.p = s.p ∧ s.p.links.length < 16 := headS_plan hs9
 refine sg0 4 (kOp Y89 [1,0] 1 []) [(0,pt bp 0),(14,pt bp 0)] ?_
 have hA15 : ParAt w0 w6 bp X s7 m8 := ⟨hE11,hM12,hA10.deq,hA10.toks,hA10.cap,hA10.inv⟩
 refine ossP [] (.call 115 [pt bp 0]) (some 15) (kOp Y89 [1,0] 2 []) [] trivial (runs_callP E115 (aNode_anyK w0 bp X s7 m8 w6 hA15)) (fun x w' ⟨e,a,he,hx,hE⟩ => ⟨e,a,by simp only [linkS,hs9,he,andE_ok,andE_error],hx,hE⟩) ?_
 rintro _ w16 ⟨ra,ta,s17,m18,hs19,rfl,hA20⟩
 have hE21 : Ext w0 w16 := hA20.ext
 have hM22 := hA20.hold
 have hp23 := hA20.inv.pos
 have ha24 := hA20.toks.addrE tokCells_len (by decide) hp23
 refine sg0 5 (kOp Y89 [1,1,0] 1 []) [(0,pt bp 0),(2,iv ra),(17,pt bp 0)] ?_
 have hA25 : ParAt w0 w16 bp X s17 m18 := ⟨hE21,hM22,hA20.deq,hA20.toks,hA20.cap,hA20.inv⟩
 refine ossP [] (.call 116 [pt bp 0,.func (.func 21) #[] #[]]) (some 18) (kOp Y89 [1,1,0] 2 []) [] trivial (runs_callP E116 (known_any w0 bp X s17 m18 21 nodeIx w16 hA25 E21 nodeIx_any)) (fun x w' ⟨e,a,he,hx,hE⟩ => ⟨e,a,by simp only [linkS,hs9,hs19,he,andE_ok,andE_error],hx,hE⟩) ?_
 rintro _ w26 ⟨rb,tb,s27,m28,hs29,rfl,hA30⟩
 have hE31 : Ext w0 w26 := hA30.ext
 have hM32 := hA30.hold
 have hp33 := hA30.inv.pos
 have ha34 := hA30.toks.addrE tokCells_len (by decide) hp33
 refine sg0 3 (kOp Y89 [1,1,0] 5 []) [(0,pt bp 0),(2,iv ra),(19,iv rb),(20,(vT tb))] ?_
 refine os0 (.alloc 49) (some 4) (kOp Y89 [1,1,0] 6 []) (runs_alloc (z := .agg #[iv 0,sv ([]),iv 0,iv 0]) (by kernel_rfl)) ?_
 rintro _ w35 ⟨b4,rfl,hN36⟩
 have hE37 := hE31.trans hN36.ext
 have hM38 := hM32.new hN36
 refine sg0 1 (kOp Y89 [1,1,0] 7 []) [(0,pt bp 0),(2,iv ra),(3,iv rb),(4,pt b4 0),(20,(vT tb))] ?_
 refine os0 (.store 49 (pt b4 0) (vT tb)) none (kOp Y89 [1,1,0] 8 []) (runs_st (hM38.blk 0 rfl) (by kernel_rfl)) ?_
 rintro _ w39 hC40
 have hE41 := hM38.toExt hE37 hC40 0 rfl
 have hM42 := hM38.set 0 rfl hC40
 refine sg0 10 (kOp Y89 [1,1,1,0] 7 []) [(0,pt bp 0),(2,iv ra),(3,iv rb),(4,pt b4 0),(27,.agg #[iv (min ra rb),iv (max ra rb),iv 0])] ?_
 refine os0 (.alloc 61) (some 5) (kOp Y89 [1,1,1,0] 8 []) (runs_alloc (z := .agg #[iv 0,iv 0,iv 0]) (by kernel_rfl)) ?_
 rintro _ w43 ⟨b5,rfl,hN44⟩
 have hE45 := hE41.trans hN44.ext
 have hM46 := hM42.new hN44
 refine os0 (.store 61 (pt b5 0) (.agg #[iv (min ra rb),iv (max ra rb),iv 0])) none (kOp Y89 [1,1,1,0] 9 []) (runs_st (hM46.blk 0 rfl) (by kernel_rfl)) ?_
 rintro _ w47 hC48
 have hE49 := hM46.toExt hE45 hC48 0 rfl
 have hM50 := hM46.set 0 rfl hC48
 refine sg0 8 (kOp Y89 (ro1 4 [0,0]) 4 []) [(0,pt bp 0),(4,pt b4 0),(5,pt b5 0),(31,.bool (decide ((ra : Int) = rb)))] ?_
 by_cases h1 : (ra : Int) = rb
 ·refine stEq (st' := (stz [(0,pt bp 0),(4,pt b4 0),(5,pt b5 0),(31,.bool true)])) (by rw [show (decide ((ra : Int) = rb)) = true from decide_eq_true h1] <;> rfl) ?_
  refine sgz 12 [.skip,.skip,.skip,.skip,.skip,.skip,.skip,.exec,.ld (vT tb)] (kOp Y89 (ro1 4 [0,1,0]) 1 []) [(0,pt bp 0),(5,pt b5 0),(40,(vT tb))] [true = (!false),true = (!false),true = (!false),true = (!false),true = (!false),true = (!false),true = (!false),true = true,true = true,cl w47 b4 0 (iv tb.kind),cl w47 b4 1 (sv tb.text),cl w47 b4 2 (iv tb.n),cl w47 b4 3 (iv (tb.at'))] (AC rfl (AC rfl (AC rfl (AC rfl (AC rfl (AC rfl (AC rfl (AC rfl (AC rfl (AC (cell_of (hM50.blk 1 rfl) rfl) (AC (cell_of (hM50.blk 1 rfl) rfl) (AC (cell_of (hM50.blk 1 rfl) rfl) (A1 (cell_of (hM50.blk 1 rfl) rfl)))))))))))))) ?_
  refine ossP [] (.call 93 [(vT tb),iv 43]) (some 41) (kOp Y89 (ro1 4 [0,1,0]) 2 []) [] trivial (runs_callP E93 (fail_any tb 43 w47)) (fun x w' ⟨hx,hE⟩ => ⟨43,tb.at',by simp only [linkS,hs9,hs19,hs29,andE_ok]; exact if_pos (.inl h1),hx,hE49.trans hE⟩) ?_
  rintro _ _ ⟨⟩
 refine stEq (st' := (stz [(0,pt bp 0),(4,pt b4 0),(5,pt b5 0),(31,.bool false)])) (by rw [show (decide ((ra : Int) = rb)) = false from decide_eq_false h1] <;> rfl) ?_
 refine sgz 6 [.exec,.exec,.exec,.exec,.exec,.ld (.slice m28.q.a2 s27.p.links.length m28.q.c2),.exec] (kOp Y89 (ro1 4 [0,0]) 10 []) [(0,pt bp 0),(4,pt b4 0),(5,pt b5 0),(31,.bool false),(36,.slice m28.q.a2 s27.p.links.length m28.q.c2),(37,.func (.func 118) #[] #[pt b5 0])] [false = false,false = false,false = false,false = false,false = false,cl w47 bp 4 (.slice m28.q.a2 s27.p.links.length m28.q.c2),false = false] (AC rfl (AC rfl (AC rfl (AC rfl (AC rfl (AC (cell_of (hM50.blk 2 rfl) rfl) (A1 rfl))))))) ?_
 have hA51 : ParAt w0 w47 bp ([.blk b5 ([iv (min ra rb),iv (max ra rb),iv 0]) 61,.blk b4 ([iv tb.kind,sv tb.text,iv tb.n,iv (tb.at')]) 49] ++ X) s27 m28 := ⟨hE49,(hM50.pick 7 [2,3,4,5,6,0,1] (by kernel_rfl) (by kernel_rfl)),hA30.deq,hA30.toks,hA30.cap,hA30.inv⟩
 have hnl3 := hA51.inv.nl
 have hb5 := (hA51.hold.blk 5 rfl)
 refine oss [.exec] (.call 117 [.slice m28.q.a2 s27.p.links.length m28.q.c2,.func (.func 118) #[] #[pt b5 0]]) (some 38) (kOp Y89 (ro1 4 [0,0]) 11 []) [false = false] (A1 rfl) (runs_call E117 (anyLink s27.p.links m28.q.a2 m28.q.c2 118 b5 (fun y : PLink => decide (min ra rb = y.a) && decide (max ra rb = y.b)) w47 E118 (fun k _ w9 hE9 => (link1_any (s27.p.links.getD k d0L) (min ra rb) (max ra rb) 0 b5 w9 (hE9.heap hb5))) hA51.plan.links (by omega))) ?_
 rintro _ w52 ⟨rfl,hxl⟩
 have hE53 := hE49.trans hxl
 have hM54 := hA51.hold.ext hxl
 refine sg0 2 (kAt Y89 (ro1 4 [0,1]) []) [(0,pt bp 0),(4,pt b4 0),(5,pt b5 0),(39,.bool (s27.p.links.any (fun y : PLink => decide (min ra rb = y.a) && decide (max ra rb = y.b))))] ?_
 refine brk _ ((s27.p.links.any (fun y : PLink => decide (min ra rb = y.a) && decide (max ra rb = y.b))) = true) (Iff.rfl) (fun h2 => ?_) (fun h2 => ?_)
 ·refine sgz 2 [.ld (vT tb)] (kOp Y89 (ro1 4 [0,1,0]) 1 []) [(0,pt bp 0),(5,pt b5 0),(40,(vT tb))] [cl w52 b4 0 (iv tb.kind),cl w52 b4 1 (sv tb.text),cl w52 b4 2 (iv tb.n),cl w52 b4 3 (iv (tb.at'))] (AC (cell_of (hM54.blk 6 rfl) rfl) (AC (cell_of (hM54.blk 6 rfl) rfl) (AC (cell_of (hM54.blk 6 rfl) rfl) (A1 (cell_of (hM54.blk 6 rfl) rfl))))) ?_
  refine ossP [] (.call 93 [(vT tb),iv 43]) (some 41) (kOp Y89 (ro1 4 [0,1,0]) 2 []) [] trivial (runs_callP E93 (fail_any tb 43 w52)) (fun x w' ⟨hx,hE⟩ => ⟨43,tb.at',by simp only [linkS,hs9,hs19,hs29,andE_ok]; exact if_pos (.inr h2),hx,hE53.trans hE⟩) ?_
  rintro _ _ ⟨⟩
 have hnot : ¬ (ra = rb ∨ hasLink s27.p (min ra rb) (max ra rb) = true) := fun h => h.elim h1 h2
 refine sg0 4 (kOp Y89 (ro1 5 [0]) 1 []) [(0,pt bp 0),(5,pt b5 0),(42,pt bp 0)] ?_
 have hA55 : ParAt w0 w52 bp ([.blk b5 ([iv (min ra rb),iv (max ra rb),iv 0]) 61,.blk b4 ([iv tb.kind,sv tb.text,iv tb.n,iv (tb.at')]) 49] ++ X) s27 m28 := ⟨hE53,hM54,hA30.deq,hA30.toks,hA30.cap,hA30.inv⟩
 refine ossP [] (.call 111 [pt bp 0,iv 1,iv 15]) (some 43) (kOp Y89 (ro1 5 [0]) 2 []) [] trivial (runs_callP E111 (number_anyP w0 bp ([.blk b5 ([iv (min ra rb),iv (max ra rb),iv 0]) 61,.blk b4 ([iv tb.kind,sv tb.text,iv tb.n,iv (tb.at')]) 49] ++ X) s27 m28 1 15 w52 hA55)) (fun x w' ⟨e,a,he,hx,hE⟩ => ⟨e,a,by simp only [linkS,hs9,hs19,hs29,if_neg hnot,he,andE_ok,andE_error],hx,hE⟩) ?_
 rintro _ w56 ⟨n,s57,m58,hs59,rfl,hA60⟩
 have hE61 : Ext w0 w56 := hA60.ext
 have hM62 := hA60.hold
 have hp63 := hA60.inv.pos
 have ha64 := hA60.toks.addrE tokCells_len (by decide) hp63
 refine sg0 1 (kOp Y89 (ro1 5 [0]) 3 []) [(0,pt bp 0),(5,pt b5 0),(43,iv n),(44,pt b5 2)] ?_
 refine os0 (.store 3 (pt b5 2) (iv n)) none (kOp Y89 (ro1 5 [0]) 4 []) (runs_st (hM62.blk 5 rfl) (by kernel_rfl)) ?_
 rintro _ w65 hC66
 have hE67 := hM62.toExt hE61 hC66 5 rfl
 have hM68 := hM62.set 5 rfl hC66
 refine sg0 4 (kOp Y89 (ro1 6 [0]) 1 []) [(0,pt bp 0),(5,pt b5 0),(45,pt bp 0)] ?_
 have hA69 : ParAt w0 w65 bp ([.blk b5 ([iv (min ra rb),iv (max ra rb),iv n]) 61,.blk b4 ([iv tb.kind,sv tb.text,iv tb.n,iv (tb.at')]) 49] ++ X) s57 m58 := ⟨hE67,hM68,hA60.deq,hA60.toks,hA60.cap,hA60.inv⟩
 refine ossP [] (.call 112 [pt bp 0]) (some 46) (kOp Y89 (ro1 6 [0]) 2 []) [] trivial (runs_callP E112 (stop_any w0 bp ([.blk b5 ([iv (min ra rb),iv (max ra rb),iv n]) 61,.blk b4 ([iv tb.kind,sv tb.text,iv tb.n,iv (tb.at')]) 49] ++ X) s57 m58  w65 hA69)) (fun x w' ⟨e,a,he,hx,hE⟩ => ⟨e,a,by simp only [linkS,hs9,hs19,hs29,if_neg hnot,hs59,he,andE_ok,andE_error],hx,hE⟩) ?_
 rintro _ w70 ⟨s71,m72,hs73,rfl,hA74⟩
 have hE75 : Ext w0 w70 := hA74.ext
 have hM76 := hA74.hold
 have hp77 := hA74.inv.pos
 have ha78 := hA74.toks.addrE tokCells_len (by decide) hp77
 have hp5 : s71.p.links.length < 16 := by rw [stopS_plan hs73,numberS_plan hs59,knownS_plan hs29,knownS_plan hs19,hp1.1]; exact hp1.2
 refine sg0 1 (kAt Y89 (ro1 7 []) []) [(0,pt bp 0),(5,pt b5 0)] ?_
 refine dBegin (k' := []) (id := 8) (m := 13) (ops := opsAt (cAt Y89 (ro1 7 []))) (fun _ w' => w'.heap[b5]? = some (.cells #[iv (min ra rb),iv (max ra rb),iv n] 61 (0,0))) (by kernel_rfl) (PQ.body _ _ _) (by kernel_rfl) (by kernel_rfl) ?_
 intro w79 hx80
 have hE81 := hE75.trans hx80
 have hM82 := hM76.ext hx80
 refine dtz [0,1,2,3,4,6] [.ld (.agg #[iv (min ra rb),iv (max ra rb),iv n])] 7 (lb 13 95) [(47,pt bp 0),(51,pt bp 4),(53,.agg #[iv (min ra rb),iv (max ra rb),iv n])] (fun w' => [cl w' b5 0 (iv (min ra rb)),cl w' b5 1 (iv (max ra rb)),cl w' b5 2 (iv n)]) (fun w' hS => (AC (cell_of hS rfl) (AC (cell_of hS rfl) (A1 (cell_of hS rfl))))) ((hM82.blk 5 rfl)) ?_
 refine dAll 5 [7] (by kernel_rfl) ?_
 refine ⟨?_,?_⟩
 ·refine dos [] (.load 25 (pt bp 4)) (some 52) [] (lb 13 127) trivial (runs_load (v := .slice m72.q.a2 s71.p.links.length m72.q.c2) (ps := [cl w79 bp 4 (.slice m72.q.a2 s71.p.links.length m72.q.c2)]) (by kernel_rfl) (A1 (cell_of (hM82.blk 0 rfl) rfl))) ?_
  rintro _ _ ⟨rfl,rfl⟩
  refine ⟨(hM82.blk 5 rfl),?_⟩
  refine dAll 7 [] (by kernel_rfl) ?_
  refine dos [] (.bslice 25 1 [(0,.agg #[iv (min ra rb),iv (max ra rb),iv n])]) (some 54) [] (lb 13 255) trivial (runs_bslice (cs := [iv (min ra rb),iv (max ra rb),iv n]) (e := 61) (by kernel_rfl)) ?_
  rintro _ w83 ⟨be,rfl,hN84⟩
  have hE85 := hE81.trans hN84.ext
  have hM86 := hM82.new hN84
  refine ⟨(hM86.blk 6 rfl),?_⟩
  refine dAll 8 [] (by kernel_rfl) ?_
  refine dos [] (.builtin .append #[25,25] 25 #[false,false] [.slice m72.q.a2 s71.p.links.length m72.q.c2,.slice (some ⟨be,0,none⟩) 1 1]) (some 55) [] (lb 13 511) trivial (runs_appH (e := 61) (size := 3) (bytes := 24) (by kernel_rfl) (hM86.row 3 rfl) (m := 1) (news := [iv (min ra rb),iv (max ra rb),iv n]) (hM86.blk 0 rfl) rfl (by simp [Value.oneCell']) (by omega) (by omega) hM86.base) ?_
  rintro vs88 w87 ⟨hr89,hg90,ho91⟩
  have hr92 : w87.ownsRow w0.heap.size 61 3 vs88 ((s71.p.links ++ [(⟨min ra rb,max ra rb,n⟩ : PLink)]).length) ((s71.p.links ++ [(⟨min ra rb,max ra rb,n⟩ : PLink)]).flatMap linkC) := by simpa [linkC] using hr89
  have hE93 := hM86.toExtApp hE85 3 rfl hg90
  have hM94 := hM86.app 3 rfl hr92 hg90 ho91
  obtain ⟨av,ac,hvsvs88⟩ := row_slice (hM94.row 3 rfl)
  subst hvsvs88
  refine ⟨(hM94.blk 6 rfl),?_⟩
  refine dtz [9,10,11] [] 1 (lb 13 4095) [(55,.slice av ((s71.p.links ++ [(⟨min ra rb,max ra rb,n⟩ : PLink)]).length) ac),(58,pt bp 4)] (fun w' => []) (fun w' hS => trivial) ((hM94.blk 6 rfl)) ?_
  refine dAll 12 [] (by kernel_rfl) ?_
  refine dos [] (.store 25 (pt bp 4) (.slice av ((s71.p.links ++ [(⟨min ra rb,max ra rb,n⟩ : PLink)]).length) ac)) none [] (lb 13 8191) trivial (runs_st (hM94.blk 1 rfl) (by kernel_rfl)) ?_
  rintro _ w95 hC96
  have hE97 := hM94.toExt hE93 hC96 1 rfl
  have hM98 := hM94.set 1 rfl hC96
  refine ⟨(hM98.blk 6 rfl),?_⟩
  refine dDone (by kernel_rfl) ?_
  exact endP (hs := []) (vs := []) (ps := []) (by kernel_rfl) trivial (v := .tuple #[]) rfl (⟨⟨addLink s71.p ⟨min ra rb,max ra rb,n⟩,s71.ts⟩,⟨{ m72.q with a2 := av,c2 := ac },m72.ta,m72.tc⟩,by simp only [linkS,hs9,hs19,hs29,hs59,hs73,andE_ok,if_neg hnot],rfl,⟨hE97,(hM98.pick 8 [1,2,3,4,5] (by kernel_rfl) (by kernel_rfl)),hA74.deq,hA74.toks,hA74.cap,(hA74.inv.link hp5)⟩⟩)
 refine dos [] (.bslice 25 1 [(0,.agg #[iv (min ra rb),iv (max ra rb),iv n])]) (some 54) [] (lb 13 223) trivial (runs_bslice (cs := [iv (min ra rb),iv (max ra rb),iv n]) (e := 61) (by kernel_rfl)) ?_
 rintro _ w99 ⟨be,rfl,hN100⟩
 have hE101 := hE81.trans hN100.ext
 have hM102 := hM82.new hN100
 refine ⟨(hM102.blk 6 rfl),?_⟩
 refine dAll 5 [] (by kernel_rfl) ?_
 refine dos [] (.load 25 (pt bp 4)) (some 52) [] (lb 13 255) trivial (runs_load (v := .slice m72.q.a2 s71.p.links.length m72.q.c2) (ps := [cl w99 bp 4 (.slice m72.q.a2 s71.p.links.length m72.q.c2)]) (by kernel_rfl) (A1 (cell_of (hM102.blk 1 rfl) rfl))) ?_
 rintro _ _ ⟨rfl,rfl⟩
 refine ⟨(hM102.blk 6 rfl),?_⟩
 refine dAll 8 [] (by kernel_rfl) ?_
 refine dos [] (.builtin .append #[25,25] 25 #[false,false] [.slice m72.q.a2 s71.p.links.length m72.q.c2,.slice (some ⟨be,0,none⟩) 1 1]) (some 55) [] (lb 13 511) trivial (runs_appH (e := 61) (size := 3) (bytes := 24) (by kernel_rfl) (hM102.row 3 rfl) (m := 1) (news := [iv (min ra rb),iv (max ra rb),iv n]) (hM102.blk 0 rfl) rfl (by simp [Value.oneCell']) (by omega) (by omega) hM102.base) ?_
 rintro vs104 w103 ⟨hr105,hg106,ho107⟩
 have hr108 : w103.ownsRow w0.heap.size 61 3 vs104 ((s71.p.links ++ [(⟨min ra rb,max ra rb,n⟩ : PLink)]).length) ((s71.p.links ++ [(⟨min ra rb,max ra rb,n⟩ : PLink)]).flatMap linkC) := by simpa [linkC] using hr105
 have hE109 := hM102.toExtApp hE101 3 rfl hg106
 have hM110 := hM102.app 3 rfl hr108 hg106 ho107
 obtain ⟨av,ac,hvsvs104⟩ := row_slice (hM110.row 3 rfl)
 subst hvsvs104
 refine ⟨(hM110.blk 6 rfl),?_⟩
 refine dtz [9,10,11] [] 1 (lb 13 4095) [(55,.slice av ((s71.p.links ++ [(⟨min ra rb,max ra rb,n⟩ : PLink)]).length) ac),(58,pt bp 4)] (fun w' => []) (fun w' hS => trivial) ((hM110.blk 6 rfl)) ?_
 refine dAll 12 [] (by kernel_rfl) ?_
 refine dos [] (.store 25 (pt bp 4) (.slice av ((s71.p.links ++ [(⟨min ra rb,max ra rb,n⟩ : PLink)]).length) ac)) none [] (lb 13 8191) trivial (runs_st (hM110.blk 1 rfl) (by kernel_rfl)) ?_
 rintro _ w111 hC112
 have hE113 := hM110.toExt hE109 hC112 1 rfl
 have hM114 := hM110.set 1 rfl hC112
 refine ⟨(hM114.blk 6 rfl),?_⟩
 refine dDone (by kernel_rfl) ?_
 exact endP (hs := []) (vs := []) (ps := []) (by kernel_rfl) trivial (v := .tuple #[]) rfl (⟨⟨addLink s71.p ⟨min ra rb,max ra rb,n⟩,s71.ts⟩,⟨{ m72.q with a2 := av,c2 := ac },m72.ta,m72.tc⟩,by simp only [linkS,hs9,hs19,hs29,hs59,hs73,andE_ok,if_neg hnot],rfl,⟨hE113,(hM114.pick 8 [1,2,3,4,5] (by kernel_rfl) (by kernel_rfl)),hA74.deq,hA74.toks,hA74.cap,(hA74.inv.link hp5)⟩⟩)

end Go.Proofs.YtjhgghpeapmgdaaGreatDoor
