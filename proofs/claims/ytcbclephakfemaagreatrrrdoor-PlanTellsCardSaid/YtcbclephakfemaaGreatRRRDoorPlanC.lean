/-
  PLAN: contracts of the short loops of package slices.
-/
import Derived.Test.YtcbclephakfemaaGreatRRRDoorPlanB
import Derived.Test.YtcbclephakfemaaGreatRRRDoorPlanRight
import Derived.Test.YtcbclephakfemaaGreatRRRDoorLz
import Derived.Test.YtcbclephakfemaaGreatRRRDoorFns
namespace Go.Proofs.YtcbclephakfemaaGreatRRRDoor
open Go.Bk Go.Proofs

theorem E45 : Proofs.Enters Tryz.prog 45 := Proofs.enters_of Tryz.func45 (by kernel_rfl) rfl

theorem E47 : Proofs.Enters Tryz.prog 47 := Proofs.enters_of Tryz.func47 (by kernel_rfl) rfl

theorem E62 : Proofs.Enters Tryz.prog 62 := Proofs.enters_of Tryz.func62 (by kernel_rfl) rfl

theorem E70 : Proofs.Enters Tryz.prog 70 := Proofs.enters_of Tryz.func70 (by kernel_rfl) rfl

theorem E55 : Proofs.Enters Tryz.prog 55 := Proofs.enters_of Tryz.func55 (by kernel_rfl) rfl

theorem E33 : Proofs.Enters Tryz.prog 33 := Proofs.enters_of Tryz.func33 (by kernel_rfl) rfl

theorem E34 : Proofs.Enters Tryz.prog 34 := Proofs.enters_of Tryz.func34 (by kernel_rfl) rfl

theorem E58 : Proofs.Enters Tryz.prog 58 := Proofs.enters_of Tryz.func58 (by kernel_rfl) rfl

theorem E41 : Proofs.Enters Tryz.prog 41 := Proofs.enters_of Tryz.func41 (by kernel_rfl) rfl

theorem E42 : Proofs.Enters Tryz.prog 42 := Proofs.enters_of Tryz.func42 (by kernel_rfl) rfl

theorem E44 : Proofs.Enters Tryz.prog 44 := Proofs.enters_of Tryz.func44 (by kernel_rfl) rfl

theorem E40 : Proofs.Enters Tryz.prog 40 := Proofs.enters_of Tryz.func40 (by kernel_rfl) rfl

def idxNode0L (xs : List PNode) (a : Option Addr) (c : Nat) (F : FuncId) (pr : PNode → Bool) (w : World) : Lp Nat where
  S := fun k => [(0,none,.slice a xs.length c),(1,none,.func (.func F) #[] #[]),(7,none,iv (xs.length:Int)),(8,none,iv (k:Int))]
  J := fun k w' => Ext w w' ∧ k ≤ xs.length ∧ ∀ j,j < k → pr (xs.getD j d0N) = false
  M := fun k => xs.length - k
set_option maxRecDepth 20000 in
theorem idxNode0 (xs : List PNode) (a : Option Addr) (c : Nat) (F : FuncId) (pr : PNode → Bool) (w : World) (hE : Enters Tryz.prog F) (hF : ∀ k,k < xs.length → ∀ w',Ext w w' → Does Tryz.prog F [(vN (xs.getD k d0N))] w' fun v w2 => v = .bool (pr (xs.getD k d0N)) ∧ Ext w' w2) (hc : Cells w a (xs.flatMap nodeC)) (hl : xs.length ≤ 140737488355328) :
    Does Tryz.prog 45 [.slice a xs.length c,.func (.func F) #[] #[]] w (fun v w' => v = .int .i64 (idxI pr xs) ∧ Ext w w') := by
 refine startZ (c := Y45) Tryz.func45 rfl (by kernel_rfl) ?_
 show H _ 19 [] _ (kAt Y45 [] []) (stz [(0,.slice a xs.length c),(1,.func (.func F) #[] #[])]) w
 have hE1 : Ext w w := Ext.refl w
 refine Zs 12 [] [] trivial ?_
 refine ZLoop (idxNode0L xs a c F pr w) (k' := (kEnd Y45 [1,0,1,0] [])) (body := (cAt Y45 [1,0,1,0,0])) (by kernel_rfl) 0 [0,1,7,8] (by kernel_rfl) (⟨hE1,by omega,fun j h => by omega⟩) ?_
 rintro k w0 ⟨K1,hk,hp⟩
 refine Zq 5 ((k:Int) < (xs.length:Int)) (fun h1 => ?_) (fun h1 => ?_)
 ·have hk2 : k < xs.length := by omega
  have ha := hc.addrE nodeC_len (by decide) hk2
  refine Zs 15 [.ld (vN (xs.getD k d0N))] [(0 ≤ (k:Int) ∧ (k:Int) < (xs.length:Int)),(a : Option Addr) = some ⟨(slB a),slO a,none⟩,cl w0 (slB a) (slO a + k * 2) (sv ((xs.getD k d0N).name)),cl w0 (slB a) (slO a + k * 2 + 1) (iv ((xs.getD k d0N).asn))] (AC (by omega) (AC (by assumption) (AC (K1.cell (cellAt nodeC_len d0N hc hk2 (j := 0) rfl)) (A1 (K1.cell (cellAt nodeC_len d0N hc hk2 (j := 1) rfl)))))) ?_
  refine Z0 0 (.call F [(vN (xs.getD k d0N))]) (runs_call hE (hF k hk2 w0 K1)) ?_
  rintro _ w1 ⟨rfl,hx⟩
  have hE2 := K1.trans hx
  refine Zr 1 _ ((pr (xs.getD k d0N)) = true) (Iff.rfl) (fun h2 => ?_) (fun h2 => ?_)
  ·exact Z1 5 (iv (k:Int)) (⟨by rw [idxI_hit d0N hk2 hp h2],hE2⟩)
  refine Zs 6 [] [I64 ((k + 1:Nat):Int)] (A1 (i64 (by omega))) ?_
  exact ZA 0 (idxNode0L xs a c F pr w) k (k + 1) [0,1,7,8] (⟨hE2,by omega,fun j hj => by by_cases e : j = k; (subst e; simpa using h2); exact hp j (by omega)⟩) (show xs.length - (k + 1) < xs.length - k by omega)
 exact Z1 5 (iv (-1)) (⟨by rw [idxI_miss d0N (fun j hj => hp j (by omega))],K1⟩)

def idxNode1L (xs : List PNode) (a : Option Addr) (c : Nat) (F : FuncId) (b0 : Nat) (pr : PNode → Bool) (w : World) : Lp Nat where
  S := fun k => [(0,none,.slice a xs.length c),(1,none,.func (.func F) #[] #[pt b0 0]),(7,none,iv (xs.length:Int)),(8,none,iv (k:Int))]
  J := fun k w' => Ext w w' ∧ k ≤ xs.length ∧ ∀ j,j < k → pr (xs.getD j d0N) = false
  M := fun k => xs.length - k
set_option maxRecDepth 20000 in
theorem idxNode1 (xs : List PNode) (a : Option Addr) (c : Nat) (F : FuncId) (b0 : Nat) (pr : PNode → Bool) (w : World) (hE : Enters Tryz.prog F) (hF : ∀ k,k < xs.length → ∀ w',Ext w w' → Does Tryz.prog F [(vN (xs.getD k d0N)),pt b0 0] w' fun v w2 => v = .bool (pr (xs.getD k d0N)) ∧ Ext w' w2) (hc : Cells w a (xs.flatMap nodeC)) (hl : xs.length ≤ 140737488355328) :
    Does Tryz.prog 45 [.slice a xs.length c,.func (.func F) #[] #[pt b0 0]] w (fun v w' => v = .int .i64 (idxI pr xs) ∧ Ext w w') := by
 refine startZ (c := Y45) Tryz.func45 rfl (by kernel_rfl) ?_
 show H _ 19 [] _ (kAt Y45 [] []) (stz [(0,.slice a xs.length c),(1,.func (.func F) #[] #[pt b0 0])]) w
 have hE1 : Ext w w := Ext.refl w
 refine Zs 12 [] [] trivial ?_
 refine ZLoop (idxNode1L xs a c F b0 pr w) (k' := (kEnd Y45 [1,0,1,0] [])) (body := (cAt Y45 [1,0,1,0,0])) (by kernel_rfl) 0 [0,1,7,8] (by kernel_rfl) (⟨hE1,by omega,fun j h => by omega⟩) ?_
 rintro k w0 ⟨K1,hk,hp⟩
 refine Zq 5 ((k:Int) < (xs.length:Int)) (fun h1 => ?_) (fun h1 => ?_)
 ·have hk2 : k < xs.length := by omega
  have ha := hc.addrE nodeC_len (by decide) hk2
  refine Zs 15 [.ld (vN (xs.getD k d0N))] [(0 ≤ (k:Int) ∧ (k:Int) < (xs.length:Int)),(a : Option Addr) = some ⟨(slB a),slO a,none⟩,cl w0 (slB a) (slO a + k * 2) (sv ((xs.getD k d0N).name)),cl w0 (slB a) (slO a + k * 2 + 1) (iv ((xs.getD k d0N).asn))] (AC (by omega) (AC (by assumption) (AC (K1.cell (cellAt nodeC_len d0N hc hk2 (j := 0) rfl)) (A1 (K1.cell (cellAt nodeC_len d0N hc hk2 (j := 1) rfl)))))) ?_
  refine Z0 0 (.call F [(vN (xs.getD k d0N)),pt b0 0]) (runs_call hE (hF k hk2 w0 K1)) ?_
  rintro _ w1 ⟨rfl,hx⟩
  have hE2 := K1.trans hx
  refine Zr 1 _ ((pr (xs.getD k d0N)) = true) (Iff.rfl) (fun h2 => ?_) (fun h2 => ?_)
  ·exact Z1 5 (iv (k:Int)) (⟨by rw [idxI_hit d0N hk2 hp h2],hE2⟩)
  refine Zs 6 [] [I64 ((k + 1:Nat):Int)] (A1 (i64 (by omega))) ?_
  exact ZA 0 (idxNode1L xs a c F b0 pr w) k (k + 1) [0,1,7,8] (⟨hE2,by omega,fun j hj => by by_cases e : j = k; (subst e; simpa using h2); exact hp j (by omega)⟩) (show xs.length - (k + 1) < xs.length - k by omega)
 exact Z1 5 (iv (-1)) (⟨by rw [idxI_miss d0N (fun j hj => hp j (by omega))],K1⟩)

def idxDest1L (xs : List DA) (a : Option Addr) (c : Nat) (F : FuncId) (b0 : Nat) (pr : DA → Bool) (w : World) : Lp Nat where
  S := fun k => [(0,none,.slice a xs.length c),(1,none,.func (.func F) #[] #[pt b0 0]),(7,none,iv (xs.length:Int)),(8,none,iv (k:Int))]
  J := fun k w' => Ext w w' ∧ k ≤ xs.length ∧ ∀ j,j < k → pr (xs.getD j d0A) = false
  M := fun k => xs.length - k
set_option maxRecDepth 20000 in
theorem idxDest1 (xs : List DA) (a : Option Addr) (c : Nat) (F : FuncId) (b0 : Nat) (pr : DA → Bool) (w : World) (hE : Enters Tryz.prog F) (hF : ∀ k,k < xs.length → ∀ w',Ext w w' → Does Tryz.prog F [(vD (xs.getD k d0A)),pt b0 0] w' fun v w2 => v = .bool (pr (xs.getD k d0A)) ∧ Ext w' w2) (hc : Cells w a (xs.flatMap destC)) (hl : xs.length ≤ 140737488355328) :
    Does Tryz.prog 47 [.slice a xs.length c,.func (.func F) #[] #[pt b0 0]] w (fun v w' => v = .int .i64 (idxI pr xs) ∧ Ext w w') := by
 refine startZ (c := Y47) Tryz.func47 rfl (by kernel_rfl) ?_
 show H _ 19 [] _ (kAt Y47 [] []) (stz [(0,.slice a xs.length c),(1,.func (.func F) #[] #[pt b0 0])]) w
 have hE1 : Ext w w := Ext.refl w
 refine Zs 12 [] [] trivial ?_
 refine ZLoop (idxDest1L xs a c F b0 pr w) (k' := (kEnd Y47 [1,0,1,0] [])) (body := (cAt Y47 [1,0,1,0,0])) (by kernel_rfl) 0 [0,1,7,8] (by kernel_rfl) (⟨hE1,by omega,fun j h => by omega⟩) ?_
 rintro k w0 ⟨K1,hk,hp⟩
 refine Zq 5 ((k:Int) < (xs.length:Int)) (fun h1 => ?_) (fun h1 => ?_)
 ·have hk2 : k < xs.length := by omega
  have ha := hc.addrE destC_len (by decide) hk2
  refine Zs 15 [.ld (vD (xs.getD k d0A))] [(0 ≤ (k:Int) ∧ (k:Int) < (xs.length:Int)),(a : Option Addr) = some ⟨(slB a),slO a,none⟩,cl w0 (slB a) (slO a + k * 2) (sv ((xs.getD k d0A).d.name)),cl w0 (slB a) (slO a + k * 2 + 1) (.slice (xs.getD k d0A).a ((xs.getD k d0A).d.origins.length) ((xs.getD k d0A).c))] (AC (by omega) (AC (by assumption) (AC (K1.cell (cellAt destC_len d0A hc hk2 (j := 0) rfl)) (A1 (K1.cell (cellAt destC_len d0A hc hk2 (j := 1) rfl)))))) ?_
  refine Z0 0 (.call F [(vD (xs.getD k d0A)),pt b0 0]) (runs_call hE (hF k hk2 w0 K1)) ?_
  rintro _ w1 ⟨rfl,hx⟩
  have hE2 := K1.trans hx
  refine Zr 1 _ ((pr (xs.getD k d0A)) = true) (Iff.rfl) (fun h2 => ?_) (fun h2 => ?_)
  ·exact Z1 5 (iv (k:Int)) (⟨by rw [idxI_hit d0A hk2 hp h2],hE2⟩)
  refine Zs 6 [] [I64 ((k + 1:Nat):Int)] (A1 (i64 (by omega))) ?_
  exact ZA 0 (idxDest1L xs a c F b0 pr w) k (k + 1) [0,1,7,8] (⟨hE2,by omega,fun j hj => by by_cases e : j = k; (subst e; simpa using h2); exact hp j (by omega)⟩) (show xs.length - (k + 1) < xs.length - k by omega)
 exact Z1 5 (iv (-1)) (⟨by rw [idxI_miss d0A (fun j hj => hp j (by omega))],K1⟩)

def idxCheck1L (xs : List PCheck) (a : Option Addr) (c : Nat) (F : FuncId) (b0 : Nat) (pr : PCheck → Bool) (w : World) : Lp Nat where
  S := fun k => [(0,none,.slice a xs.length c),(1,none,.func (.func F) #[] #[pt b0 0]),(7,none,iv (xs.length:Int)),(8,none,iv (k:Int))]
  J := fun k w' => Ext w w' ∧ k ≤ xs.length ∧ ∀ j,j < k → pr (xs.getD j d0C) = false
  M := fun k => xs.length - k
set_option maxRecDepth 20000 in
theorem idxCheck1 (xs : List PCheck) (a : Option Addr) (c : Nat) (F : FuncId) (b0 : Nat) (pr : PCheck → Bool) (w : World) (hE : Enters Tryz.prog F) (hF : ∀ k,k < xs.length → ∀ w',Ext w w' → Does Tryz.prog F [(vC (xs.getD k d0C)),pt b0 0] w' fun v w2 => v = .bool (pr (xs.getD k d0C)) ∧ Ext w' w2) (hc : Cells w a (xs.flatMap checkC)) (hl : xs.length ≤ 140737488355328) :
    Does Tryz.prog 62 [.slice a xs.length c,.func (.func F) #[] #[pt b0 0]] w (fun v w' => v = .int .i64 (idxI pr xs) ∧ Ext w w') := by
 refine startZ (c := Y62) Tryz.func62 rfl (by kernel_rfl) ?_
 show H _ 19 [] _ (kAt Y62 [] []) (stz [(0,.slice a xs.length c),(1,.func (.func F) #[] #[pt b0 0])]) w
 have hE1 : Ext w w := Ext.refl w
 refine Zs 12 [] [] trivial ?_
 refine ZLoop (idxCheck1L xs a c F b0 pr w) (k' := (kEnd Y62 [1,0,1,0] [])) (body := (cAt Y62 [1,0,1,0,0])) (by kernel_rfl) 0 [0,1,7,8] (by kernel_rfl) (⟨hE1,by omega,fun j h => by omega⟩) ?_
 rintro k w0 ⟨K1,hk,hp⟩
 refine Zq 5 ((k:Int) < (xs.length:Int)) (fun h1 => ?_) (fun h1 => ?_)
 ·have hk2 : k < xs.length := by omega
  have ha := hc.addrE checkC_len (by decide) hk2
  refine Zs 15 [.ld (vC (xs.getD k d0C))] [(0 ≤ (k:Int) ∧ (k:Int) < (xs.length:Int)),(a : Option Addr) = some ⟨(slB a),slO a,none⟩,cl w0 (slB a) (slO a + k * 5) (iv ((xs.getD k d0C).kind)),cl w0 (slB a) (slO a + k * 5 + 1) (iv ((xs.getD k d0C).node)),cl w0 (slB a) (slO a + k * 5 + 2) (iv ((xs.getD k d0C).dest)),cl w0 (slB a) (slO a + k * 5 + 3) (iv ((xs.getD k d0C).limit)),cl w0 (slB a) (slO a + k * 5 + 4) (iv ((xs.getD k d0C).other))] (AC (by omega) (AC (by assumption) (AC (K1.cell (cellAt checkC_len d0C hc hk2 (j := 0) rfl)) (AC (K1.cell (cellAt checkC_len d0C hc hk2 (j := 1) rfl)) (AC (K1.cell (cellAt checkC_len d0C hc hk2 (j := 2) rfl)) (AC (K1.cell (cellAt checkC_len d0C hc hk2 (j := 3) rfl)) (A1 (K1.cell (cellAt checkC_len d0C hc hk2 (j := 4) rfl))))))))) ?_
  refine Z0 0 (.call F [(vC (xs.getD k d0C)),pt b0 0]) (runs_call hE (hF k hk2 w0 K1)) ?_
  rintro _ w1 ⟨rfl,hx⟩
  have hE2 := K1.trans hx
  refine Zr 1 _ ((pr (xs.getD k d0C)) = true) (Iff.rfl) (fun h2 => ?_) (fun h2 => ?_)
  ·exact Z1 5 (iv (k:Int)) (⟨by rw [idxI_hit d0C hk2 hp h2],hE2⟩)
  refine Zs 6 [] [I64 ((k + 1:Nat):Int)] (A1 (i64 (by omega))) ?_
  exact ZA 0 (idxCheck1L xs a c F b0 pr w) k (k + 1) [0,1,7,8] (⟨hE2,by omega,fun j hj => by by_cases e : j = k; (subst e; simpa using h2); exact hp j (by omega)⟩) (show xs.length - (k + 1) < xs.length - k by omega)
 exact Z1 5 (iv (-1)) (⟨by rw [idxI_miss d0C (fun j hj => hp j (by omega))],K1⟩)

def idxStr0L (xs : List Bytes) (a : Option Addr) (c : Nat) (F : FuncId) (pr : Bytes → Bool) (w : World) : Lp Nat where
  S := fun k => [(0,none,.slice a xs.length c),(1,none,.func (.func F) #[] #[]),(7,none,iv (xs.length:Int)),(8,none,iv (k:Int))]
  J := fun k w' => Ext w w' ∧ k ≤ xs.length ∧ ∀ j,j < k → pr (xs.getD j []) = false
  M := fun k => xs.length - k
set_option maxRecDepth 20000 in
theorem idxStr0 (xs : List Bytes) (a : Option Addr) (c : Nat) (F : FuncId) (pr : Bytes → Bool) (w : World) (hE : Enters Tryz.prog F) (hF : ∀ k,k < xs.length → ∀ w',Ext w w' → Does Tryz.prog F [sv (xs.getD k [])] w' fun v w2 => v = .bool (pr (xs.getD k [])) ∧ Ext w' w2) (hc : Cells w a (xs.flatMap strC)) (hl : xs.length ≤ 140737488355328) :
    Does Tryz.prog 70 [.slice a xs.length c,.func (.func F) #[] #[]] w (fun v w' => v = .int .i64 (idxI pr xs) ∧ Ext w w') := by
 refine startZ (c := Y70) Tryz.func70 rfl (by kernel_rfl) ?_
 show H _ 19 [] _ (kAt Y70 [] []) (stz [(0,.slice a xs.length c),(1,.func (.func F) #[] #[])]) w
 have hE1 : Ext w w := Ext.refl w
 refine Zs 12 [] [] trivial ?_
 refine ZLoop (idxStr0L xs a c F pr w) (k' := (kEnd Y70 [1,0,1,0] [])) (body := (cAt Y70 [1,0,1,0,0])) (by kernel_rfl) 0 [0,1,7,8] (by kernel_rfl) (⟨hE1,by omega,fun j h => by omega⟩) ?_
 rintro k w0 ⟨K1,hk,hp⟩
 refine Zq 5 ((k:Int) < (xs.length:Int)) (fun h1 => ?_) (fun h1 => ?_)
 ·have hk2 : k < xs.length := by omega
  have ha := hc.addrE strC_len (by decide) hk2
  refine Zs 15 [.ld (sv (xs.getD k []))] [(0 ≤ (k:Int) ∧ (k:Int) < (xs.length:Int)),(a : Option Addr) = some ⟨(slB a),slO a,none⟩,cl w0 (slB a) (slO a + k * 1) (sv (xs.getD k []))] (AC (by omega) (AC (by assumption) (A1 (K1.cell (cellAt strC_len [] hc hk2 (j := 0) rfl))))) ?_
  refine Z0 0 (.call F [sv (xs.getD k [])]) (runs_call hE (hF k hk2 w0 K1)) ?_
  rintro _ w1 ⟨rfl,hx⟩
  have hE2 := K1.trans hx
  refine Zr 1 _ ((pr (xs.getD k [])) = true) (Iff.rfl) (fun h2 => ?_) (fun h2 => ?_)
  ·exact Z1 5 (iv (k:Int)) (⟨by rw [idxI_hit [] hk2 hp h2],hE2⟩)
  refine Zs 6 [] [I64 ((k + 1:Nat):Int)] (A1 (i64 (by omega))) ?_
  exact ZA 0 (idxStr0L xs a c F pr w) k (k + 1) [0,1,7,8] (⟨hE2,by omega,fun j hj => by by_cases e : j = k; (subst e; simpa using h2); exact hp j (by omega)⟩) (show xs.length - (k + 1) < xs.length - k by omega)
 exact Z1 5 (iv (-1)) (⟨by rw [idxI_miss [] (fun j hj => hp j (by omega))],K1⟩)

set_option maxRecDepth 20000 in
theorem hasNode0 (xs : List PNode) (a : Option Addr) (c : Nat) (F : FuncId) (pr : PNode → Bool) (w : World) (hE : Enters Tryz.prog F) (hF : ∀ k,k < xs.length → ∀ w',Ext w w' → Does Tryz.prog F [(vN (xs.getD k d0N))] w' fun v w2 => v = .bool (pr (xs.getD k d0N)) ∧ Ext w' w2) (hc : Cells w a (xs.flatMap nodeC)) (hl : xs.length ≤ 140737488355328) :
    Does Tryz.prog 55 [.slice a xs.length c,.func (.func F) #[] #[]] w (fun v w' => v = .bool (xs.any pr) ∧ Ext w w') := by
 refine startZ (c := Y55) Tryz.func55 rfl (by kernel_rfl) ?_
 show H _ 9 [] _ (kAt Y55 [] []) (stz [(0,.slice a xs.length c),(1,.func (.func F) #[] #[])]) w
 have hE1 : Ext w w := Ext.refl w
 refine Zl 8 E45 (idxNode0 xs a c F pr w hE hF hc hl) ?_
 rintro _ w1 ⟨rfl,hx⟩
 have hE2 := hE1.trans hx
 exact Z1 3 (.bool (decide ((0 : Int) ≤ idxI pr xs))) (⟨by rw [idxI_any],hE2⟩)

set_option maxRecDepth 20000 in
theorem hasDest1 (xs : List DA) (a : Option Addr) (c : Nat) (F : FuncId) (b0 : Nat) (pr : DA → Bool) (w : World) (hE : Enters Tryz.prog F) (hF : ∀ k,k < xs.length → ∀ w',Ext w w' → Does Tryz.prog F [(vD (xs.getD k d0A)),pt b0 0] w' fun v w2 => v = .bool (pr (xs.getD k d0A)) ∧ Ext w' w2) (hc : Cells w a (xs.flatMap destC)) (hl : xs.length ≤ 140737488355328) :
    Does Tryz.prog 33 [.slice a xs.length c,.func (.func F) #[] #[pt b0 0]] w (fun v w' => v = .bool (xs.any pr) ∧ Ext w w') := by
 refine startZ (c := Y33) Tryz.func33 rfl (by kernel_rfl) ?_
 show H _ 9 [] _ (kAt Y33 [] []) (stz [(0,.slice a xs.length c),(1,.func (.func F) #[] #[pt b0 0])]) w
 have hE1 : Ext w w := Ext.refl w
 refine Zl 8 E47 (idxDest1 xs a c F b0 pr w hE hF hc hl) ?_
 rintro _ w1 ⟨rfl,hx⟩
 have hE2 := hE1.trans hx
 exact Z1 3 (.bool (decide ((0 : Int) ≤ idxI pr xs))) (⟨by rw [idxI_any],hE2⟩)

set_option maxRecDepth 20000 in
theorem hasCheck1 (xs : List PCheck) (a : Option Addr) (c : Nat) (F : FuncId) (b0 : Nat) (pr : PCheck → Bool) (w : World) (hE : Enters Tryz.prog F) (hF : ∀ k,k < xs.length → ∀ w',Ext w w' → Does Tryz.prog F [(vC (xs.getD k d0C)),pt b0 0] w' fun v w2 => v = .bool (pr (xs.getD k d0C)) ∧ Ext w' w2) (hc : Cells w a (xs.flatMap checkC)) (hl : xs.length ≤ 140737488355328) :
    Does Tryz.prog 34 [.slice a xs.length c,.func (.func F) #[] #[pt b0 0]] w (fun v w' => v = .bool (xs.any pr) ∧ Ext w w') := by
 refine startZ (c := Y34) Tryz.func34 rfl (by kernel_rfl) ?_
 show H _ 9 [] _ (kAt Y34 [] []) (stz [(0,.slice a xs.length c),(1,.func (.func F) #[] #[pt b0 0])]) w
 have hE1 : Ext w w := Ext.refl w
 refine Zl 8 E62 (idxCheck1 xs a c F b0 pr w hE hF hc hl) ?_
 rintro _ w1 ⟨rfl,hx⟩
 have hE2 := hE1.trans hx
 exact Z1 3 (.bool (decide ((0 : Int) ≤ idxI pr xs))) (⟨by rw [idxI_any],hE2⟩)

set_option maxRecDepth 20000 in
theorem hasStr0 (xs : List Bytes) (a : Option Addr) (c : Nat) (F : FuncId) (pr : Bytes → Bool) (w : World) (hE : Enters Tryz.prog F) (hF : ∀ k,k < xs.length → ∀ w',Ext w w' → Does Tryz.prog F [sv (xs.getD k [])] w' fun v w2 => v = .bool (pr (xs.getD k [])) ∧ Ext w' w2) (hc : Cells w a (xs.flatMap strC)) (hl : xs.length ≤ 140737488355328) :
    Does Tryz.prog 58 [.slice a xs.length c,.func (.func F) #[] #[]] w (fun v w' => v = .bool (xs.any pr) ∧ Ext w w') := by
 refine startZ (c := Y58) Tryz.func58 rfl (by kernel_rfl) ?_
 show H _ 9 [] _ (kAt Y58 [] []) (stz [(0,.slice a xs.length c),(1,.func (.func F) #[] #[])]) w
 have hE1 : Ext w w := Ext.refl w
 refine Zl 8 E70 (idxStr0 xs a c F pr w hE hF hc hl) ?_
 rintro _ w1 ⟨rfl,hx⟩
 have hE2 := hE1.trans hx
 exact Z1 3 (.bool (decide ((0 : Int) ≤ idxI pr xs))) (⟨by rw [idxI_any],hE2⟩)

def eqNodeL (xs ys : List PNode) (a a' : Option Addr) (c c' : Nat) (w : World) : Lp Nat where
  S := fun k => [(0,none,.slice a xs.length c),(1,none,.slice a' ys.length (c')),(12,none,iv (xs.length:Int)),(13,none,iv (k:Int))]
  J := fun k w' => Ext w w' ∧ k ≤ xs.length ∧ ∀ j,j < k → xs.getD j d0N = ys.getD j d0N
  M := fun k => xs.length - k
set_option maxRecDepth 20000 in
theorem eqNode (xs ys : List PNode) (a a' : Option Addr) (c c' : Nat) (w : World) (hc : Cells w a (xs.flatMap nodeC)) (hc' : Cells w a' (ys.flatMap nodeC)) (hl : xs.length ≤ 140737488355328) :
    Does Tryz.prog 41 [.slice a xs.length c,.slice a' ys.length (c')] w (fun v w' => v = .bool (decide (xs = ys)) ∧ Ext w w') := by
 refine startZ (c := Y41) Tryz.func41 rfl (by kernel_rfl) ?_
 show H _ 26 [] _ (kAt Y41 [] []) (stz [(0,.slice a xs.length c),(1,.slice a' ys.length (c'))]) w
 have hE1 : Ext w w := Ext.refl w
 refine Zr 13 _ (¬ ((xs.length:Int) = (ys.length:Int))) ((iffNot iffDec)) (fun h0 => ?_) (fun h0 => ?_)
 ·exact Z1 4 (.bool false) (⟨by rw [decide_eq_false (fun e => h0 (by rw [e]))],hE1⟩)
 have h0 : xs.length = ys.length := by omega
 refine Zs 9 [] [] trivial ?_
 refine ZLoop (eqNodeL xs ys a a' c c' w) (k' := (kEnd Y41 [1,1,0,1,0] [])) (body := (cAt Y41 [1,1,0,1,0,0])) (by kernel_rfl) 0 [0,1,12,13] (by kernel_rfl) (⟨hE1,by omega,fun j h => by omega⟩) ?_
 rintro k w0 ⟨K1,hk,hp⟩
 refine Zq 5 ((k:Int) < (xs.length:Int)) (fun h1 => ?_) (fun h1 => ?_)
 ·have hk2 : k < xs.length := by omega
  have hk3 : k < ys.length := by omega
  have ha := hc.addrE nodeC_len (by decide) hk2
  have hb := hc'.addrE nodeC_len (by decide) hk3
  refine Zs 9 [] [] trivial ?_
  refine ZB 9 (kAt (cAt Y41 [1,1,0,1,0,0]) [1,1,0,0,1,1] (.inv (LI 26 [] (eqNodeL xs ys a a' c c' w) k) :: (kEnd Y41 [1,1,0,1,0] []))) 6 (opsAt (cAt (cAt Y41 [1,1,0,1,0,0]) [1,1,0,0,1,0])) (fun w1 => Ext w1) ?_
  intro w2 hx3
  have hE4 := K1.trans hx3
  refine dx [0,1,2,3,4,5,6,7,8] [.ld (vN (xs.getD k d0N)),.ld (vN (ys.getD k d0N))] 0 (lb 9 511) (fun w' => [(0 ≤ (k:Int) ∧ (k:Int) < (xs.length:Int)),(a : Option Addr) = some ⟨(slB a),slO a,none⟩,cl w' (slB a) (slO a + k * 2) (sv ((xs.getD k d0N).name)),cl w' (slB a) (slO a + k * 2 + 1) (iv ((xs.getD k d0N).asn)),(0 ≤ (k:Int) ∧ (k:Int) < (ys.length:Int)),(a' : Option Addr) = some ⟨(slB a'),slO a',none⟩,cl w' (slB a') (slO a' + k * 2) (sv ((ys.getD k d0N).name)),cl w' (slB a') (slO a' + k * 2 + 1) (iv ((ys.getD k d0N).asn))]) (fun w' hS => (AC (by omega) (AC (by assumption) (AC (hS.cell (hE4.cell (cellAt nodeC_len d0N hc hk2 (j := 0) rfl))) (AC (hS.cell (hE4.cell (cellAt nodeC_len d0N hc hk2 (j := 1) rfl))) (AC (by omega) (AC (by assumption) (AC (hS.cell (hE4.cell (cellAt nodeC_len d0N hc' hk3 (j := 0) rfl))) (A1 (hS.cell (hE4.cell (cellAt nodeC_len d0N hc' hk3 (j := 1) rfl)))))))))))) (Ext.refl _) ?_
  refine ZD ?_
  refine Zr 0 _ (¬ ((((xs.getD k d0N).name) = ((ys.getD k d0N).name)) ∧ ((xs.getD k d0N).asn = (ys.getD k d0N).asn))) ((iffNot (iffAnd iffDec iffDec))) (fun h2 => ?_) (fun h2 => ?_)
  ·have h3 : ¬ (xs.getD k d0N = ys.getD k d0N) := fun e => h2 (by exact nodeEq.1 e)
   exact Z1 4 (.bool false) (⟨by rw [decide_eq_false (fun e => h3 (by rw [e]))],hE4⟩)
  have h3 : xs.getD k d0N = ys.getD k d0N := by have h4 := Classical.not_not.1 h2; exact nodeEq.2 h4
  refine Zs 6 [] [I64 ((k + 1:Nat):Int)] (A1 (i64 (by omega))) ?_
  exact ZA 0 (eqNodeL xs ys a a' c c' w) k (k + 1) [0,1,12,13] (⟨hE4,by omega,fun j hj => by by_cases e : j = k; (subst e; exact h3); exact hp j (by omega)⟩) (show xs.length - (k + 1) < xs.length - k by omega)
 exact Z1 5 (.bool true) (⟨by rw [decide_eq_true (eq_of_getD d0N h0 (fun j hj => hp j (by omega)))],K1⟩)

def eqLinkL (xs ys : List PLink) (a a' : Option Addr) (c c' : Nat) (w : World) : Lp Nat where
  S := fun k => [(0,none,.slice a xs.length c),(1,none,.slice a' ys.length (c')),(12,none,iv (xs.length:Int)),(13,none,iv (k:Int))]
  J := fun k w' => Ext w w' ∧ k ≤ xs.length ∧ ∀ j,j < k → xs.getD j d0L = ys.getD j d0L
  M := fun k => xs.length - k
set_option maxRecDepth 20000 in
theorem eqLink (xs ys : List PLink) (a a' : Option Addr) (c c' : Nat) (w : World) (hc : Cells w a (xs.flatMap linkC)) (hc' : Cells w a' (ys.flatMap linkC)) (hl : xs.length ≤ 140737488355328) :
    Does Tryz.prog 42 [.slice a xs.length c,.slice a' ys.length (c')] w (fun v w' => v = .bool (decide (xs = ys)) ∧ Ext w w') := by
 refine startZ (c := Y42) Tryz.func42 rfl (by kernel_rfl) ?_
 show H _ 26 [] _ (kAt Y42 [] []) (stz [(0,.slice a xs.length c),(1,.slice a' ys.length (c'))]) w
 have hE1 : Ext w w := Ext.refl w
 refine Zr 13 _ (¬ ((xs.length:Int) = (ys.length:Int))) ((iffNot iffDec)) (fun h0 => ?_) (fun h0 => ?_)
 ·exact Z1 4 (.bool false) (⟨by rw [decide_eq_false (fun e => h0 (by rw [e]))],hE1⟩)
 have h0 : xs.length = ys.length := by omega
 refine Zs 9 [] [] trivial ?_
 refine ZLoop (eqLinkL xs ys a a' c c' w) (k' := (kEnd Y42 [1,1,0,1,0] [])) (body := (cAt Y42 [1,1,0,1,0,0])) (by kernel_rfl) 0 [0,1,12,13] (by kernel_rfl) (⟨hE1,by omega,fun j h => by omega⟩) ?_
 rintro k w0 ⟨K1,hk,hp⟩
 refine Zq 5 ((k:Int) < (xs.length:Int)) (fun h1 => ?_) (fun h1 => ?_)
 ·have hk2 : k < xs.length := by omega
  have hk3 : k < ys.length := by omega
  have ha := hc.addrE linkC_len (by decide) hk2
  have hb := hc'.addrE linkC_len (by decide) hk3
  refine Zs 9 [] [] trivial ?_
  refine ZB 9 (kAt (cAt Y42 [1,1,0,1,0,0]) [1,1,0,0,1,1] (.inv (LI 26 [] (eqLinkL xs ys a a' c c' w) k) :: (kEnd Y42 [1,1,0,1,0] []))) 6 (opsAt (cAt (cAt Y42 [1,1,0,1,0,0]) [1,1,0,0,1,0])) (fun w1 => Ext w1) ?_
  intro w2 hx3
  have hE4 := K1.trans hx3
  refine dx [0,1,2,3,4,5,6,7,8] [.ld (vL (xs.getD k d0L)),.ld (vL (ys.getD k d0L))] 0 (lb 9 511) (fun w' => [(0 ≤ (k:Int) ∧ (k:Int) < (xs.length:Int)),(a : Option Addr) = some ⟨(slB a),slO a,none⟩,cl w' (slB a) (slO a + k * 3) (iv ((xs.getD k d0L).a)),cl w' (slB a) (slO a + k * 3 + 1) (iv ((xs.getD k d0L).b)),cl w' (slB a) (slO a + k * 3 + 2) (iv ((xs.getD k d0L).cost)),(0 ≤ (k:Int) ∧ (k:Int) < (ys.length:Int)),(a' : Option Addr) = some ⟨(slB a'),slO a',none⟩,cl w' (slB a') (slO a' + k * 3) (iv ((ys.getD k d0L).a)),cl w' (slB a') (slO a' + k * 3 + 1) (iv ((ys.getD k d0L).b)),cl w' (slB a') (slO a' + k * 3 + 2) (iv ((ys.getD k d0L).cost))]) (fun w' hS => (AC (by omega) (AC (by assumption) (AC (hS.cell (hE4.cell (cellAt linkC_len d0L hc hk2 (j := 0) rfl))) (AC (hS.cell (hE4.cell (cellAt linkC_len d0L hc hk2 (j := 1) rfl))) (AC (hS.cell (hE4.cell (cellAt linkC_len d0L hc hk2 (j := 2) rfl))) (AC (by omega) (AC (by assumption) (AC (hS.cell (hE4.cell (cellAt linkC_len d0L hc' hk3 (j := 0) rfl))) (AC (hS.cell (hE4.cell (cellAt linkC_len d0L hc' hk3 (j := 1) rfl))) (A1 (hS.cell (hE4.cell (cellAt linkC_len d0L hc' hk3 (j := 2) rfl)))))))))))))) (Ext.refl _) ?_
  refine ZD ?_
  refine Zr 0 _ (¬ (((xs.getD k d0L).a = (ys.getD k d0L).a) ∧ (((xs.getD k d0L).b = (ys.getD k d0L).b) ∧ ((xs.getD k d0L).cost = (ys.getD k d0L).cost)))) ((iffNot (iffAnd iffDec (iffAnd iffDec iffDec)))) (fun h2 => ?_) (fun h2 => ?_)
  ·have h3 : ¬ (xs.getD k d0L = ys.getD k d0L) := fun e => h2 (by exact linkEq.1 e)
   exact Z1 4 (.bool false) (⟨by rw [decide_eq_false (fun e => h3 (by rw [e]))],hE4⟩)
  have h3 : xs.getD k d0L = ys.getD k d0L := by have h4 := Classical.not_not.1 h2; exact linkEq.2 h4
  refine Zs 6 [] [I64 ((k + 1:Nat):Int)] (A1 (i64 (by omega))) ?_
  exact ZA 0 (eqLinkL xs ys a a' c c' w) k (k + 1) [0,1,12,13] (⟨hE4,by omega,fun j hj => by by_cases e : j = k; (subst e; exact h3); exact hp j (by omega)⟩) (show xs.length - (k + 1) < xs.length - k by omega)
 exact Z1 5 (.bool true) (⟨by rw [decide_eq_true (eq_of_getD d0L h0 (fun j hj => hp j (by omega)))],K1⟩)

def eqCheckL (xs ys : List PCheck) (a a' : Option Addr) (c c' : Nat) (w : World) : Lp Nat where
  S := fun k => [(0,none,.slice a xs.length c),(1,none,.slice a' ys.length (c')),(12,none,iv (xs.length:Int)),(13,none,iv (k:Int))]
  J := fun k w' => Ext w w' ∧ k ≤ xs.length ∧ ∀ j,j < k → xs.getD j d0C = ys.getD j d0C
  M := fun k => xs.length - k
set_option maxRecDepth 20000 in
theorem eqCheck (xs ys : List PCheck) (a a' : Option Addr) (c c' : Nat) (w : World) (hc : Cells w a (xs.flatMap checkC)) (hc' : Cells w a' (ys.flatMap checkC)) (hl : xs.length ≤ 140737488355328) :
    Does Tryz.prog 44 [.slice a xs.length c,.slice a' ys.length (c')] w (fun v w' => v = .bool (decide (xs = ys)) ∧ Ext w w') := by
 refine startZ (c := Y44) Tryz.func44 rfl (by kernel_rfl) ?_
 show H _ 26 [] _ (kAt Y44 [] []) (stz [(0,.slice a xs.length c),(1,.slice a' ys.length (c'))]) w
 have hE1 : Ext w w := Ext.refl w
 refine Zr 13 _ (¬ ((xs.length:Int) = (ys.length:Int))) ((iffNot iffDec)) (fun h0 => ?_) (fun h0 => ?_)
 ·exact Z1 4 (.bool false) (⟨by rw [decide_eq_false (fun e => h0 (by rw [e]))],hE1⟩)
 have h0 : xs.length = ys.length := by omega
 refine Zs 9 [] [] trivial ?_
 refine ZLoop (eqCheckL xs ys a a' c c' w) (k' := (kEnd Y44 [1,1,0,1,0] [])) (body := (cAt Y44 [1,1,0,1,0,0])) (by kernel_rfl) 0 [0,1,12,13] (by kernel_rfl) (⟨hE1,by omega,fun j h => by omega⟩) ?_
 rintro k w0 ⟨K1,hk,hp⟩
 refine Zq 5 ((k:Int) < (xs.length:Int)) (fun h1 => ?_) (fun h1 => ?_)
 ·have hk2 : k < xs.length := by omega
  have hk3 : k < ys.length := by omega
  have ha := hc.addrE checkC_len (by decide) hk2
  have hb := hc'.addrE checkC_len (by decide) hk3
  refine Zs 9 [] [] trivial ?_
  refine ZB 9 (kAt (cAt Y44 [1,1,0,1,0,0]) [1,1,0,0,1,1] (.inv (LI 26 [] (eqCheckL xs ys a a' c c' w) k) :: (kEnd Y44 [1,1,0,1,0] []))) 6 (opsAt (cAt (cAt Y44 [1,1,0,1,0,0]) [1,1,0,0,1,0])) (fun w1 => Ext w1) ?_
  intro w2 hx3
  have hE4 := K1.trans hx3
  refine dx [0,1,2,3,4,5,6,7,8] [.ld (vC (xs.getD k d0C)),.ld (vC (ys.getD k d0C))] 0 (lb 9 511) (fun w' => [(0 ≤ (k:Int) ∧ (k:Int) < (xs.length:Int)),(a : Option Addr) = some ⟨(slB a),slO a,none⟩,cl w' (slB a) (slO a + k * 5) (iv ((xs.getD k d0C).kind)),cl w' (slB a) (slO a + k * 5 + 1) (iv ((xs.getD k d0C).node)),cl w' (slB a) (slO a + k * 5 + 2) (iv ((xs.getD k d0C).dest)),cl w' (slB a) (slO a + k * 5 + 3) (iv ((xs.getD k d0C).limit)),cl w' (slB a) (slO a + k * 5 + 4) (iv ((xs.getD k d0C).other)),(0 ≤ (k:Int) ∧ (k:Int) < (ys.length:Int)),(a' : Option Addr) = some ⟨(slB a'),slO a',none⟩,cl w' (slB a') (slO a' + k * 5) (iv ((ys.getD k d0C).kind)),cl w' (slB a') (slO a' + k * 5 + 1) (iv ((ys.getD k d0C).node)),cl w' (slB a') (slO a' + k * 5 + 2) (iv ((ys.getD k d0C).dest)),cl w' (slB a') (slO a' + k * 5 + 3) (iv ((ys.getD k d0C).limit)),cl w' (slB a') (slO a' + k * 5 + 4) (iv ((ys.getD k d0C).other))]) (fun w' hS => (AC (by omega) (AC (by assumption) (AC (hS.cell (hE4.cell (cellAt checkC_len d0C hc hk2 (j := 0) rfl))) (AC (hS.cell (hE4.cell (cellAt checkC_len d0C hc hk2 (j := 1) rfl))) (AC (hS.cell (hE4.cell (cellAt checkC_len d0C hc hk2 (j := 2) rfl))) (AC (hS.cell (hE4.cell (cellAt checkC_len d0C hc hk2 (j := 3) rfl))) (AC (hS.cell (hE4.cell (cellAt checkC_len d0C hc hk2 (j := 4) rfl))) (AC (by omega) (AC (by assumption) (AC (hS.cell (hE4.cell (cellAt checkC_len d0C hc' hk3 (j := 0) rfl))) (AC (hS.cell (hE4.cell (cellAt checkC_len d0C hc' hk3 (j := 1) rfl))) (AC (hS.cell (hE4.cell (cellAt checkC_len d0C hc' hk3 (j := 2) rfl))) (AC (hS.cell (hE4.cell (cellAt checkC_len d0C hc' hk3 (j := 3) rfl))) (A1 (hS.cell (hE4.cell (cellAt checkC_len d0C hc' hk3 (j := 4) rfl)))))))))))))))))) (Ext.refl _) ?_
  refine ZD ?_
  refine Zr 0 _ (¬ (((xs.getD k d0C).kind = (ys.getD k d0C).kind) ∧ (((xs.getD k d0C).node = (ys.getD k d0C).node) ∧ (((xs.getD k d0C).dest = (ys.getD k d0C).dest) ∧ (((xs.getD k d0C).limit = (ys.getD k d0C).limit) ∧ ((xs.getD k d0C).other = (ys.getD k d0C).other)))))) ((iffNot (iffAnd iffDec (iffAnd iffDec (iffAnd iffDec (iffAnd iffDec iffDec)))))) (fun h2 => ?_) (fun h2 => ?_)
  ·have h3 : ¬ (xs.getD k d0C = ys.getD k d0C) := fun e => h2 (by exact checkEq.1 e)
   exact Z1 4 (.bool false) (⟨by rw [decide_eq_false (fun e => h3 (by rw [e]))],hE4⟩)
  have h3 : xs.getD k d0C = ys.getD k d0C := by have h4 := Classical.not_not.1 h2; exact checkEq.2 h4
  refine Zs 6 [] [I64 ((k + 1:Nat):Int)] (A1 (i64 (by omega))) ?_
  exact ZA 0 (eqCheckL xs ys a a' c c' w) k (k + 1) [0,1,12,13] (⟨hE4,by omega,fun j hj => by by_cases e : j = k; (subst e; exact h3); exact hp j (by omega)⟩) (show xs.length - (k + 1) < xs.length - k by omega)
 exact Z1 5 (.bool true) (⟨by rw [decide_eq_true (eq_of_getD d0C h0 (fun j hj => hp j (by omega)))],K1⟩)

def eqIntL (xs ys : List Int) (a a' : Option Addr) (c c' : Nat) (w : World) : Lp Nat where
  S := fun k => [(0,none,.slice a xs.length c),(1,none,.slice a' ys.length (c')),(12,none,iv (xs.length:Int)),(13,none,iv (k:Int))]
  J := fun k w' => Ext w w' ∧ k ≤ xs.length ∧ ∀ j,j < k → xs.getD j 0 = ys.getD j 0
  M := fun k => xs.length - k
set_option maxRecDepth 20000 in
theorem eqInt (xs ys : List Int) (a a' : Option Addr) (c c' : Nat) (w : World) (hc : Cells w a (xs.flatMap intCells)) (hc' : Cells w a' (ys.flatMap intCells)) (hl : xs.length ≤ 140737488355328) :
    Does Tryz.prog 40 [.slice a xs.length c,.slice a' ys.length (c')] w (fun v w' => v = .bool (decide (xs = ys)) ∧ Ext w w') := by
 refine startZ (c := Y40) Tryz.func40 rfl (by kernel_rfl) ?_
 show H _ 26 [] _ (kAt Y40 [] []) (stz [(0,.slice a xs.length c),(1,.slice a' ys.length (c'))]) w
 have hE1 : Ext w w := Ext.refl w
 refine Zr 13 _ (¬ ((xs.length:Int) = (ys.length:Int))) ((iffNot iffDec)) (fun h0 => ?_) (fun h0 => ?_)
 ·exact Z1 4 (.bool false) (⟨by rw [decide_eq_false (fun e => h0 (by rw [e]))],hE1⟩)
 have h0 : xs.length = ys.length := by omega
 refine Zs 9 [] [] trivial ?_
 refine ZLoop (eqIntL xs ys a a' c c' w) (k' := (kEnd Y40 [1,1,0,1,0] [])) (body := (cAt Y40 [1,1,0,1,0,0])) (by kernel_rfl) 0 [0,1,12,13] (by kernel_rfl) (⟨hE1,by omega,fun j h => by omega⟩) ?_
 rintro k w0 ⟨K1,hk,hp⟩
 refine Zq 5 ((k:Int) < (xs.length:Int)) (fun h1 => ?_) (fun h1 => ?_)
 ·have hk2 : k < xs.length := by omega
  have hk3 : k < ys.length := by omega
  have ha := hc.addrE intCells_len (by decide) hk2
  have hb := hc'.addrE intCells_len (by decide) hk3
  refine Zs 9 [] [] trivial ?_
  refine ZB 9 (kAt (cAt Y40 [1,1,0,1,0,0]) [1,1,0,0,1,1] (.inv (LI 26 [] (eqIntL xs ys a a' c c' w) k) :: (kEnd Y40 [1,1,0,1,0] []))) 6 (opsAt (cAt (cAt Y40 [1,1,0,1,0,0]) [1,1,0,0,1,0])) (fun w1 => Ext w1) ?_
  intro w2 hx3
  have hE4 := K1.trans hx3
  refine dx [0,1,2,3,4,5,6,7,8] [.ld (iv (xs.getD k 0)),.ld (iv (ys.getD k 0))] 0 (lb 9 511) (fun w' => [(0 ≤ (k:Int) ∧ (k:Int) < (xs.length:Int)),(a : Option Addr) = some ⟨(slB a),slO a,none⟩,cl w' (slB a) (slO a + k * 1) (iv (xs.getD k 0)),(0 ≤ (k:Int) ∧ (k:Int) < (ys.length:Int)),(a' : Option Addr) = some ⟨(slB a'),slO a',none⟩,cl w' (slB a') (slO a' + k * 1) (iv (ys.getD k 0))]) (fun w' hS => (AC (by omega) (AC (by assumption) (AC (hS.cell (hE4.cell (cellAt intCells_len 0 hc hk2 (j := 0) rfl))) (AC (by omega) (AC (by assumption) (A1 (hS.cell (hE4.cell (cellAt intCells_len 0 hc' hk3 (j := 0) rfl)))))))))) (Ext.refl _) ?_
  refine ZD ?_
  refine Zr 0 _ (¬ ((xs.getD k 0) = (ys.getD k 0))) ((iffNot iffDec)) (fun h2 => ?_) (fun h2 => ?_)
  ·have h3 : ¬ (xs.getD k 0 = ys.getD k 0) := fun e => h2 (by exact e)
   exact Z1 4 (.bool false) (⟨by rw [decide_eq_false (fun e => h3 (by rw [e]))],hE4⟩)
  have h3 : xs.getD k 0 = ys.getD k 0 := by have h4 := Classical.not_not.1 h2; exact h4
  refine Zs 6 [] [I64 ((k + 1:Nat):Int)] (A1 (i64 (by omega))) ?_
  exact ZA 0 (eqIntL xs ys a a' c c' w) k (k + 1) [0,1,12,13] (⟨hE4,by omega,fun j hj => by by_cases e : j = k; (subst e; exact h3); exact hp j (by omega)⟩) (show xs.length - (k + 1) < xs.length - k by omega)
 exact Z1 5 (.bool true) (⟨by rw [decide_eq_true (eq_of_getD 0 h0 (fun j hj => hp j (by omega)))],K1⟩)

end Go.Proofs.YtcbclephakfemaaGreatRRRDoor
