/-
  PLAN: contracts of the short loops of package slices.
-/
import Derived.Test.YtjhgghpeapmgdaaGreatDoorPlanB
import Derived.Test.YtjhgghpeapmgdaaGreatDoorPlanRight
namespace Go.Proofs.YtjhgghpeapmgdaaGreatDoor
open Go.Bk Go.Proofs

theorem E58 : Proofs.Enters Tryz.prog 58 := Proofs.enters_of Tryz.func58 (by kernel_rfl) rfl

theorem E60 : Proofs.Enters Tryz.prog 60 := Proofs.enters_of Tryz.func60 (by kernel_rfl) rfl

theorem E83 : Proofs.Enters Tryz.prog 83 := Proofs.enters_of Tryz.func83 (by kernel_rfl) rfl

theorem E108 : Proofs.Enters Tryz.prog 108 := Proofs.enters_of Tryz.func108 (by kernel_rfl) rfl

theorem E76 : Proofs.Enters Tryz.prog 76 := Proofs.enters_of Tryz.func76 (by kernel_rfl) rfl

theorem E46 : Proofs.Enters Tryz.prog 46 := Proofs.enters_of Tryz.func46 (by kernel_rfl) rfl

theorem E47 : Proofs.Enters Tryz.prog 47 := Proofs.enters_of Tryz.func47 (by kernel_rfl) rfl

theorem E79 : Proofs.Enters Tryz.prog 79 := Proofs.enters_of Tryz.func79 (by kernel_rfl) rfl

theorem E54 : Proofs.Enters Tryz.prog 54 := Proofs.enters_of Tryz.func54 (by kernel_rfl) rfl

theorem E55 : Proofs.Enters Tryz.prog 55 := Proofs.enters_of Tryz.func55 (by kernel_rfl) rfl

theorem E57 : Proofs.Enters Tryz.prog 57 := Proofs.enters_of Tryz.func57 (by kernel_rfl) rfl

theorem E53 : Proofs.Enters Tryz.prog 53 := Proofs.enters_of Tryz.func53 (by kernel_rfl) rfl

def idxNode0L (xs : List PNode) (a : Option Addr) (c : Nat) (F : FuncId) (pr : PNode → Bool) (w : World) : Lp Nat where
  S := fun k => [(0,none,.slice a xs.length c),(1,none,.func (.func F) #[] #[]),(7,none,iv ((xs.length:Nat):Int)),(8,none,iv ((k:Nat):Int))]
  J := fun k w' => Ext w w' ∧ k ≤ xs.length ∧ ∀ j,j < k → pr (xs.getD j d0N) = false
  M := fun k => xs.length - k
set_option maxRecDepth 20000 in
theorem idxNode0 (xs : List PNode) (a : Option Addr) (c : Nat) (F : FuncId) (pr : PNode → Bool) (w : World) (hE : Enters Tryz.prog F) (hF : ∀ k,k < xs.length → ∀ w',Ext w w' → Does Tryz.prog F [.agg #[sv ((xs.getD k d0N).name),iv ((xs.getD k d0N).asn)]] w' fun v w2 => v = .bool (pr (xs.getD k d0N)) ∧ Ext w' w2) (hc : Cells w a (xs.flatMap nodeC)) (hl : xs.length ≤ 140737488355328) :
    Does Tryz.prog 58 [.slice a xs.length c,.func (.func F) #[] #[]] w (fun v w' => v = .int .i64 (idxI pr xs) ∧ Ext w w') := by
 refine startD (c := (bodyOf Tryz.f58)) Tryz.func58 rfl (by kernel_rfl) ?_
 show G _ 19 [] _ (kAt (bodyOf Tryz.f58) [] []) (stz [(0,.slice a xs.length c),(1,.func (.func F) #[] #[])]) w
 have hE1 : Ext w w := Ext.refl w
 refine sgz 12 [] (kAt (bodyOf Tryz.f58) [1,0,1,0] []) [(0,.slice a xs.length c),(1,.func (.func F) #[] #[]),(4,iv (0 : Int)),(7,iv ((xs.length:Nat):Int)),(8,iv (0 : Int))] [] trivial ?_
 refine loopR (idxNode0L xs a c F pr w) (k' := (kEnd (bodyOf Tryz.f58) [1,0,1,0] [])) (body := (cAt (bodyOf Tryz.f58) [1,0,1,0,0])) (by kernel_rfl) 0 [0,1,7,8] (by kernel_rfl) (⟨hE1,by omega,fun j h => by omega⟩) ?_
 rintro k w0 ⟨K1,hk,hp⟩
 refine sgz 5 [] (kAt (cAt (bodyOf Tryz.f58) [1,0,1,0,0]) [1,0] (.inv (LI 19 [] (idxNode0L xs a c F pr w) k) :: (kEnd (bodyOf Tryz.f58) [1,0,1,0] []))) [(0,.slice a xs.length c),(1,.func (.func F) #[] #[]),(7,iv ((xs.length:Nat):Int)),(8,iv ((k:Nat):Int)),(9,.bool (decide (((k:Nat):Int) < ((xs.length:Nat):Int))))] [] trivial ?_
 refine brs (decide (((k:Nat):Int) < ((xs.length:Nat):Int))) (kAt (cAt (bodyOf Tryz.f58) [1,0,1,0,0]) [1,0,0] (.inv (LI 19 [] (idxNode0L xs a c F pr w) k) :: (kEnd (bodyOf Tryz.f58) [1,0,1,0] []))) (kAt (cAt (bodyOf Tryz.f58) [1,0,1,0,0]) [1,0,1] (.inv (LI 19 [] (idxNode0L xs a c F pr w) k) :: (kEnd (bodyOf Tryz.f58) [1,0,1,0] []))) (((k:Nat):Int) < ((xs.length:Nat):Int)) (iffDec) (fun h1 => ?_) (fun h1 => ?_)
 · have hk2 : k < xs.length := by omega
   have ha := hc.addrE nodeC_len (by decide) hk2
   refine sgz 15 [.ld (.agg #[sv ((xs.getD k d0N).name),iv ((xs.getD k d0N).asn)])] (kOp (cAt (bodyOf Tryz.f58) [1,0,1,0,0]) [1,1,0,0,1,0] 5 (.inv (LI 19 [] (idxNode0L xs a c F pr w) k) :: (kEnd (bodyOf Tryz.f58) [1,0,1,0] []))) [(0,.slice a xs.length c),(1,.func (.func F) #[] #[]),(5,iv ((k:Nat):Int)),(7,iv ((xs.length:Nat):Int)),(8,iv ((k:Nat):Int)),(11,.func (.func F) #[] #[]),(15,.agg #[sv ((xs.getD k d0N).name),iv ((xs.getD k d0N).asn)])] [(0 ≤ ((k:Nat):Int) ∧ ((k:Nat):Int) < ((xs.length:Nat):Int)),(a : Option Addr) = some ⟨(slB a),slO a,none⟩,w0.cell? ⟨(slB a),slO a + k * 2,none⟩ = some (sv ((xs.getD k d0N).name)),w0.cell? ⟨(slB a),slO a + k * 2 + 1,none⟩ = some (iv ((xs.getD k d0N).asn))] (AC (by omega) (AC (by assumption) (AC (K1.cell (cellAt nodeC_len d0N hc hk2 (j := 0) rfl)) (A1 (K1.cell (cellAt nodeC_len d0N hc hk2 (j := 1) rfl)))))) ?_
   refine oss [] (.call F [.agg #[sv ((xs.getD k d0N).name),iv ((xs.getD k d0N).asn)]]) (some 16) (kOp (cAt (bodyOf Tryz.f58) [1,0,1,0,0]) [1,1,0,0,1,0] 6 (.inv (LI 19 [] (idxNode0L xs a c F pr w) k) :: (kEnd (bodyOf Tryz.f58) [1,0,1,0] []))) [] trivial (runs_call hE (hF k hk2 w0 K1)) ?_
   rintro _ w1 ⟨rfl,hx⟩
   have hE2 := K1.trans hx
   refine sgz 1 [] (kAt (cAt (bodyOf Tryz.f58) [1,0,1,0,0]) [1,1,0,0,1,1] (.inv (LI 19 [] (idxNode0L xs a c F pr w) k) :: (kEnd (bodyOf Tryz.f58) [1,0,1,0] []))) [(0,.slice a xs.length c),(1,.func (.func F) #[] #[]),(5,iv ((k:Nat):Int)),(7,iv ((xs.length:Nat):Int)),(8,iv ((k:Nat):Int)),(16,.bool (pr (xs.getD k d0N)))] [] trivial ?_
   refine brs (pr (xs.getD k d0N)) (kAt (cAt (bodyOf Tryz.f58) [1,0,1,0,0]) [1,1,0,0,1,1,0] (.inv (LI 19 [] (idxNode0L xs a c F pr w) k) :: (kEnd (bodyOf Tryz.f58) [1,0,1,0] []))) (kAt (cAt (bodyOf Tryz.f58) [1,0,1,0,0]) [1,1,0,0,1,1,1] (.inv (LI 19 [] (idxNode0L xs a c F pr w) k) :: (kEnd (bodyOf Tryz.f58) [1,0,1,0] []))) ((pr (xs.getD k d0N)) = true) (Iff.rfl) (fun h2 => ?_) (fun h2 => ?_)
   · refine sgz 5 [] (kAt (cAt (bodyOf Tryz.f58) [1,0,1,0,0]) [1,1,0,0,1,1,0,1] (.inv (LI 19 [] (idxNode0L xs a c F pr w) k) :: (kEnd (bodyOf Tryz.f58) [1,0,1,0] []))) [(0,.slice a xs.length c),(1,.func (.func F) #[] #[]),(4,iv ((k:Nat):Int)),(7,iv ((xs.length:Nat):Int)),(8,iv ((k:Nat):Int))] [] trivial ?_
     exact retD (hs := []) (vs := [iv ((k:Nat):Int)]) (ps := []) (by kernel_rfl) trivial (v := iv ((k:Nat):Int)) rfl (⟨by rw [idxI_hit d0N hk2 hp h2],hE2⟩)
   · refine sgz 6 [] (.inv (LI 19 [] (idxNode0L xs a c F pr w) k) :: (kEnd (bodyOf Tryz.f58) [1,0,1,0] [])) [(0,.slice a xs.length c),(1,.func (.func F) #[] #[]),(7,iv ((xs.length:Nat):Int)),(8,iv ((k + 1:Nat):Int))] [I64 ((k + 1:Nat):Int)] (A1 (i64 (by omega))) ?_
     exact again (k + 1) [0,1,7,8] (by kernel_rfl) (⟨hE2,by omega,fun j hj => by by_cases e : j = k; (subst e; simpa using h2); exact hp j (by omega)⟩) (show xs.length - (k + 1) < xs.length - k by omega)
 · refine sgz 5 [] (kAt (bodyOf Tryz.f58) [1,1,1] []) [(4,iv (-1 : Int))] [] trivial ?_
   exact retD (hs := []) (vs := [iv (-1 : Int)]) (ps := []) (by kernel_rfl) trivial (v := iv (-1 : Int)) rfl (⟨by rw [idxI_miss d0N (fun j hj => hp j (by omega))],K1⟩)

def idxNode1L (xs : List PNode) (a : Option Addr) (c : Nat) (F : FuncId) (b0 : Nat) (pr : PNode → Bool) (w : World) : Lp Nat where
  S := fun k => [(0,none,.slice a xs.length c),(1,none,.func (.func F) #[] #[pt b0 0]),(7,none,iv ((xs.length:Nat):Int)),(8,none,iv ((k:Nat):Int))]
  J := fun k w' => Ext w w' ∧ k ≤ xs.length ∧ ∀ j,j < k → pr (xs.getD j d0N) = false
  M := fun k => xs.length - k
set_option maxRecDepth 20000 in
theorem idxNode1 (xs : List PNode) (a : Option Addr) (c : Nat) (F : FuncId) (b0 : Nat) (pr : PNode → Bool) (w : World) (hE : Enters Tryz.prog F) (hF : ∀ k,k < xs.length → ∀ w',Ext w w' → Does Tryz.prog F [.agg #[sv ((xs.getD k d0N).name),iv ((xs.getD k d0N).asn)],pt b0 0] w' fun v w2 => v = .bool (pr (xs.getD k d0N)) ∧ Ext w' w2) (hc : Cells w a (xs.flatMap nodeC)) (hl : xs.length ≤ 140737488355328) :
    Does Tryz.prog 58 [.slice a xs.length c,.func (.func F) #[] #[pt b0 0]] w (fun v w' => v = .int .i64 (idxI pr xs) ∧ Ext w w') := by
 refine startD (c := (bodyOf Tryz.f58)) Tryz.func58 rfl (by kernel_rfl) ?_
 show G _ 19 [] _ (kAt (bodyOf Tryz.f58) [] []) (stz [(0,.slice a xs.length c),(1,.func (.func F) #[] #[pt b0 0])]) w
 have hE1 : Ext w w := Ext.refl w
 refine sgz 12 [] (kAt (bodyOf Tryz.f58) [1,0,1,0] []) [(0,.slice a xs.length c),(1,.func (.func F) #[] #[pt b0 0]),(4,iv (0 : Int)),(7,iv ((xs.length:Nat):Int)),(8,iv (0 : Int))] [] trivial ?_
 refine loopR (idxNode1L xs a c F b0 pr w) (k' := (kEnd (bodyOf Tryz.f58) [1,0,1,0] [])) (body := (cAt (bodyOf Tryz.f58) [1,0,1,0,0])) (by kernel_rfl) 0 [0,1,7,8] (by kernel_rfl) (⟨hE1,by omega,fun j h => by omega⟩) ?_
 rintro k w0 ⟨K1,hk,hp⟩
 refine sgz 5 [] (kAt (cAt (bodyOf Tryz.f58) [1,0,1,0,0]) [1,0] (.inv (LI 19 [] (idxNode1L xs a c F b0 pr w) k) :: (kEnd (bodyOf Tryz.f58) [1,0,1,0] []))) [(0,.slice a xs.length c),(1,.func (.func F) #[] #[pt b0 0]),(7,iv ((xs.length:Nat):Int)),(8,iv ((k:Nat):Int)),(9,.bool (decide (((k:Nat):Int) < ((xs.length:Nat):Int))))] [] trivial ?_
 refine brs (decide (((k:Nat):Int) < ((xs.length:Nat):Int))) (kAt (cAt (bodyOf Tryz.f58) [1,0,1,0,0]) [1,0,0] (.inv (LI 19 [] (idxNode1L xs a c F b0 pr w) k) :: (kEnd (bodyOf Tryz.f58) [1,0,1,0] []))) (kAt (cAt (bodyOf Tryz.f58) [1,0,1,0,0]) [1,0,1] (.inv (LI 19 [] (idxNode1L xs a c F b0 pr w) k) :: (kEnd (bodyOf Tryz.f58) [1,0,1,0] []))) (((k:Nat):Int) < ((xs.length:Nat):Int)) (iffDec) (fun h1 => ?_) (fun h1 => ?_)
 · have hk2 : k < xs.length := by omega
   have ha := hc.addrE nodeC_len (by decide) hk2
   refine sgz 15 [.ld (.agg #[sv ((xs.getD k d0N).name),iv ((xs.getD k d0N).asn)])] (kOp (cAt (bodyOf Tryz.f58) [1,0,1,0,0]) [1,1,0,0,1,0] 5 (.inv (LI 19 [] (idxNode1L xs a c F b0 pr w) k) :: (kEnd (bodyOf Tryz.f58) [1,0,1,0] []))) [(0,.slice a xs.length c),(1,.func (.func F) #[] #[pt b0 0]),(5,iv ((k:Nat):Int)),(7,iv ((xs.length:Nat):Int)),(8,iv ((k:Nat):Int)),(11,.func (.func F) #[] #[pt b0 0]),(15,.agg #[sv ((xs.getD k d0N).name),iv ((xs.getD k d0N).asn)])] [(0 ≤ ((k:Nat):Int) ∧ ((k:Nat):Int) < ((xs.length:Nat):Int)),(a : Option Addr) = some ⟨(slB a),slO a,none⟩,w0.cell? ⟨(slB a),slO a + k * 2,none⟩ = some (sv ((xs.getD k d0N).name)),w0.cell? ⟨(slB a),slO a + k * 2 + 1,none⟩ = some (iv ((xs.getD k d0N).asn))] (AC (by omega) (AC (by assumption) (AC (K1.cell (cellAt nodeC_len d0N hc hk2 (j := 0) rfl)) (A1 (K1.cell (cellAt nodeC_len d0N hc hk2 (j := 1) rfl)))))) ?_
   refine oss [] (.call F [.agg #[sv ((xs.getD k d0N).name),iv ((xs.getD k d0N).asn)],pt b0 0]) (some 16) (kOp (cAt (bodyOf Tryz.f58) [1,0,1,0,0]) [1,1,0,0,1,0] 6 (.inv (LI 19 [] (idxNode1L xs a c F b0 pr w) k) :: (kEnd (bodyOf Tryz.f58) [1,0,1,0] []))) [] trivial (runs_call hE (hF k hk2 w0 K1)) ?_
   rintro _ w1 ⟨rfl,hx⟩
   have hE2 := K1.trans hx
   refine sgz 1 [] (kAt (cAt (bodyOf Tryz.f58) [1,0,1,0,0]) [1,1,0,0,1,1] (.inv (LI 19 [] (idxNode1L xs a c F b0 pr w) k) :: (kEnd (bodyOf Tryz.f58) [1,0,1,0] []))) [(0,.slice a xs.length c),(1,.func (.func F) #[] #[pt b0 0]),(5,iv ((k:Nat):Int)),(7,iv ((xs.length:Nat):Int)),(8,iv ((k:Nat):Int)),(16,.bool (pr (xs.getD k d0N)))] [] trivial ?_
   refine brs (pr (xs.getD k d0N)) (kAt (cAt (bodyOf Tryz.f58) [1,0,1,0,0]) [1,1,0,0,1,1,0] (.inv (LI 19 [] (idxNode1L xs a c F b0 pr w) k) :: (kEnd (bodyOf Tryz.f58) [1,0,1,0] []))) (kAt (cAt (bodyOf Tryz.f58) [1,0,1,0,0]) [1,1,0,0,1,1,1] (.inv (LI 19 [] (idxNode1L xs a c F b0 pr w) k) :: (kEnd (bodyOf Tryz.f58) [1,0,1,0] []))) ((pr (xs.getD k d0N)) = true) (Iff.rfl) (fun h2 => ?_) (fun h2 => ?_)
   · refine sgz 5 [] (kAt (cAt (bodyOf Tryz.f58) [1,0,1,0,0]) [1,1,0,0,1,1,0,1] (.inv (LI 19 [] (idxNode1L xs a c F b0 pr w) k) :: (kEnd (bodyOf Tryz.f58) [1,0,1,0] []))) [(0,.slice a xs.length c),(1,.func (.func F) #[] #[pt b0 0]),(4,iv ((k:Nat):Int)),(7,iv ((xs.length:Nat):Int)),(8,iv ((k:Nat):Int))] [] trivial ?_
     exact retD (hs := []) (vs := [iv ((k:Nat):Int)]) (ps := []) (by kernel_rfl) trivial (v := iv ((k:Nat):Int)) rfl (⟨by rw [idxI_hit d0N hk2 hp h2],hE2⟩)
   · refine sgz 6 [] (.inv (LI 19 [] (idxNode1L xs a c F b0 pr w) k) :: (kEnd (bodyOf Tryz.f58) [1,0,1,0] [])) [(0,.slice a xs.length c),(1,.func (.func F) #[] #[pt b0 0]),(7,iv ((xs.length:Nat):Int)),(8,iv ((k + 1:Nat):Int))] [I64 ((k + 1:Nat):Int)] (A1 (i64 (by omega))) ?_
     exact again (k + 1) [0,1,7,8] (by kernel_rfl) (⟨hE2,by omega,fun j hj => by by_cases e : j = k; (subst e; simpa using h2); exact hp j (by omega)⟩) (show xs.length - (k + 1) < xs.length - k by omega)
 · refine sgz 5 [] (kAt (bodyOf Tryz.f58) [1,1,1] []) [(4,iv (-1 : Int))] [] trivial ?_
   exact retD (hs := []) (vs := [iv (-1 : Int)]) (ps := []) (by kernel_rfl) trivial (v := iv (-1 : Int)) rfl (⟨by rw [idxI_miss d0N (fun j hj => hp j (by omega))],K1⟩)

def idxDest1L (xs : List DA) (a : Option Addr) (c : Nat) (F : FuncId) (b0 : Nat) (pr : DA → Bool) (w : World) : Lp Nat where
  S := fun k => [(0,none,.slice a xs.length c),(1,none,.func (.func F) #[] #[pt b0 0]),(7,none,iv ((xs.length:Nat):Int)),(8,none,iv ((k:Nat):Int))]
  J := fun k w' => Ext w w' ∧ k ≤ xs.length ∧ ∀ j,j < k → pr (xs.getD j d0A) = false
  M := fun k => xs.length - k
set_option maxRecDepth 20000 in
theorem idxDest1 (xs : List DA) (a : Option Addr) (c : Nat) (F : FuncId) (b0 : Nat) (pr : DA → Bool) (w : World) (hE : Enters Tryz.prog F) (hF : ∀ k,k < xs.length → ∀ w',Ext w w' → Does Tryz.prog F [.agg #[sv ((xs.getD k d0A).d.name),.slice (xs.getD k d0A).a ((xs.getD k d0A).d.origins.length) ((xs.getD k d0A).c)],pt b0 0] w' fun v w2 => v = .bool (pr (xs.getD k d0A)) ∧ Ext w' w2) (hc : Cells w a (xs.flatMap destC)) (hl : xs.length ≤ 140737488355328) :
    Does Tryz.prog 60 [.slice a xs.length c,.func (.func F) #[] #[pt b0 0]] w (fun v w' => v = .int .i64 (idxI pr xs) ∧ Ext w w') := by
 refine startD (c := (bodyOf Tryz.f60)) Tryz.func60 rfl (by kernel_rfl) ?_
 show G _ 19 [] _ (kAt (bodyOf Tryz.f60) [] []) (stz [(0,.slice a xs.length c),(1,.func (.func F) #[] #[pt b0 0])]) w
 have hE1 : Ext w w := Ext.refl w
 refine sgz 12 [] (kAt (bodyOf Tryz.f60) [1,0,1,0] []) [(0,.slice a xs.length c),(1,.func (.func F) #[] #[pt b0 0]),(4,iv (0 : Int)),(7,iv ((xs.length:Nat):Int)),(8,iv (0 : Int))] [] trivial ?_
 refine loopR (idxDest1L xs a c F b0 pr w) (k' := (kEnd (bodyOf Tryz.f60) [1,0,1,0] [])) (body := (cAt (bodyOf Tryz.f60) [1,0,1,0,0])) (by kernel_rfl) 0 [0,1,7,8] (by kernel_rfl) (⟨hE1,by omega,fun j h => by omega⟩) ?_
 rintro k w0 ⟨K1,hk,hp⟩
 refine sgz 5 [] (kAt (cAt (bodyOf Tryz.f60) [1,0,1,0,0]) [1,0] (.inv (LI 19 [] (idxDest1L xs a c F b0 pr w) k) :: (kEnd (bodyOf Tryz.f60) [1,0,1,0] []))) [(0,.slice a xs.length c),(1,.func (.func F) #[] #[pt b0 0]),(7,iv ((xs.length:Nat):Int)),(8,iv ((k:Nat):Int)),(9,.bool (decide (((k:Nat):Int) < ((xs.length:Nat):Int))))] [] trivial ?_
 refine brs (decide (((k:Nat):Int) < ((xs.length:Nat):Int))) (kAt (cAt (bodyOf Tryz.f60) [1,0,1,0,0]) [1,0,0] (.inv (LI 19 [] (idxDest1L xs a c F b0 pr w) k) :: (kEnd (bodyOf Tryz.f60) [1,0,1,0] []))) (kAt (cAt (bodyOf Tryz.f60) [1,0,1,0,0]) [1,0,1] (.inv (LI 19 [] (idxDest1L xs a c F b0 pr w) k) :: (kEnd (bodyOf Tryz.f60) [1,0,1,0] []))) (((k:Nat):Int) < ((xs.length:Nat):Int)) (iffDec) (fun h1 => ?_) (fun h1 => ?_)
 · have hk2 : k < xs.length := by omega
   have ha := hc.addrE destC_len (by decide) hk2
   refine sgz 15 [.ld (.agg #[sv ((xs.getD k d0A).d.name),.slice (xs.getD k d0A).a ((xs.getD k d0A).d.origins.length) ((xs.getD k d0A).c)])] (kOp (cAt (bodyOf Tryz.f60) [1,0,1,0,0]) [1,1,0,0,1,0] 5 (.inv (LI 19 [] (idxDest1L xs a c F b0 pr w) k) :: (kEnd (bodyOf Tryz.f60) [1,0,1,0] []))) [(0,.slice a xs.length c),(1,.func (.func F) #[] #[pt b0 0]),(5,iv ((k:Nat):Int)),(7,iv ((xs.length:Nat):Int)),(8,iv ((k:Nat):Int)),(11,.func (.func F) #[] #[pt b0 0]),(15,.agg #[sv ((xs.getD k d0A).d.name),.slice (xs.getD k d0A).a ((xs.getD k d0A).d.origins.length) ((xs.getD k d0A).c)])] [(0 ≤ ((k:Nat):Int) ∧ ((k:Nat):Int) < ((xs.length:Nat):Int)),(a : Option Addr) = some ⟨(slB a),slO a,none⟩,w0.cell? ⟨(slB a),slO a + k * 2,none⟩ = some (sv ((xs.getD k d0A).d.name)),w0.cell? ⟨(slB a),slO a + k * 2 + 1,none⟩ = some (.slice (xs.getD k d0A).a ((xs.getD k d0A).d.origins.length) ((xs.getD k d0A).c))] (AC (by omega) (AC (by assumption) (AC (K1.cell (cellAt destC_len d0A hc hk2 (j := 0) rfl)) (A1 (K1.cell (cellAt destC_len d0A hc hk2 (j := 1) rfl)))))) ?_
   refine oss [] (.call F [.agg #[sv ((xs.getD k d0A).d.name),.slice (xs.getD k d0A).a ((xs.getD k d0A).d.origins.length) ((xs.getD k d0A).c)],pt b0 0]) (some 16) (kOp (cAt (bodyOf Tryz.f60) [1,0,1,0,0]) [1,1,0,0,1,0] 6 (.inv (LI 19 [] (idxDest1L xs a c F b0 pr w) k) :: (kEnd (bodyOf Tryz.f60) [1,0,1,0] []))) [] trivial (runs_call hE (hF k hk2 w0 K1)) ?_
   rintro _ w1 ⟨rfl,hx⟩
   have hE2 := K1.trans hx
   refine sgz 1 [] (kAt (cAt (bodyOf Tryz.f60) [1,0,1,0,0]) [1,1,0,0,1,1] (.inv (LI 19 [] (idxDest1L xs a c F b0 pr w) k) :: (kEnd (bodyOf Tryz.f60) [1,0,1,0] []))) [(0,.slice a xs.length c),(1,.func (.func F) #[] #[pt b0 0]),(5,iv ((k:Nat):Int)),(7,iv ((xs.length:Nat):Int)),(8,iv ((k:Nat):Int)),(16,.bool (pr (xs.getD k d0A)))] [] trivial ?_
   refine brs (pr (xs.getD k d0A)) (kAt (cAt (bodyOf Tryz.f60) [1,0,1,0,0]) [1,1,0,0,1,1,0] (.inv (LI 19 [] (idxDest1L xs a c F b0 pr w) k) :: (kEnd (bodyOf Tryz.f60) [1,0,1,0] []))) (kAt (cAt (bodyOf Tryz.f60) [1,0,1,0,0]) [1,1,0,0,1,1,1] (.inv (LI 19 [] (idxDest1L xs a c F b0 pr w) k) :: (kEnd (bodyOf Tryz.f60) [1,0,1,0] []))) ((pr (xs.getD k d0A)) = true) (Iff.rfl) (fun h2 => ?_) (fun h2 => ?_)
   · refine sgz 5 [] (kAt (cAt (bodyOf Tryz.f60) [1,0,1,0,0]) [1,1,0,0,1,1,0,1] (.inv (LI 19 [] (idxDest1L xs a c F b0 pr w) k) :: (kEnd (bodyOf Tryz.f60) [1,0,1,0] []))) [(0,.slice a xs.length c),(1,.func (.func F) #[] #[pt b0 0]),(4,iv ((k:Nat):Int)),(7,iv ((xs.length:Nat):Int)),(8,iv ((k:Nat):Int))] [] trivial ?_
     exact retD (hs := []) (vs := [iv ((k:Nat):Int)]) (ps := []) (by kernel_rfl) trivial (v := iv ((k:Nat):Int)) rfl (⟨by rw [idxI_hit d0A hk2 hp h2],hE2⟩)
   · refine sgz 6 [] (.inv (LI 19 [] (idxDest1L xs a c F b0 pr w) k) :: (kEnd (bodyOf Tryz.f60) [1,0,1,0] [])) [(0,.slice a xs.length c),(1,.func (.func F) #[] #[pt b0 0]),(7,iv ((xs.length:Nat):Int)),(8,iv ((k + 1:Nat):Int))] [I64 ((k + 1:Nat):Int)] (A1 (i64 (by omega))) ?_
     exact again (k + 1) [0,1,7,8] (by kernel_rfl) (⟨hE2,by omega,fun j hj => by by_cases e : j = k; (subst e; simpa using h2); exact hp j (by omega)⟩) (show xs.length - (k + 1) < xs.length - k by omega)
 · refine sgz 5 [] (kAt (bodyOf Tryz.f60) [1,1,1] []) [(4,iv (-1 : Int))] [] trivial ?_
   exact retD (hs := []) (vs := [iv (-1 : Int)]) (ps := []) (by kernel_rfl) trivial (v := iv (-1 : Int)) rfl (⟨by rw [idxI_miss d0A (fun j hj => hp j (by omega))],K1⟩)

def idxCheck1L (xs : List PCheck) (a : Option Addr) (c : Nat) (F : FuncId) (b0 : Nat) (pr : PCheck → Bool) (w : World) : Lp Nat where
  S := fun k => [(0,none,.slice a xs.length c),(1,none,.func (.func F) #[] #[pt b0 0]),(7,none,iv ((xs.length:Nat):Int)),(8,none,iv ((k:Nat):Int))]
  J := fun k w' => Ext w w' ∧ k ≤ xs.length ∧ ∀ j,j < k → pr (xs.getD j d0C) = false
  M := fun k => xs.length - k
set_option maxRecDepth 20000 in
theorem idxCheck1 (xs : List PCheck) (a : Option Addr) (c : Nat) (F : FuncId) (b0 : Nat) (pr : PCheck → Bool) (w : World) (hE : Enters Tryz.prog F) (hF : ∀ k,k < xs.length → ∀ w',Ext w w' → Does Tryz.prog F [.agg #[iv ((xs.getD k d0C).kind),iv ((xs.getD k d0C).node),iv ((xs.getD k d0C).dest),iv ((xs.getD k d0C).limit),iv ((xs.getD k d0C).other)],pt b0 0] w' fun v w2 => v = .bool (pr (xs.getD k d0C)) ∧ Ext w' w2) (hc : Cells w a (xs.flatMap checkC)) (hl : xs.length ≤ 140737488355328) :
    Does Tryz.prog 83 [.slice a xs.length c,.func (.func F) #[] #[pt b0 0]] w (fun v w' => v = .int .i64 (idxI pr xs) ∧ Ext w w') := by
 refine startD (c := (bodyOf Tryz.f83)) Tryz.func83 rfl (by kernel_rfl) ?_
 show G _ 19 [] _ (kAt (bodyOf Tryz.f83) [] []) (stz [(0,.slice a xs.length c),(1,.func (.func F) #[] #[pt b0 0])]) w
 have hE1 : Ext w w := Ext.refl w
 refine sgz 12 [] (kAt (bodyOf Tryz.f83) [1,0,1,0] []) [(0,.slice a xs.length c),(1,.func (.func F) #[] #[pt b0 0]),(4,iv (0 : Int)),(7,iv ((xs.length:Nat):Int)),(8,iv (0 : Int))] [] trivial ?_
 refine loopR (idxCheck1L xs a c F b0 pr w) (k' := (kEnd (bodyOf Tryz.f83) [1,0,1,0] [])) (body := (cAt (bodyOf Tryz.f83) [1,0,1,0,0])) (by kernel_rfl) 0 [0,1,7,8] (by kernel_rfl) (⟨hE1,by omega,fun j h => by omega⟩) ?_
 rintro k w0 ⟨K1,hk,hp⟩
 refine sgz 5 [] (kAt (cAt (bodyOf Tryz.f83) [1,0,1,0,0]) [1,0] (.inv (LI 19 [] (idxCheck1L xs a c F b0 pr w) k) :: (kEnd (bodyOf Tryz.f83) [1,0,1,0] []))) [(0,.slice a xs.length c),(1,.func (.func F) #[] #[pt b0 0]),(7,iv ((xs.length:Nat):Int)),(8,iv ((k:Nat):Int)),(9,.bool (decide (((k:Nat):Int) < ((xs.length:Nat):Int))))] [] trivial ?_
 refine brs (decide (((k:Nat):Int) < ((xs.length:Nat):Int))) (kAt (cAt (bodyOf Tryz.f83) [1,0,1,0,0]) [1,0,0] (.inv (LI 19 [] (idxCheck1L xs a c F b0 pr w) k) :: (kEnd (bodyOf Tryz.f83) [1,0,1,0] []))) (kAt (cAt (bodyOf Tryz.f83) [1,0,1,0,0]) [1,0,1] (.inv (LI 19 [] (idxCheck1L xs a c F b0 pr w) k) :: (kEnd (bodyOf Tryz.f83) [1,0,1,0] []))) (((k:Nat):Int) < ((xs.length:Nat):Int)) (iffDec) (fun h1 => ?_) (fun h1 => ?_)
 · have hk2 : k < xs.length := by omega
   have ha := hc.addrE checkC_len (by decide) hk2
   refine sgz 15 [.ld (.agg #[iv ((xs.getD k d0C).kind),iv ((xs.getD k d0C).node),iv ((xs.getD k d0C).dest),iv ((xs.getD k d0C).limit),iv ((xs.getD k d0C).other)])] (kOp (cAt (bodyOf Tryz.f83) [1,0,1,0,0]) [1,1,0,0,1,0] 5 (.inv (LI 19 [] (idxCheck1L xs a c F b0 pr w) k) :: (kEnd (bodyOf Tryz.f83) [1,0,1,0] []))) [(0,.slice a xs.length c),(1,.func (.func F) #[] #[pt b0 0]),(5,iv ((k:Nat):Int)),(7,iv ((xs.length:Nat):Int)),(8,iv ((k:Nat):Int)),(11,.func (.func F) #[] #[pt b0 0]),(15,.agg #[iv ((xs.getD k d0C).kind),iv ((xs.getD k d0C).node),iv ((xs.getD k d0C).dest),iv ((xs.getD k d0C).limit),iv ((xs.getD k d0C).other)])] [(0 ≤ ((k:Nat):Int) ∧ ((k:Nat):Int) < ((xs.length:Nat):Int)),(a : Option Addr) = some ⟨(slB a),slO a,none⟩,w0.cell? ⟨(slB a),slO a + k * 5,none⟩ = some (iv ((xs.getD k d0C).kind)),w0.cell? ⟨(slB a),slO a + k * 5 + 1,none⟩ = some (iv ((xs.getD k d0C).node)),w0.cell? ⟨(slB a),slO a + k * 5 + 2,none⟩ = some (iv ((xs.getD k d0C).dest)),w0.cell? ⟨(slB a),slO a + k * 5 + 3,none⟩ = some (iv ((xs.getD k d0C).limit)),w0.cell? ⟨(slB a),slO a + k * 5 + 4,none⟩ = some (iv ((xs.getD k d0C).other))] (AC (by omega) (AC (by assumption) (AC (K1.cell (cellAt checkC_len d0C hc hk2 (j := 0) rfl)) (AC (K1.cell (cellAt checkC_len d0C hc hk2 (j := 1) rfl)) (AC (K1.cell (cellAt checkC_len d0C hc hk2 (j := 2) rfl)) (AC (K1.cell (cellAt checkC_len d0C hc hk2 (j := 3) rfl)) (A1 (K1.cell (cellAt checkC_len d0C hc hk2 (j := 4) rfl))))))))) ?_
   refine oss [] (.call F [.agg #[iv ((xs.getD k d0C).kind),iv ((xs.getD k d0C).node),iv ((xs.getD k d0C).dest),iv ((xs.getD k d0C).limit),iv ((xs.getD k d0C).other)],pt b0 0]) (some 16) (kOp (cAt (bodyOf Tryz.f83) [1,0,1,0,0]) [1,1,0,0,1,0] 6 (.inv (LI 19 [] (idxCheck1L xs a c F b0 pr w) k) :: (kEnd (bodyOf Tryz.f83) [1,0,1,0] []))) [] trivial (runs_call hE (hF k hk2 w0 K1)) ?_
   rintro _ w1 ⟨rfl,hx⟩
   have hE2 := K1.trans hx
   refine sgz 1 [] (kAt (cAt (bodyOf Tryz.f83) [1,0,1,0,0]) [1,1,0,0,1,1] (.inv (LI 19 [] (idxCheck1L xs a c F b0 pr w) k) :: (kEnd (bodyOf Tryz.f83) [1,0,1,0] []))) [(0,.slice a xs.length c),(1,.func (.func F) #[] #[pt b0 0]),(5,iv ((k:Nat):Int)),(7,iv ((xs.length:Nat):Int)),(8,iv ((k:Nat):Int)),(16,.bool (pr (xs.getD k d0C)))] [] trivial ?_
   refine brs (pr (xs.getD k d0C)) (kAt (cAt (bodyOf Tryz.f83) [1,0,1,0,0]) [1,1,0,0,1,1,0] (.inv (LI 19 [] (idxCheck1L xs a c F b0 pr w) k) :: (kEnd (bodyOf Tryz.f83) [1,0,1,0] []))) (kAt (cAt (bodyOf Tryz.f83) [1,0,1,0,0]) [1,1,0,0,1,1,1] (.inv (LI 19 [] (idxCheck1L xs a c F b0 pr w) k) :: (kEnd (bodyOf Tryz.f83) [1,0,1,0] []))) ((pr (xs.getD k d0C)) = true) (Iff.rfl) (fun h2 => ?_) (fun h2 => ?_)
   · refine sgz 5 [] (kAt (cAt (bodyOf Tryz.f83) [1,0,1,0,0]) [1,1,0,0,1,1,0,1] (.inv (LI 19 [] (idxCheck1L xs a c F b0 pr w) k) :: (kEnd (bodyOf Tryz.f83) [1,0,1,0] []))) [(0,.slice a xs.length c),(1,.func (.func F) #[] #[pt b0 0]),(4,iv ((k:Nat):Int)),(7,iv ((xs.length:Nat):Int)),(8,iv ((k:Nat):Int))] [] trivial ?_
     exact retD (hs := []) (vs := [iv ((k:Nat):Int)]) (ps := []) (by kernel_rfl) trivial (v := iv ((k:Nat):Int)) rfl (⟨by rw [idxI_hit d0C hk2 hp h2],hE2⟩)
   · refine sgz 6 [] (.inv (LI 19 [] (idxCheck1L xs a c F b0 pr w) k) :: (kEnd (bodyOf Tryz.f83) [1,0,1,0] [])) [(0,.slice a xs.length c),(1,.func (.func F) #[] #[pt b0 0]),(7,iv ((xs.length:Nat):Int)),(8,iv ((k + 1:Nat):Int))] [I64 ((k + 1:Nat):Int)] (A1 (i64 (by omega))) ?_
     exact again (k + 1) [0,1,7,8] (by kernel_rfl) (⟨hE2,by omega,fun j hj => by by_cases e : j = k; (subst e; simpa using h2); exact hp j (by omega)⟩) (show xs.length - (k + 1) < xs.length - k by omega)
 · refine sgz 5 [] (kAt (bodyOf Tryz.f83) [1,1,1] []) [(4,iv (-1 : Int))] [] trivial ?_
   exact retD (hs := []) (vs := [iv (-1 : Int)]) (ps := []) (by kernel_rfl) trivial (v := iv (-1 : Int)) rfl (⟨by rw [idxI_miss d0C (fun j hj => hp j (by omega))],K1⟩)

def idxStr0L (xs : List Bytes) (a : Option Addr) (c : Nat) (F : FuncId) (pr : Bytes → Bool) (w : World) : Lp Nat where
  S := fun k => [(0,none,.slice a xs.length c),(1,none,.func (.func F) #[] #[]),(7,none,iv ((xs.length:Nat):Int)),(8,none,iv ((k:Nat):Int))]
  J := fun k w' => Ext w w' ∧ k ≤ xs.length ∧ ∀ j,j < k → pr (xs.getD j []) = false
  M := fun k => xs.length - k
set_option maxRecDepth 20000 in
theorem idxStr0 (xs : List Bytes) (a : Option Addr) (c : Nat) (F : FuncId) (pr : Bytes → Bool) (w : World) (hE : Enters Tryz.prog F) (hF : ∀ k,k < xs.length → ∀ w',Ext w w' → Does Tryz.prog F [sv (xs.getD k [])] w' fun v w2 => v = .bool (pr (xs.getD k [])) ∧ Ext w' w2) (hc : Cells w a (xs.flatMap strC)) (hl : xs.length ≤ 140737488355328) :
    Does Tryz.prog 108 [.slice a xs.length c,.func (.func F) #[] #[]] w (fun v w' => v = .int .i64 (idxI pr xs) ∧ Ext w w') := by
 refine startD (c := (bodyOf Tryz.f108)) Tryz.func108 rfl (by kernel_rfl) ?_
 show G _ 19 [] _ (kAt (bodyOf Tryz.f108) [] []) (stz [(0,.slice a xs.length c),(1,.func (.func F) #[] #[])]) w
 have hE1 : Ext w w := Ext.refl w
 refine sgz 12 [] (kAt (bodyOf Tryz.f108) [1,0,1,0] []) [(0,.slice a xs.length c),(1,.func (.func F) #[] #[]),(4,iv (0 : Int)),(7,iv ((xs.length:Nat):Int)),(8,iv (0 : Int))] [] trivial ?_
 refine loopR (idxStr0L xs a c F pr w) (k' := (kEnd (bodyOf Tryz.f108) [1,0,1,0] [])) (body := (cAt (bodyOf Tryz.f108) [1,0,1,0,0])) (by kernel_rfl) 0 [0,1,7,8] (by kernel_rfl) (⟨hE1,by omega,fun j h => by omega⟩) ?_
 rintro k w0 ⟨K1,hk,hp⟩
 refine sgz 5 [] (kAt (cAt (bodyOf Tryz.f108) [1,0,1,0,0]) [1,0] (.inv (LI 19 [] (idxStr0L xs a c F pr w) k) :: (kEnd (bodyOf Tryz.f108) [1,0,1,0] []))) [(0,.slice a xs.length c),(1,.func (.func F) #[] #[]),(7,iv ((xs.length:Nat):Int)),(8,iv ((k:Nat):Int)),(9,.bool (decide (((k:Nat):Int) < ((xs.length:Nat):Int))))] [] trivial ?_
 refine brs (decide (((k:Nat):Int) < ((xs.length:Nat):Int))) (kAt (cAt (bodyOf Tryz.f108) [1,0,1,0,0]) [1,0,0] (.inv (LI 19 [] (idxStr0L xs a c F pr w) k) :: (kEnd (bodyOf Tryz.f108) [1,0,1,0] []))) (kAt (cAt (bodyOf Tryz.f108) [1,0,1,0,0]) [1,0,1] (.inv (LI 19 [] (idxStr0L xs a c F pr w) k) :: (kEnd (bodyOf Tryz.f108) [1,0,1,0] []))) (((k:Nat):Int) < ((xs.length:Nat):Int)) (iffDec) (fun h1 => ?_) (fun h1 => ?_)
 · have hk2 : k < xs.length := by omega
   have ha := hc.addrE strC_len (by decide) hk2
   refine sgz 15 [.ld (sv (xs.getD k []))] (kOp (cAt (bodyOf Tryz.f108) [1,0,1,0,0]) [1,1,0,0,1,0] 5 (.inv (LI 19 [] (idxStr0L xs a c F pr w) k) :: (kEnd (bodyOf Tryz.f108) [1,0,1,0] []))) [(0,.slice a xs.length c),(1,.func (.func F) #[] #[]),(5,iv ((k:Nat):Int)),(7,iv ((xs.length:Nat):Int)),(8,iv ((k:Nat):Int)),(11,.func (.func F) #[] #[]),(15,sv (xs.getD k []))] [(0 ≤ ((k:Nat):Int) ∧ ((k:Nat):Int) < ((xs.length:Nat):Int)),(a : Option Addr) = some ⟨(slB a),slO a,none⟩,w0.cell? ⟨(slB a),slO a + k * 1,none⟩ = some (sv (xs.getD k []))] (AC (by omega) (AC (by assumption) (A1 (K1.cell (cellAt strC_len [] hc hk2 (j := 0) rfl))))) ?_
   refine oss [] (.call F [sv (xs.getD k [])]) (some 16) (kOp (cAt (bodyOf Tryz.f108) [1,0,1,0,0]) [1,1,0,0,1,0] 6 (.inv (LI 19 [] (idxStr0L xs a c F pr w) k) :: (kEnd (bodyOf Tryz.f108) [1,0,1,0] []))) [] trivial (runs_call hE (hF k hk2 w0 K1)) ?_
   rintro _ w1 ⟨rfl,hx⟩
   have hE2 := K1.trans hx
   refine sgz 1 [] (kAt (cAt (bodyOf Tryz.f108) [1,0,1,0,0]) [1,1,0,0,1,1] (.inv (LI 19 [] (idxStr0L xs a c F pr w) k) :: (kEnd (bodyOf Tryz.f108) [1,0,1,0] []))) [(0,.slice a xs.length c),(1,.func (.func F) #[] #[]),(5,iv ((k:Nat):Int)),(7,iv ((xs.length:Nat):Int)),(8,iv ((k:Nat):Int)),(16,.bool (pr (xs.getD k [])))] [] trivial ?_
   refine brs (pr (xs.getD k [])) (kAt (cAt (bodyOf Tryz.f108) [1,0,1,0,0]) [1,1,0,0,1,1,0] (.inv (LI 19 [] (idxStr0L xs a c F pr w) k) :: (kEnd (bodyOf Tryz.f108) [1,0,1,0] []))) (kAt (cAt (bodyOf Tryz.f108) [1,0,1,0,0]) [1,1,0,0,1,1,1] (.inv (LI 19 [] (idxStr0L xs a c F pr w) k) :: (kEnd (bodyOf Tryz.f108) [1,0,1,0] []))) ((pr (xs.getD k [])) = true) (Iff.rfl) (fun h2 => ?_) (fun h2 => ?_)
   · refine sgz 5 [] (kAt (cAt (bodyOf Tryz.f108) [1,0,1,0,0]) [1,1,0,0,1,1,0,1] (.inv (LI 19 [] (idxStr0L xs a c F pr w) k) :: (kEnd (bodyOf Tryz.f108) [1,0,1,0] []))) [(0,.slice a xs.length c),(1,.func (.func F) #[] #[]),(4,iv ((k:Nat):Int)),(7,iv ((xs.length:Nat):Int)),(8,iv ((k:Nat):Int))] [] trivial ?_
     exact retD (hs := []) (vs := [iv ((k:Nat):Int)]) (ps := []) (by kernel_rfl) trivial (v := iv ((k:Nat):Int)) rfl (⟨by rw [idxI_hit [] hk2 hp h2],hE2⟩)
   · refine sgz 6 [] (.inv (LI 19 [] (idxStr0L xs a c F pr w) k) :: (kEnd (bodyOf Tryz.f108) [1,0,1,0] [])) [(0,.slice a xs.length c),(1,.func (.func F) #[] #[]),(7,iv ((xs.length:Nat):Int)),(8,iv ((k + 1:Nat):Int))] [I64 ((k + 1:Nat):Int)] (A1 (i64 (by omega))) ?_
     exact again (k + 1) [0,1,7,8] (by kernel_rfl) (⟨hE2,by omega,fun j hj => by by_cases e : j = k; (subst e; simpa using h2); exact hp j (by omega)⟩) (show xs.length - (k + 1) < xs.length - k by omega)
 · refine sgz 5 [] (kAt (bodyOf Tryz.f108) [1,1,1] []) [(4,iv (-1 : Int))] [] trivial ?_
   exact retD (hs := []) (vs := [iv (-1 : Int)]) (ps := []) (by kernel_rfl) trivial (v := iv (-1 : Int)) rfl (⟨by rw [idxI_miss [] (fun j hj => hp j (by omega))],K1⟩)

set_option maxRecDepth 20000 in
theorem hasNode0 (xs : List PNode) (a : Option Addr) (c : Nat) (F : FuncId) (pr : PNode → Bool) (w : World) (hE : Enters Tryz.prog F) (hF : ∀ k,k < xs.length → ∀ w',Ext w w' → Does Tryz.prog F [.agg #[sv ((xs.getD k d0N).name),iv ((xs.getD k d0N).asn)]] w' fun v w2 => v = .bool (pr (xs.getD k d0N)) ∧ Ext w' w2) (hc : Cells w a (xs.flatMap nodeC)) (hl : xs.length ≤ 140737488355328) :
    Does Tryz.prog 76 [.slice a xs.length c,.func (.func F) #[] #[]] w (fun v w' => v = .bool (xs.any pr) ∧ Ext w w') := by
 refine startD (c := (bodyOf Tryz.f76)) Tryz.func76 rfl (by kernel_rfl) ?_
 show G _ 9 [] _ (kAt (bodyOf Tryz.f76) [] []) (stz [(0,.slice a xs.length c),(1,.func (.func F) #[] #[])]) w
 have hE1 : Ext w w := Ext.refl w
 refine sgz 8 [] (kOp (bodyOf Tryz.f76) [1,0] 2 []) [(4,.bool false),(5,.slice a xs.length c),(6,.func (.func F) #[] #[])] [] trivial ?_
 refine oss [] (.call 58 [.slice a xs.length c,.func (.func F) #[] #[]]) (some 7) (kOp (bodyOf Tryz.f76) [1,0] 3 []) [] trivial (runs_call E58 (idxNode0 xs a c F pr w hE hF hc hl)) ?_
 rintro _ w1 ⟨rfl,hx⟩
 have hE2 := hE1.trans hx
 refine sgz 3 [] (kAt (bodyOf Tryz.f76) [1,1] []) [(4,.bool (decide ((0 : Int) ≤ idxI pr xs)))] [] trivial ?_
 exact retD (hs := []) (vs := [.bool (decide ((0 : Int) ≤ idxI pr xs))]) (ps := []) (by kernel_rfl) trivial (v := .bool (decide ((0 : Int) ≤ idxI pr xs))) rfl (⟨by rw [idxI_any],hE2⟩)

set_option maxRecDepth 20000 in
theorem hasDest1 (xs : List DA) (a : Option Addr) (c : Nat) (F : FuncId) (b0 : Nat) (pr : DA → Bool) (w : World) (hE : Enters Tryz.prog F) (hF : ∀ k,k < xs.length → ∀ w',Ext w w' → Does Tryz.prog F [.agg #[sv ((xs.getD k d0A).d.name),.slice (xs.getD k d0A).a ((xs.getD k d0A).d.origins.length) ((xs.getD k d0A).c)],pt b0 0] w' fun v w2 => v = .bool (pr (xs.getD k d0A)) ∧ Ext w' w2) (hc : Cells w a (xs.flatMap destC)) (hl : xs.length ≤ 140737488355328) :
    Does Tryz.prog 46 [.slice a xs.length c,.func (.func F) #[] #[pt b0 0]] w (fun v w' => v = .bool (xs.any pr) ∧ Ext w w') := by
 refine startD (c := (bodyOf Tryz.f46)) Tryz.func46 rfl (by kernel_rfl) ?_
 show G _ 9 [] _ (kAt (bodyOf Tryz.f46) [] []) (stz [(0,.slice a xs.length c),(1,.func (.func F) #[] #[pt b0 0])]) w
 have hE1 : Ext w w := Ext.refl w
 refine sgz 8 [] (kOp (bodyOf Tryz.f46) [1,0] 2 []) [(4,.bool false),(5,.slice a xs.length c),(6,.func (.func F) #[] #[pt b0 0])] [] trivial ?_
 refine oss [] (.call 60 [.slice a xs.length c,.func (.func F) #[] #[pt b0 0]]) (some 7) (kOp (bodyOf Tryz.f46) [1,0] 3 []) [] trivial (runs_call E60 (idxDest1 xs a c F b0 pr w hE hF hc hl)) ?_
 rintro _ w1 ⟨rfl,hx⟩
 have hE2 := hE1.trans hx
 refine sgz 3 [] (kAt (bodyOf Tryz.f46) [1,1] []) [(4,.bool (decide ((0 : Int) ≤ idxI pr xs)))] [] trivial ?_
 exact retD (hs := []) (vs := [.bool (decide ((0 : Int) ≤ idxI pr xs))]) (ps := []) (by kernel_rfl) trivial (v := .bool (decide ((0 : Int) ≤ idxI pr xs))) rfl (⟨by rw [idxI_any],hE2⟩)

set_option maxRecDepth 20000 in
theorem hasCheck1 (xs : List PCheck) (a : Option Addr) (c : Nat) (F : FuncId) (b0 : Nat) (pr : PCheck → Bool) (w : World) (hE : Enters Tryz.prog F) (hF : ∀ k,k < xs.length → ∀ w',Ext w w' → Does Tryz.prog F [.agg #[iv ((xs.getD k d0C).kind),iv ((xs.getD k d0C).node),iv ((xs.getD k d0C).dest),iv ((xs.getD k d0C).limit),iv ((xs.getD k d0C).other)],pt b0 0] w' fun v w2 => v = .bool (pr (xs.getD k d0C)) ∧ Ext w' w2) (hc : Cells w a (xs.flatMap checkC)) (hl : xs.length ≤ 140737488355328) :
    Does Tryz.prog 47 [.slice a xs.length c,.func (.func F) #[] #[pt b0 0]] w (fun v w' => v = .bool (xs.any pr) ∧ Ext w w') := by
 refine startD (c := (bodyOf Tryz.f47)) Tryz.func47 rfl (by kernel_rfl) ?_
 show G _ 9 [] _ (kAt (bodyOf Tryz.f47) [] []) (stz [(0,.slice a xs.length c),(1,.func (.func F) #[] #[pt b0 0])]) w
 have hE1 : Ext w w := Ext.refl w
 refine sgz 8 [] (kOp (bodyOf Tryz.f47) [1,0] 2 []) [(4,.bool false),(5,.slice a xs.length c),(6,.func (.func F) #[] #[pt b0 0])] [] trivial ?_
 refine oss [] (.call 83 [.slice a xs.length c,.func (.func F) #[] #[pt b0 0]]) (some 7) (kOp (bodyOf Tryz.f47) [1,0] 3 []) [] trivial (runs_call E83 (idxCheck1 xs a c F b0 pr w hE hF hc hl)) ?_
 rintro _ w1 ⟨rfl,hx⟩
 have hE2 := hE1.trans hx
 refine sgz 3 [] (kAt (bodyOf Tryz.f47) [1,1] []) [(4,.bool (decide ((0 : Int) ≤ idxI pr xs)))] [] trivial ?_
 exact retD (hs := []) (vs := [.bool (decide ((0 : Int) ≤ idxI pr xs))]) (ps := []) (by kernel_rfl) trivial (v := .bool (decide ((0 : Int) ≤ idxI pr xs))) rfl (⟨by rw [idxI_any],hE2⟩)

set_option maxRecDepth 20000 in
theorem hasStr0 (xs : List Bytes) (a : Option Addr) (c : Nat) (F : FuncId) (pr : Bytes → Bool) (w : World) (hE : Enters Tryz.prog F) (hF : ∀ k,k < xs.length → ∀ w',Ext w w' → Does Tryz.prog F [sv (xs.getD k [])] w' fun v w2 => v = .bool (pr (xs.getD k [])) ∧ Ext w' w2) (hc : Cells w a (xs.flatMap strC)) (hl : xs.length ≤ 140737488355328) :
    Does Tryz.prog 79 [.slice a xs.length c,.func (.func F) #[] #[]] w (fun v w' => v = .bool (xs.any pr) ∧ Ext w w') := by
 refine startD (c := (bodyOf Tryz.f79)) Tryz.func79 rfl (by kernel_rfl) ?_
 show G _ 9 [] _ (kAt (bodyOf Tryz.f79) [] []) (stz [(0,.slice a xs.length c),(1,.func (.func F) #[] #[])]) w
 have hE1 : Ext w w := Ext.refl w
 refine sgz 8 [] (kOp (bodyOf Tryz.f79) [1,0] 2 []) [(4,.bool false),(5,.slice a xs.length c),(6,.func (.func F) #[] #[])] [] trivial ?_
 refine oss [] (.call 108 [.slice a xs.length c,.func (.func F) #[] #[]]) (some 7) (kOp (bodyOf Tryz.f79) [1,0] 3 []) [] trivial (runs_call E108 (idxStr0 xs a c F pr w hE hF hc hl)) ?_
 rintro _ w1 ⟨rfl,hx⟩
 have hE2 := hE1.trans hx
 refine sgz 3 [] (kAt (bodyOf Tryz.f79) [1,1] []) [(4,.bool (decide ((0 : Int) ≤ idxI pr xs)))] [] trivial ?_
 exact retD (hs := []) (vs := [.bool (decide ((0 : Int) ≤ idxI pr xs))]) (ps := []) (by kernel_rfl) trivial (v := .bool (decide ((0 : Int) ≤ idxI pr xs))) rfl (⟨by rw [idxI_any],hE2⟩)

def eqNodeL (xs ys : List PNode) (a a' : Option Addr) (c c' : Nat) (w : World) : Lp Nat where
  S := fun k => [(0,none,.slice a xs.length c),(1,none,.slice a' ys.length (c')),(12,none,iv ((xs.length:Nat):Int)),(13,none,iv ((k:Nat):Int))]
  J := fun k w' => Ext w w' ∧ k ≤ xs.length ∧ ∀ j,j < k → xs.getD j d0N = ys.getD j d0N
  M := fun k => xs.length - k
set_option maxRecDepth 20000 in
theorem eqNode (xs ys : List PNode) (a a' : Option Addr) (c c' : Nat) (w : World) (hc : Cells w a (xs.flatMap nodeC)) (hc' : Cells w a' (ys.flatMap nodeC)) (hl : xs.length ≤ 140737488355328) :
    Does Tryz.prog 54 [.slice a xs.length c,.slice a' ys.length (c')] w (fun v w' => v = .bool (decide (xs = ys)) ∧ Ext w w') := by
 refine startD (c := (bodyOf Tryz.f54)) Tryz.func54 rfl (by kernel_rfl) ?_
 show G _ 26 [] _ (kAt (bodyOf Tryz.f54) [] []) (stz [(0,.slice a xs.length c),(1,.slice a' ys.length (c'))]) w
 have hE1 : Ext w w := Ext.refl w
 refine sgz 13 [] (kAt (bodyOf Tryz.f54) [1,0,1] []) [(0,.slice a xs.length c),(1,.slice a' ys.length (c')),(4,.bool false),(10,.bool (!(decide (((xs.length:Nat):Int) = ((ys.length:Nat):Int)))))] [] trivial ?_
 refine brs (!(decide (((xs.length:Nat):Int) = ((ys.length:Nat):Int)))) (kAt (bodyOf Tryz.f54) [1,0,1,0] []) (kAt (bodyOf Tryz.f54) [1,0,1,1] []) (¬ (((xs.length:Nat):Int) = ((ys.length:Nat):Int))) ((iffNot iffDec)) (fun h0 => ?_) (fun h0 => ?_)
 · refine sgz 4 [] (kAt (bodyOf Tryz.f54) [1,0,1,0,1] []) [(0,.slice a xs.length c),(1,.slice a' ys.length (c')),(4,.bool false)] [] trivial ?_
   exact retD (hs := []) (vs := [.bool false]) (ps := []) (by kernel_rfl) trivial (v := .bool false) rfl (⟨by rw [decide_eq_false (fun e => h0 (by rw [e]))],hE1⟩)
 · have h0 : xs.length = ys.length := by omega
   refine sgz 9 [] (kAt (bodyOf Tryz.f54) [1,1,0,1,0] []) [(0,.slice a xs.length c),(1,.slice a' ys.length (c')),(4,.bool false),(12,iv ((xs.length:Nat):Int)),(13,iv (0 : Int))] [] trivial ?_
   refine loopR (eqNodeL xs ys a a' c c' w) (k' := (kEnd (bodyOf Tryz.f54) [1,1,0,1,0] [])) (body := (cAt (bodyOf Tryz.f54) [1,1,0,1,0,0])) (by kernel_rfl) 0 [0,1,12,13] (by kernel_rfl) (⟨hE1,by omega,fun j h => by omega⟩) ?_
   rintro k w0 ⟨K1,hk,hp⟩
   refine sgz 5 [] (kAt (cAt (bodyOf Tryz.f54) [1,1,0,1,0,0]) [1,0] (.inv (LI 26 [] (eqNodeL xs ys a a' c c' w) k) :: (kEnd (bodyOf Tryz.f54) [1,1,0,1,0] []))) [(0,.slice a xs.length c),(1,.slice a' ys.length (c')),(12,iv ((xs.length:Nat):Int)),(13,iv ((k:Nat):Int)),(14,.bool (decide (((k:Nat):Int) < ((xs.length:Nat):Int))))] [] trivial ?_
   refine brs (decide (((k:Nat):Int) < ((xs.length:Nat):Int))) (kAt (cAt (bodyOf Tryz.f54) [1,1,0,1,0,0]) [1,0,0] (.inv (LI 26 [] (eqNodeL xs ys a a' c c' w) k) :: (kEnd (bodyOf Tryz.f54) [1,1,0,1,0] []))) (kAt (cAt (bodyOf Tryz.f54) [1,1,0,1,0,0]) [1,0,1] (.inv (LI 26 [] (eqNodeL xs ys a a' c c' w) k) :: (kEnd (bodyOf Tryz.f54) [1,1,0,1,0] []))) (((k:Nat):Int) < ((xs.length:Nat):Int)) (iffDec) (fun h1 => ?_) (fun h1 => ?_)
   · have hk2 : k < xs.length := by omega
     have hk3 : k < ys.length := by omega
     have ha := hc.addrE nodeC_len (by decide) hk2
     have hb := hc'.addrE nodeC_len (by decide) hk3
     refine sgz 9 [] (kAt (cAt (bodyOf Tryz.f54) [1,1,0,1,0,0]) [1,1,0,0,1,0] (.inv (LI 26 [] (eqNodeL xs ys a a' c c' w) k) :: (kEnd (bodyOf Tryz.f54) [1,1,0,1,0] []))) [(0,.slice a xs.length c),(1,.slice a' ys.length (c')),(5,iv ((k:Nat):Int)),(12,iv ((xs.length:Nat):Int)),(13,iv ((k:Nat):Int))] [] trivial ?_
     refine dBegin (k' := (kAt (cAt (bodyOf Tryz.f54) [1,1,0,1,0,0]) [1,1,0,0,1,1] (.inv (LI 26 [] (eqNodeL xs ys a a' c c' w) k) :: (kEnd (bodyOf Tryz.f54) [1,1,0,1,0] [])))) (id := 6) (m := 9) (ops := opsAt (cAt (cAt (bodyOf Tryz.f54) [1,1,0,1,0,0]) [1,1,0,0,1,0])) (fun w1 => Ext w1) (by kernel_rfl) (PQ.body _ _ _) (by kernel_rfl) (by kernel_rfl) ?_
     intro w2 hx3
     have hE4 := K1.trans hx3
     refine dtz [0,1,2,3,4,5,6,7,8] [.ld (.agg #[sv ((xs.getD k d0N).name),iv ((xs.getD k d0N).asn)]),.ld (.agg #[sv ((ys.getD k d0N).name),iv ((ys.getD k d0N).asn)])] 0 (lb 9 511) [(0,.slice a xs.length c),(1,.slice a' ys.length (c')),(12,iv ((xs.length:Nat):Int)),(13,iv ((k:Nat):Int)),(24,.bool (!((decide (((xs.getD k d0N).name) = ((ys.getD k d0N).name))) && (decide ((xs.getD k d0N).asn = (ys.getD k d0N).asn)))))] (fun w' => [(0 ≤ ((k:Nat):Int) ∧ ((k:Nat):Int) < ((xs.length:Nat):Int)),(a : Option Addr) = some ⟨(slB a),slO a,none⟩,(w').cell? ⟨(slB a),slO a + k * 2,none⟩ = some (sv ((xs.getD k d0N).name)),(w').cell? ⟨(slB a),slO a + k * 2 + 1,none⟩ = some (iv ((xs.getD k d0N).asn)),(0 ≤ ((k:Nat):Int) ∧ ((k:Nat):Int) < ((ys.length:Nat):Int)),(a' : Option Addr) = some ⟨(slB a'),slO a',none⟩,(w').cell? ⟨(slB a'),slO a' + k * 2,none⟩ = some (sv ((ys.getD k d0N).name)),(w').cell? ⟨(slB a'),slO a' + k * 2 + 1,none⟩ = some (iv ((ys.getD k d0N).asn))]) (fun w' hS => (AC (by omega) (AC (by assumption) (AC (hS.cell (hE4.cell (cellAt nodeC_len d0N hc hk2 (j := 0) rfl))) (AC (hS.cell (hE4.cell (cellAt nodeC_len d0N hc hk2 (j := 1) rfl))) (AC (by omega) (AC (by assumption) (AC (hS.cell (hE4.cell (cellAt nodeC_len d0N hc' hk3 (j := 0) rfl))) (A1 (hS.cell (hE4.cell (cellAt nodeC_len d0N hc' hk3 (j := 1) rfl)))))))))))) (Ext.refl _) ?_
     refine dDone (by kernel_rfl) ?_
     refine brs (!((decide (((xs.getD k d0N).name) = ((ys.getD k d0N).name))) && (decide ((xs.getD k d0N).asn = (ys.getD k d0N).asn)))) (kAt (cAt (bodyOf Tryz.f54) [1,1,0,1,0,0]) [1,1,0,0,1,1,0] (.inv (LI 26 [] (eqNodeL xs ys a a' c c' w) k) :: (kEnd (bodyOf Tryz.f54) [1,1,0,1,0] []))) (kAt (cAt (bodyOf Tryz.f54) [1,1,0,1,0,0]) [1,1,0,0,1,1,1] (.inv (LI 26 [] (eqNodeL xs ys a a' c c' w) k) :: (kEnd (bodyOf Tryz.f54) [1,1,0,1,0] []))) (¬ ((((xs.getD k d0N).name) = ((ys.getD k d0N).name)) ∧ ((xs.getD k d0N).asn = (ys.getD k d0N).asn))) ((iffNot (iffAnd iffDec iffDec))) (fun h2 => ?_) (fun h2 => ?_)
     · have h3 : ¬ (xs.getD k d0N = ys.getD k d0N) := fun e => h2 (by exact nodeEq.1 e)
       refine sgz 4 [] (kAt (cAt (bodyOf Tryz.f54) [1,1,0,1,0,0]) [1,1,0,0,1,1,0,1] (.inv (LI 26 [] (eqNodeL xs ys a a' c c' w) k) :: (kEnd (bodyOf Tryz.f54) [1,1,0,1,0] []))) [(0,.slice a xs.length c),(1,.slice a' ys.length (c')),(4,.bool false),(12,iv ((xs.length:Nat):Int)),(13,iv ((k:Nat):Int))] [] trivial ?_
       exact retD (hs := []) (vs := [.bool false]) (ps := []) (by kernel_rfl) trivial (v := .bool false) rfl (⟨by rw [decide_eq_false (fun e => h3 (by rw [e]))],hE4⟩)
     · have h3 : xs.getD k d0N = ys.getD k d0N := by have h4 := Classical.not_not.1 h2; exact nodeEq.2 h4
       refine sgz 6 [] (.inv (LI 26 [] (eqNodeL xs ys a a' c c' w) k) :: (kEnd (bodyOf Tryz.f54) [1,1,0,1,0] [])) [(0,.slice a xs.length c),(1,.slice a' ys.length (c')),(12,iv ((xs.length:Nat):Int)),(13,iv ((k + 1:Nat):Int))] [I64 ((k + 1:Nat):Int)] (A1 (i64 (by omega))) ?_
       exact again (k + 1) [0,1,12,13] (by kernel_rfl) (⟨hE4,by omega,fun j hj => by by_cases e : j = k; (subst e; exact h3); exact hp j (by omega)⟩) (show xs.length - (k + 1) < xs.length - k by omega)
   · refine sgz 5 [] (kAt (bodyOf Tryz.f54) (ro1 4 []) []) [(4,.bool true)] [] trivial ?_
     exact retD (hs := []) (vs := [.bool true]) (ps := []) (by kernel_rfl) trivial (v := .bool true) rfl (⟨by rw [decide_eq_true (eq_of_getD d0N h0 (fun j hj => hp j (by omega)))],K1⟩)

def eqLinkL (xs ys : List PLink) (a a' : Option Addr) (c c' : Nat) (w : World) : Lp Nat where
  S := fun k => [(0,none,.slice a xs.length c),(1,none,.slice a' ys.length (c')),(12,none,iv ((xs.length:Nat):Int)),(13,none,iv ((k:Nat):Int))]
  J := fun k w' => Ext w w' ∧ k ≤ xs.length ∧ ∀ j,j < k → xs.getD j d0L = ys.getD j d0L
  M := fun k => xs.length - k
set_option maxRecDepth 20000 in
theorem eqLink (xs ys : List PLink) (a a' : Option Addr) (c c' : Nat) (w : World) (hc : Cells w a (xs.flatMap linkC)) (hc' : Cells w a' (ys.flatMap linkC)) (hl : xs.length ≤ 140737488355328) :
    Does Tryz.prog 55 [.slice a xs.length c,.slice a' ys.length (c')] w (fun v w' => v = .bool (decide (xs = ys)) ∧ Ext w w') := by
 refine startD (c := (bodyOf Tryz.f55)) Tryz.func55 rfl (by kernel_rfl) ?_
 show G _ 26 [] _ (kAt (bodyOf Tryz.f55) [] []) (stz [(0,.slice a xs.length c),(1,.slice a' ys.length (c'))]) w
 have hE1 : Ext w w := Ext.refl w
 refine sgz 13 [] (kAt (bodyOf Tryz.f55) [1,0,1] []) [(0,.slice a xs.length c),(1,.slice a' ys.length (c')),(4,.bool false),(10,.bool (!(decide (((xs.length:Nat):Int) = ((ys.length:Nat):Int)))))] [] trivial ?_
 refine brs (!(decide (((xs.length:Nat):Int) = ((ys.length:Nat):Int)))) (kAt (bodyOf Tryz.f55) [1,0,1,0] []) (kAt (bodyOf Tryz.f55) [1,0,1,1] []) (¬ (((xs.length:Nat):Int) = ((ys.length:Nat):Int))) ((iffNot iffDec)) (fun h0 => ?_) (fun h0 => ?_)
 · refine sgz 4 [] (kAt (bodyOf Tryz.f55) [1,0,1,0,1] []) [(0,.slice a xs.length c),(1,.slice a' ys.length (c')),(4,.bool false)] [] trivial ?_
   exact retD (hs := []) (vs := [.bool false]) (ps := []) (by kernel_rfl) trivial (v := .bool false) rfl (⟨by rw [decide_eq_false (fun e => h0 (by rw [e]))],hE1⟩)
 · have h0 : xs.length = ys.length := by omega
   refine sgz 9 [] (kAt (bodyOf Tryz.f55) [1,1,0,1,0] []) [(0,.slice a xs.length c),(1,.slice a' ys.length (c')),(4,.bool false),(12,iv ((xs.length:Nat):Int)),(13,iv (0 : Int))] [] trivial ?_
   refine loopR (eqLinkL xs ys a a' c c' w) (k' := (kEnd (bodyOf Tryz.f55) [1,1,0,1,0] [])) (body := (cAt (bodyOf Tryz.f55) [1,1,0,1,0,0])) (by kernel_rfl) 0 [0,1,12,13] (by kernel_rfl) (⟨hE1,by omega,fun j h => by omega⟩) ?_
   rintro k w0 ⟨K1,hk,hp⟩
   refine sgz 5 [] (kAt (cAt (bodyOf Tryz.f55) [1,1,0,1,0,0]) [1,0] (.inv (LI 26 [] (eqLinkL xs ys a a' c c' w) k) :: (kEnd (bodyOf Tryz.f55) [1,1,0,1,0] []))) [(0,.slice a xs.length c),(1,.slice a' ys.length (c')),(12,iv ((xs.length:Nat):Int)),(13,iv ((k:Nat):Int)),(14,.bool (decide (((k:Nat):Int) < ((xs.length:Nat):Int))))] [] trivial ?_
   refine brs (decide (((k:Nat):Int) < ((xs.length:Nat):Int))) (kAt (cAt (bodyOf Tryz.f55) [1,1,0,1,0,0]) [1,0,0] (.inv (LI 26 [] (eqLinkL xs ys a a' c c' w) k) :: (kEnd (bodyOf Tryz.f55) [1,1,0,1,0] []))) (kAt (cAt (bodyOf Tryz.f55) [1,1,0,1,0,0]) [1,0,1] (.inv (LI 26 [] (eqLinkL xs ys a a' c c' w) k) :: (kEnd (bodyOf Tryz.f55) [1,1,0,1,0] []))) (((k:Nat):Int) < ((xs.length:Nat):Int)) (iffDec) (fun h1 => ?_) (fun h1 => ?_)
   · have hk2 : k < xs.length := by omega
     have hk3 : k < ys.length := by omega
     have ha := hc.addrE linkC_len (by decide) hk2
     have hb := hc'.addrE linkC_len (by decide) hk3
     refine sgz 9 [] (kAt (cAt (bodyOf Tryz.f55) [1,1,0,1,0,0]) [1,1,0,0,1,0] (.inv (LI 26 [] (eqLinkL xs ys a a' c c' w) k) :: (kEnd (bodyOf Tryz.f55) [1,1,0,1,0] []))) [(0,.slice a xs.length c),(1,.slice a' ys.length (c')),(5,iv ((k:Nat):Int)),(12,iv ((xs.length:Nat):Int)),(13,iv ((k:Nat):Int))] [] trivial ?_
     refine dBegin (k' := (kAt (cAt (bodyOf Tryz.f55) [1,1,0,1,0,0]) [1,1,0,0,1,1] (.inv (LI 26 [] (eqLinkL xs ys a a' c c' w) k) :: (kEnd (bodyOf Tryz.f55) [1,1,0,1,0] [])))) (id := 6) (m := 9) (ops := opsAt (cAt (cAt (bodyOf Tryz.f55) [1,1,0,1,0,0]) [1,1,0,0,1,0])) (fun w1 => Ext w1) (by kernel_rfl) (PQ.body _ _ _) (by kernel_rfl) (by kernel_rfl) ?_
     intro w2 hx3
     have hE4 := K1.trans hx3
     refine dtz [0,1,2,3,4,5,6,7,8] [.ld (.agg #[iv ((xs.getD k d0L).a),iv ((xs.getD k d0L).b),iv ((xs.getD k d0L).cost)]),.ld (.agg #[iv ((ys.getD k d0L).a),iv ((ys.getD k d0L).b),iv ((ys.getD k d0L).cost)])] 0 (lb 9 511) [(0,.slice a xs.length c),(1,.slice a' ys.length (c')),(12,iv ((xs.length:Nat):Int)),(13,iv ((k:Nat):Int)),(24,.bool (!((decide ((xs.getD k d0L).a = (ys.getD k d0L).a)) && ((decide ((xs.getD k d0L).b = (ys.getD k d0L).b)) && (decide ((xs.getD k d0L).cost = (ys.getD k d0L).cost))))))] (fun w' => [(0 ≤ ((k:Nat):Int) ∧ ((k:Nat):Int) < ((xs.length:Nat):Int)),(a : Option Addr) = some ⟨(slB a),slO a,none⟩,(w').cell? ⟨(slB a),slO a + k * 3,none⟩ = some (iv ((xs.getD k d0L).a)),(w').cell? ⟨(slB a),slO a + k * 3 + 1,none⟩ = some (iv ((xs.getD k d0L).b)),(w').cell? ⟨(slB a),slO a + k * 3 + 2,none⟩ = some (iv ((xs.getD k d0L).cost)),(0 ≤ ((k:Nat):Int) ∧ ((k:Nat):Int) < ((ys.length:Nat):Int)),(a' : Option Addr) = some ⟨(slB a'),slO a',none⟩,(w').cell? ⟨(slB a'),slO a' + k * 3,none⟩ = some (iv ((ys.getD k d0L).a)),(w').cell? ⟨(slB a'),slO a' + k * 3 + 1,none⟩ = some (iv ((ys.getD k d0L).b)),(w').cell? ⟨(slB a'),slO a' + k * 3 + 2,none⟩ = some (iv ((ys.getD k d0L).cost))]) (fun w' hS => (AC (by omega) (AC (by assumption) (AC (hS.cell (hE4.cell (cellAt linkC_len d0L hc hk2 (j := 0) rfl))) (AC (hS.cell (hE4.cell (cellAt linkC_len d0L hc hk2 (j := 1) rfl))) (AC (hS.cell (hE4.cell (cellAt linkC_len d0L hc hk2 (j := 2) rfl))) (AC (by omega) (AC (by assumption) (AC (hS.cell (hE4.cell (cellAt linkC_len d0L hc' hk3 (j := 0) rfl))) (AC (hS.cell (hE4.cell (cellAt linkC_len d0L hc' hk3 (j := 1) rfl))) (A1 (hS.cell (hE4.cell (cellAt linkC_len d0L hc' hk3 (j := 2) rfl)))))))))))))) (Ext.refl _) ?_
     refine dDone (by kernel_rfl) ?_
     refine brs (!((decide ((xs.getD k d0L).a = (ys.getD k d0L).a)) && ((decide ((xs.getD k d0L).b = (ys.getD k d0L).b)) && (decide ((xs.getD k d0L).cost = (ys.getD k d0L).cost))))) (kAt (cAt (bodyOf Tryz.f55) [1,1,0,1,0,0]) [1,1,0,0,1,1,0] (.inv (LI 26 [] (eqLinkL xs ys a a' c c' w) k) :: (kEnd (bodyOf Tryz.f55) [1,1,0,1,0] []))) (kAt (cAt (bodyOf Tryz.f55) [1,1,0,1,0,0]) [1,1,0,0,1,1,1] (.inv (LI 26 [] (eqLinkL xs ys a a' c c' w) k) :: (kEnd (bodyOf Tryz.f55) [1,1,0,1,0] []))) (¬ (((xs.getD k d0L).a = (ys.getD k d0L).a) ∧ (((xs.getD k d0L).b = (ys.getD k d0L).b) ∧ ((xs.getD k d0L).cost = (ys.getD k d0L).cost)))) ((iffNot (iffAnd iffDec (iffAnd iffDec iffDec)))) (fun h2 => ?_) (fun h2 => ?_)
     · have h3 : ¬ (xs.getD k d0L = ys.getD k d0L) := fun e => h2 (by exact linkEq.1 e)
       refine sgz 4 [] (kAt (cAt (bodyOf Tryz.f55) [1,1,0,1,0,0]) [1,1,0,0,1,1,0,1] (.inv (LI 26 [] (eqLinkL xs ys a a' c c' w) k) :: (kEnd (bodyOf Tryz.f55) [1,1,0,1,0] []))) [(0,.slice a xs.length c),(1,.slice a' ys.length (c')),(4,.bool false),(12,iv ((xs.length:Nat):Int)),(13,iv ((k:Nat):Int))] [] trivial ?_
       exact retD (hs := []) (vs := [.bool false]) (ps := []) (by kernel_rfl) trivial (v := .bool false) rfl (⟨by rw [decide_eq_false (fun e => h3 (by rw [e]))],hE4⟩)
     · have h3 : xs.getD k d0L = ys.getD k d0L := by have h4 := Classical.not_not.1 h2; exact linkEq.2 h4
       refine sgz 6 [] (.inv (LI 26 [] (eqLinkL xs ys a a' c c' w) k) :: (kEnd (bodyOf Tryz.f55) [1,1,0,1,0] [])) [(0,.slice a xs.length c),(1,.slice a' ys.length (c')),(12,iv ((xs.length:Nat):Int)),(13,iv ((k + 1:Nat):Int))] [I64 ((k + 1:Nat):Int)] (A1 (i64 (by omega))) ?_
       exact again (k + 1) [0,1,12,13] (by kernel_rfl) (⟨hE4,by omega,fun j hj => by by_cases e : j = k; (subst e; exact h3); exact hp j (by omega)⟩) (show xs.length - (k + 1) < xs.length - k by omega)
   · refine sgz 5 [] (kAt (bodyOf Tryz.f55) (ro1 4 []) []) [(4,.bool true)] [] trivial ?_
     exact retD (hs := []) (vs := [.bool true]) (ps := []) (by kernel_rfl) trivial (v := .bool true) rfl (⟨by rw [decide_eq_true (eq_of_getD d0L h0 (fun j hj => hp j (by omega)))],K1⟩)

def eqCheckL (xs ys : List PCheck) (a a' : Option Addr) (c c' : Nat) (w : World) : Lp Nat where
  S := fun k => [(0,none,.slice a xs.length c),(1,none,.slice a' ys.length (c')),(12,none,iv ((xs.length:Nat):Int)),(13,none,iv ((k:Nat):Int))]
  J := fun k w' => Ext w w' ∧ k ≤ xs.length ∧ ∀ j,j < k → xs.getD j d0C = ys.getD j d0C
  M := fun k => xs.length - k
set_option maxRecDepth 20000 in
theorem eqCheck (xs ys : List PCheck) (a a' : Option Addr) (c c' : Nat) (w : World) (hc : Cells w a (xs.flatMap checkC)) (hc' : Cells w a' (ys.flatMap checkC)) (hl : xs.length ≤ 140737488355328) :
    Does Tryz.prog 57 [.slice a xs.length c,.slice a' ys.length (c')] w (fun v w' => v = .bool (decide (xs = ys)) ∧ Ext w w') := by
 refine startD (c := (bodyOf Tryz.f57)) Tryz.func57 rfl (by kernel_rfl) ?_
 show G _ 26 [] _ (kAt (bodyOf Tryz.f57) [] []) (stz [(0,.slice a xs.length c),(1,.slice a' ys.length (c'))]) w
 have hE1 : Ext w w := Ext.refl w
 refine sgz 13 [] (kAt (bodyOf Tryz.f57) [1,0,1] []) [(0,.slice a xs.length c),(1,.slice a' ys.length (c')),(4,.bool false),(10,.bool (!(decide (((xs.length:Nat):Int) = ((ys.length:Nat):Int)))))] [] trivial ?_
 refine brs (!(decide (((xs.length:Nat):Int) = ((ys.length:Nat):Int)))) (kAt (bodyOf Tryz.f57) [1,0,1,0] []) (kAt (bodyOf Tryz.f57) [1,0,1,1] []) (¬ (((xs.length:Nat):Int) = ((ys.length:Nat):Int))) ((iffNot iffDec)) (fun h0 => ?_) (fun h0 => ?_)
 · refine sgz 4 [] (kAt (bodyOf Tryz.f57) [1,0,1,0,1] []) [(0,.slice a xs.length c),(1,.slice a' ys.length (c')),(4,.bool false)] [] trivial ?_
   exact retD (hs := []) (vs := [.bool false]) (ps := []) (by kernel_rfl) trivial (v := .bool false) rfl (⟨by rw [decide_eq_false (fun e => h0 (by rw [e]))],hE1⟩)
 · have h0 : xs.length = ys.length := by omega
   refine sgz 9 [] (kAt (bodyOf Tryz.f57) [1,1,0,1,0] []) [(0,.slice a xs.length c),(1,.slice a' ys.length (c')),(4,.bool false),(12,iv ((xs.length:Nat):Int)),(13,iv (0 : Int))] [] trivial ?_
   refine loopR (eqCheckL xs ys a a' c c' w) (k' := (kEnd (bodyOf Tryz.f57) [1,1,0,1,0] [])) (body := (cAt (bodyOf Tryz.f57) [1,1,0,1,0,0])) (by kernel_rfl) 0 [0,1,12,13] (by kernel_rfl) (⟨hE1,by omega,fun j h => by omega⟩) ?_
   rintro k w0 ⟨K1,hk,hp⟩
   refine sgz 5 [] (kAt (cAt (bodyOf Tryz.f57) [1,1,0,1,0,0]) [1,0] (.inv (LI 26 [] (eqCheckL xs ys a a' c c' w) k) :: (kEnd (bodyOf Tryz.f57) [1,1,0,1,0] []))) [(0,.slice a xs.length c),(1,.slice a' ys.length (c')),(12,iv ((xs.length:Nat):Int)),(13,iv ((k:Nat):Int)),(14,.bool (decide (((k:Nat):Int) < ((xs.length:Nat):Int))))] [] trivial ?_
   refine brs (decide (((k:Nat):Int) < ((xs.length:Nat):Int))) (kAt (cAt (bodyOf Tryz.f57) [1,1,0,1,0,0]) [1,0,0] (.inv (LI 26 [] (eqCheckL xs ys a a' c c' w) k) :: (kEnd (bodyOf Tryz.f57) [1,1,0,1,0] []))) (kAt (cAt (bodyOf Tryz.f57) [1,1,0,1,0,0]) [1,0,1] (.inv (LI 26 [] (eqCheckL xs ys a a' c c' w) k) :: (kEnd (bodyOf Tryz.f57) [1,1,0,1,0] []))) (((k:Nat):Int) < ((xs.length:Nat):Int)) (iffDec) (fun h1 => ?_) (fun h1 => ?_)
   · have hk2 : k < xs.length := by omega
     have hk3 : k < ys.length := by omega
     have ha := hc.addrE checkC_len (by decide) hk2
     have hb := hc'.addrE checkC_len (by decide) hk3
     refine sgz 9 [] (kAt (cAt (bodyOf Tryz.f57) [1,1,0,1,0,0]) [1,1,0,0,1,0] (.inv (LI 26 [] (eqCheckL xs ys a a' c c' w) k) :: (kEnd (bodyOf Tryz.f57) [1,1,0,1,0] []))) [(0,.slice a xs.length c),(1,.slice a' ys.length (c')),(5,iv ((k:Nat):Int)),(12,iv ((xs.length:Nat):Int)),(13,iv ((k:Nat):Int))] [] trivial ?_
     refine dBegin (k' := (kAt (cAt (bodyOf Tryz.f57) [1,1,0,1,0,0]) [1,1,0,0,1,1] (.inv (LI 26 [] (eqCheckL xs ys a a' c c' w) k) :: (kEnd (bodyOf Tryz.f57) [1,1,0,1,0] [])))) (id := 6) (m := 9) (ops := opsAt (cAt (cAt (bodyOf Tryz.f57) [1,1,0,1,0,0]) [1,1,0,0,1,0])) (fun w1 => Ext w1) (by kernel_rfl) (PQ.body _ _ _) (by kernel_rfl) (by kernel_rfl) ?_
     intro w2 hx3
     have hE4 := K1.trans hx3
     refine dtz [0,1,2,3,4,5,6,7,8] [.ld (.agg #[iv ((xs.getD k d0C).kind),iv ((xs.getD k d0C).node),iv ((xs.getD k d0C).dest),iv ((xs.getD k d0C).limit),iv ((xs.getD k d0C).other)]),.ld (.agg #[iv ((ys.getD k d0C).kind),iv ((ys.getD k d0C).node),iv ((ys.getD k d0C).dest),iv ((ys.getD k d0C).limit),iv ((ys.getD k d0C).other)])] 0 (lb 9 511) [(0,.slice a xs.length c),(1,.slice a' ys.length (c')),(12,iv ((xs.length:Nat):Int)),(13,iv ((k:Nat):Int)),(24,.bool (!((decide ((xs.getD k d0C).kind = (ys.getD k d0C).kind)) && ((decide ((xs.getD k d0C).node = (ys.getD k d0C).node)) && ((decide ((xs.getD k d0C).dest = (ys.getD k d0C).dest)) && ((decide ((xs.getD k d0C).limit = (ys.getD k d0C).limit)) && (decide ((xs.getD k d0C).other = (ys.getD k d0C).other))))))))] (fun w' => [(0 ≤ ((k:Nat):Int) ∧ ((k:Nat):Int) < ((xs.length:Nat):Int)),(a : Option Addr) = some ⟨(slB a),slO a,none⟩,(w').cell? ⟨(slB a),slO a + k * 5,none⟩ = some (iv ((xs.getD k d0C).kind)),(w').cell? ⟨(slB a),slO a + k * 5 + 1,none⟩ = some (iv ((xs.getD k d0C).node)),(w').cell? ⟨(slB a),slO a + k * 5 + 2,none⟩ = some (iv ((xs.getD k d0C).dest)),(w').cell? ⟨(slB a),slO a + k * 5 + 3,none⟩ = some (iv ((xs.getD k d0C).limit)),(w').cell? ⟨(slB a),slO a + k * 5 + 4,none⟩ = some (iv ((xs.getD k d0C).other)),(0 ≤ ((k:Nat):Int) ∧ ((k:Nat):Int) < ((ys.length:Nat):Int)),(a' : Option Addr) = some ⟨(slB a'),slO a',none⟩,(w').cell? ⟨(slB a'),slO a' + k * 5,none⟩ = some (iv ((ys.getD k d0C).kind)),(w').cell? ⟨(slB a'),slO a' + k * 5 + 1,none⟩ = some (iv ((ys.getD k d0C).node)),(w').cell? ⟨(slB a'),slO a' + k * 5 + 2,none⟩ = some (iv ((ys.getD k d0C).dest)),(w').cell? ⟨(slB a'),slO a' + k * 5 + 3,none⟩ = some (iv ((ys.getD k d0C).limit)),(w').cell? ⟨(slB a'),slO a' + k * 5 + 4,none⟩ = some (iv ((ys.getD k d0C).other))]) (fun w' hS => (AC (by omega) (AC (by assumption) (AC (hS.cell (hE4.cell (cellAt checkC_len d0C hc hk2 (j := 0) rfl))) (AC (hS.cell (hE4.cell (cellAt checkC_len d0C hc hk2 (j := 1) rfl))) (AC (hS.cell (hE4.cell (cellAt checkC_len d0C hc hk2 (j := 2) rfl))) (AC (hS.cell (hE4.cell (cellAt checkC_len d0C hc hk2 (j := 3) rfl))) (AC (hS.cell (hE4.cell (cellAt checkC_len d0C hc hk2 (j := 4) rfl))) (AC (by omega) (AC (by assumption) (AC (hS.cell (hE4.cell (cellAt checkC_len d0C hc' hk3 (j := 0) rfl))) (AC (hS.cell (hE4.cell (cellAt checkC_len d0C hc' hk3 (j := 1) rfl))) (AC (hS.cell (hE4.cell (cellAt checkC_len d0C hc' hk3 (j := 2) rfl))) (AC (hS.cell (hE4.cell (cellAt checkC_len d0C hc' hk3 (j := 3) rfl))) (A1 (hS.cell (hE4.cell (cellAt checkC_len d0C hc' hk3 (j := 4) rfl)))))))))))))))))) (Ext.refl _) ?_
     refine dDone (by kernel_rfl) ?_
     refine brs (!((decide ((xs.getD k d0C).kind = (ys.getD k d0C).kind)) && ((decide ((xs.getD k d0C).node = (ys.getD k d0C).node)) && ((decide ((xs.getD k d0C).dest = (ys.getD k d0C).dest)) && ((decide ((xs.getD k d0C).limit = (ys.getD k d0C).limit)) && (decide ((xs.getD k d0C).other = (ys.getD k d0C).other))))))) (kAt (cAt (bodyOf Tryz.f57) [1,1,0,1,0,0]) [1,1,0,0,1,1,0] (.inv (LI 26 [] (eqCheckL xs ys a a' c c' w) k) :: (kEnd (bodyOf Tryz.f57) [1,1,0,1,0] []))) (kAt (cAt (bodyOf Tryz.f57) [1,1,0,1,0,0]) [1,1,0,0,1,1,1] (.inv (LI 26 [] (eqCheckL xs ys a a' c c' w) k) :: (kEnd (bodyOf Tryz.f57) [1,1,0,1,0] []))) (¬ (((xs.getD k d0C).kind = (ys.getD k d0C).kind) ∧ (((xs.getD k d0C).node = (ys.getD k d0C).node) ∧ (((xs.getD k d0C).dest = (ys.getD k d0C).dest) ∧ (((xs.getD k d0C).limit = (ys.getD k d0C).limit) ∧ ((xs.getD k d0C).other = (ys.getD k d0C).other)))))) ((iffNot (iffAnd iffDec (iffAnd iffDec (iffAnd iffDec (iffAnd iffDec iffDec)))))) (fun h2 => ?_) (fun h2 => ?_)
     · have h3 : ¬ (xs.getD k d0C = ys.getD k d0C) := fun e => h2 (by exact checkEq.1 e)
       refine sgz 4 [] (kAt (cAt (bodyOf Tryz.f57) [1,1,0,1,0,0]) [1,1,0,0,1,1,0,1] (.inv (LI 26 [] (eqCheckL xs ys a a' c c' w) k) :: (kEnd (bodyOf Tryz.f57) [1,1,0,1,0] []))) [(0,.slice a xs.length c),(1,.slice a' ys.length (c')),(4,.bool false),(12,iv ((xs.length:Nat):Int)),(13,iv ((k:Nat):Int))] [] trivial ?_
       exact retD (hs := []) (vs := [.bool false]) (ps := []) (by kernel_rfl) trivial (v := .bool false) rfl (⟨by rw [decide_eq_false (fun e => h3 (by rw [e]))],hE4⟩)
     · have h3 : xs.getD k d0C = ys.getD k d0C := by have h4 := Classical.not_not.1 h2; exact checkEq.2 h4
       refine sgz 6 [] (.inv (LI 26 [] (eqCheckL xs ys a a' c c' w) k) :: (kEnd (bodyOf Tryz.f57) [1,1,0,1,0] [])) [(0,.slice a xs.length c),(1,.slice a' ys.length (c')),(12,iv ((xs.length:Nat):Int)),(13,iv ((k + 1:Nat):Int))] [I64 ((k + 1:Nat):Int)] (A1 (i64 (by omega))) ?_
       exact again (k + 1) [0,1,12,13] (by kernel_rfl) (⟨hE4,by omega,fun j hj => by by_cases e : j = k; (subst e; exact h3); exact hp j (by omega)⟩) (show xs.length - (k + 1) < xs.length - k by omega)
   · refine sgz 5 [] (kAt (bodyOf Tryz.f57) (ro1 4 []) []) [(4,.bool true)] [] trivial ?_
     exact retD (hs := []) (vs := [.bool true]) (ps := []) (by kernel_rfl) trivial (v := .bool true) rfl (⟨by rw [decide_eq_true (eq_of_getD d0C h0 (fun j hj => hp j (by omega)))],K1⟩)

def eqIntL (xs ys : List Int) (a a' : Option Addr) (c c' : Nat) (w : World) : Lp Nat where
  S := fun k => [(0,none,.slice a xs.length c),(1,none,.slice a' ys.length (c')),(12,none,iv ((xs.length:Nat):Int)),(13,none,iv ((k:Nat):Int))]
  J := fun k w' => Ext w w' ∧ k ≤ xs.length ∧ ∀ j,j < k → xs.getD j 0 = ys.getD j 0
  M := fun k => xs.length - k
set_option maxRecDepth 20000 in
theorem eqInt (xs ys : List Int) (a a' : Option Addr) (c c' : Nat) (w : World) (hc : Cells w a (xs.flatMap intCells)) (hc' : Cells w a' (ys.flatMap intCells)) (hl : xs.length ≤ 140737488355328) :
    Does Tryz.prog 53 [.slice a xs.length c,.slice a' ys.length (c')] w (fun v w' => v = .bool (decide (xs = ys)) ∧ Ext w w') := by
 refine startD (c := (bodyOf Tryz.f53)) Tryz.func53 rfl (by kernel_rfl) ?_
 show G _ 26 [] _ (kAt (bodyOf Tryz.f53) [] []) (stz [(0,.slice a xs.length c),(1,.slice a' ys.length (c'))]) w
 have hE1 : Ext w w := Ext.refl w
 refine sgz 13 [] (kAt (bodyOf Tryz.f53) [1,0,1] []) [(0,.slice a xs.length c),(1,.slice a' ys.length (c')),(4,.bool false),(10,.bool (!(decide (((xs.length:Nat):Int) = ((ys.length:Nat):Int)))))] [] trivial ?_
 refine brs (!(decide (((xs.length:Nat):Int) = ((ys.length:Nat):Int)))) (kAt (bodyOf Tryz.f53) [1,0,1,0] []) (kAt (bodyOf Tryz.f53) [1,0,1,1] []) (¬ (((xs.length:Nat):Int) = ((ys.length:Nat):Int))) ((iffNot iffDec)) (fun h0 => ?_) (fun h0 => ?_)
 · refine sgz 4 [] (kAt (bodyOf Tryz.f53) [1,0,1,0,1] []) [(0,.slice a xs.length c),(1,.slice a' ys.length (c')),(4,.bool false)] [] trivial ?_
   exact retD (hs := []) (vs := [.bool false]) (ps := []) (by kernel_rfl) trivial (v := .bool false) rfl (⟨by rw [decide_eq_false (fun e => h0 (by rw [e]))],hE1⟩)
 · have h0 : xs.length = ys.length := by omega
   refine sgz 9 [] (kAt (bodyOf Tryz.f53) [1,1,0,1,0] []) [(0,.slice a xs.length c),(1,.slice a' ys.length (c')),(4,.bool false),(12,iv ((xs.length:Nat):Int)),(13,iv (0 : Int))] [] trivial ?_
   refine loopR (eqIntL xs ys a a' c c' w) (k' := (kEnd (bodyOf Tryz.f53) [1,1,0,1,0] [])) (body := (cAt (bodyOf Tryz.f53) [1,1,0,1,0,0])) (by kernel_rfl) 0 [0,1,12,13] (by kernel_rfl) (⟨hE1,by omega,fun j h => by omega⟩) ?_
   rintro k w0 ⟨K1,hk,hp⟩
   refine sgz 5 [] (kAt (cAt (bodyOf Tryz.f53) [1,1,0,1,0,0]) [1,0] (.inv (LI 26 [] (eqIntL xs ys a a' c c' w) k) :: (kEnd (bodyOf Tryz.f53) [1,1,0,1,0] []))) [(0,.slice a xs.length c),(1,.slice a' ys.length (c')),(12,iv ((xs.length:Nat):Int)),(13,iv ((k:Nat):Int)),(14,.bool (decide (((k:Nat):Int) < ((xs.length:Nat):Int))))] [] trivial ?_
   refine brs (decide (((k:Nat):Int) < ((xs.length:Nat):Int))) (kAt (cAt (bodyOf Tryz.f53) [1,1,0,1,0,0]) [1,0,0] (.inv (LI 26 [] (eqIntL xs ys a a' c c' w) k) :: (kEnd (bodyOf Tryz.f53) [1,1,0,1,0] []))) (kAt (cAt (bodyOf Tryz.f53) [1,1,0,1,0,0]) [1,0,1] (.inv (LI 26 [] (eqIntL xs ys a a' c c' w) k) :: (kEnd (bodyOf Tryz.f53) [1,1,0,1,0] []))) (((k:Nat):Int) < ((xs.length:Nat):Int)) (iffDec) (fun h1 => ?_) (fun h1 => ?_)
   · have hk2 : k < xs.length := by omega
     have hk3 : k < ys.length := by omega
     have ha := hc.addrE intCells_len (by decide) hk2
     have hb := hc'.addrE intCells_len (by decide) hk3
     refine sgz 9 [] (kAt (cAt (bodyOf Tryz.f53) [1,1,0,1,0,0]) [1,1,0,0,1,0] (.inv (LI 26 [] (eqIntL xs ys a a' c c' w) k) :: (kEnd (bodyOf Tryz.f53) [1,1,0,1,0] []))) [(0,.slice a xs.length c),(1,.slice a' ys.length (c')),(5,iv ((k:Nat):Int)),(12,iv ((xs.length:Nat):Int)),(13,iv ((k:Nat):Int))] [] trivial ?_
     refine dBegin (k' := (kAt (cAt (bodyOf Tryz.f53) [1,1,0,1,0,0]) [1,1,0,0,1,1] (.inv (LI 26 [] (eqIntL xs ys a a' c c' w) k) :: (kEnd (bodyOf Tryz.f53) [1,1,0,1,0] [])))) (id := 6) (m := 9) (ops := opsAt (cAt (cAt (bodyOf Tryz.f53) [1,1,0,1,0,0]) [1,1,0,0,1,0])) (fun w1 => Ext w1) (by kernel_rfl) (PQ.body _ _ _) (by kernel_rfl) (by kernel_rfl) ?_
     intro w2 hx3
     have hE4 := K1.trans hx3
     refine dtz [0,1,2,3,4,5,6,7,8] [.ld (iv (xs.getD k 0)),.ld (iv (ys.getD k 0))] 0 (lb 9 511) [(0,.slice a xs.length c),(1,.slice a' ys.length (c')),(12,iv ((xs.length:Nat):Int)),(13,iv ((k:Nat):Int)),(24,.bool (!(decide ((xs.getD k 0) = (ys.getD k 0)))))] (fun w' => [(0 ≤ ((k:Nat):Int) ∧ ((k:Nat):Int) < ((xs.length:Nat):Int)),(a : Option Addr) = some ⟨(slB a),slO a,none⟩,(w').cell? ⟨(slB a),slO a + k * 1,none⟩ = some (iv (xs.getD k 0)),(0 ≤ ((k:Nat):Int) ∧ ((k:Nat):Int) < ((ys.length:Nat):Int)),(a' : Option Addr) = some ⟨(slB a'),slO a',none⟩,(w').cell? ⟨(slB a'),slO a' + k * 1,none⟩ = some (iv (ys.getD k 0))]) (fun w' hS => (AC (by omega) (AC (by assumption) (AC (hS.cell (hE4.cell (cellAt intCells_len 0 hc hk2 (j := 0) rfl))) (AC (by omega) (AC (by assumption) (A1 (hS.cell (hE4.cell (cellAt intCells_len 0 hc' hk3 (j := 0) rfl)))))))))) (Ext.refl _) ?_
     refine dDone (by kernel_rfl) ?_
     refine brs (!(decide ((xs.getD k 0) = (ys.getD k 0)))) (kAt (cAt (bodyOf Tryz.f53) [1,1,0,1,0,0]) [1,1,0,0,1,1,0] (.inv (LI 26 [] (eqIntL xs ys a a' c c' w) k) :: (kEnd (bodyOf Tryz.f53) [1,1,0,1,0] []))) (kAt (cAt (bodyOf Tryz.f53) [1,1,0,1,0,0]) [1,1,0,0,1,1,1] (.inv (LI 26 [] (eqIntL xs ys a a' c c' w) k) :: (kEnd (bodyOf Tryz.f53) [1,1,0,1,0] []))) (¬ ((xs.getD k 0) = (ys.getD k 0))) ((iffNot iffDec)) (fun h2 => ?_) (fun h2 => ?_)
     · have h3 : ¬ (xs.getD k 0 = ys.getD k 0) := fun e => h2 (by exact e)
       refine sgz 4 [] (kAt (cAt (bodyOf Tryz.f53) [1,1,0,1,0,0]) [1,1,0,0,1,1,0,1] (.inv (LI 26 [] (eqIntL xs ys a a' c c' w) k) :: (kEnd (bodyOf Tryz.f53) [1,1,0,1,0] []))) [(0,.slice a xs.length c),(1,.slice a' ys.length (c')),(4,.bool false),(12,iv ((xs.length:Nat):Int)),(13,iv ((k:Nat):Int))] [] trivial ?_
       exact retD (hs := []) (vs := [.bool false]) (ps := []) (by kernel_rfl) trivial (v := .bool false) rfl (⟨by rw [decide_eq_false (fun e => h3 (by rw [e]))],hE4⟩)
     · have h3 : xs.getD k 0 = ys.getD k 0 := by have h4 := Classical.not_not.1 h2; exact h4
       refine sgz 6 [] (.inv (LI 26 [] (eqIntL xs ys a a' c c' w) k) :: (kEnd (bodyOf Tryz.f53) [1,1,0,1,0] [])) [(0,.slice a xs.length c),(1,.slice a' ys.length (c')),(12,iv ((xs.length:Nat):Int)),(13,iv ((k + 1:Nat):Int))] [I64 ((k + 1:Nat):Int)] (A1 (i64 (by omega))) ?_
       exact again (k + 1) [0,1,12,13] (by kernel_rfl) (⟨hE4,by omega,fun j hj => by by_cases e : j = k; (subst e; exact h3); exact hp j (by omega)⟩) (show xs.length - (k + 1) < xs.length - k by omega)
   · refine sgz 5 [] (kAt (bodyOf Tryz.f53) (ro1 4 []) []) [(4,.bool true)] [] trivial ?_
     exact retD (hs := []) (vs := [.bool true]) (ps := []) (by kernel_rfl) trivial (v := .bool true) rfl (⟨by rw [decide_eq_true (eq_of_getD 0 h0 (fun j hj => hp j (by omega)))],K1⟩)

end Go.Proofs.YtjhgghpeapmgdaaGreatDoor
