/-
  PLAN: contracts of the short loops of package slices.
-/
import Derived.Test.YtedojnihfnkmmaaDoorPlanB
import Derived.Test.YtedojnihfnkmmaaDoorPlanRight
namespace Go.Proofs.YtedojnihfnkmmaaDoor
open Go.Bk Go.Proofs

theorem E29 : Proofs.Enters Tryd.prog 29 := Proofs.enters_of Tryd.func29 (by kernel_rfl) rfl

theorem E31 : Proofs.Enters Tryd.prog 31 := Proofs.enters_of Tryd.func31 (by kernel_rfl) rfl

theorem E56 : Proofs.Enters Tryd.prog 56 := Proofs.enters_of Tryd.func56 (by kernel_rfl) rfl

theorem E62 : Proofs.Enters Tryd.prog 62 := Proofs.enters_of Tryd.func62 (by kernel_rfl) rfl

theorem E49 : Proofs.Enters Tryd.prog 49 := Proofs.enters_of Tryd.func49 (by kernel_rfl) rfl

theorem E42 : Proofs.Enters Tryd.prog 42 := Proofs.enters_of Tryd.func42 (by kernel_rfl) rfl

theorem E43 : Proofs.Enters Tryd.prog 43 := Proofs.enters_of Tryd.func43 (by kernel_rfl) rfl

theorem E52 : Proofs.Enters Tryd.prog 52 := Proofs.enters_of Tryd.func52 (by kernel_rfl) rfl

theorem E25 : Proofs.Enters Tryd.prog 25 := Proofs.enters_of Tryd.func25 (by kernel_rfl) rfl

theorem E26 : Proofs.Enters Tryd.prog 26 := Proofs.enters_of Tryd.func26 (by kernel_rfl) rfl

theorem E28 : Proofs.Enters Tryd.prog 28 := Proofs.enters_of Tryd.func28 (by kernel_rfl) rfl

theorem E24 : Proofs.Enters Tryd.prog 24 := Proofs.enters_of Tryd.func24 (by kernel_rfl) rfl

def idxNode0L (xs : List PNode) (a : Option Addr) (c : Nat) (F : FuncId) (pr : PNode → Bool) (w : World) : Lp Nat where
  S := fun k => [(0, none, .slice a xs.length c), (1, none, .func (.func F) #[] #[]), (7, none, .int .i64 ((xs.length : Nat) : Int)), (8, none, .int .i64 ((k : Nat) : Int))]
  J := fun k w' => Ext w w' ∧ k ≤ xs.length ∧ ∀ j, j < k → pr (xs.getD j d0N) = false
  M := fun k => xs.length - k
set_option maxRecDepth 20000 in
theorem idxNode0 (xs : List PNode) (a : Option Addr) (c : Nat) (F : FuncId) (pr : PNode → Bool) (w : World) (hE : Enters Tryd.prog F) (hF : ∀ k, k < xs.length → ∀ w', Ext w w' → Does Tryd.prog F [.agg #[.string (bs ((xs.getD k d0N).name)), .int .i64 ((xs.getD k d0N).asn)]] w' fun v w2 => v = .bool (pr (xs.getD k d0N)) ∧ Ext w' w2) (hc : Cells w a (xs.flatMap nodeC)) (hl : xs.length ≤ 140737488355328) :
    Does Tryd.prog 29 [.slice a xs.length c, .func (.func F) #[] #[]] w (fun v w' => v = .int .i64 (idxI pr xs) ∧ Ext w w') := by
 refine startD (c := (bodyOf Tryd.f29)) Tryd.func29 rfl (by kernel_rfl) ?_
 show G _ 19 [] _ (kAt (bodyOf Tryd.f29) [] []) [(0, none, .slice a xs.length c), (1, none, .func (.func F) #[] #[])] w
 have hE1 : Ext w w := Ext.refl w
 refine sgs 12 [] [0, 1, 4, 7, 8] (kAt (bodyOf Tryd.f29) [1, 0, 1, 0] []) [(0, none, .slice a xs.length c), (1, none, .func (.func F) #[] #[]), (4, none, .int .i64 (0 : Int)), (7, none, .int .i64 ((xs.length : Nat) : Int)), (8, none, .int .i64 (0 : Int))] [] trivial ?_
 refine loopR (idxNode0L xs a c F pr w) (k' := (kEnd (bodyOf Tryd.f29) [1, 0, 1, 0] [])) (body := (cAt (bodyOf Tryd.f29) [1, 0, 1, 0, 0])) (by kernel_rfl) 0 [0, 1, 7, 8] (by kernel_rfl) (⟨hE1, by omega, fun j h => by omega⟩) ?_
 rintro k w0 ⟨K1, hk, hp⟩
 refine sgs 5 [] [0, 1, 7, 8, 9] (kAt (cAt (bodyOf Tryd.f29) [1, 0, 1, 0, 0]) [1, 0] (.inv (LI 19 [] (idxNode0L xs a c F pr w) k) :: (kEnd (bodyOf Tryd.f29) [1, 0, 1, 0] []))) [(0, none, .slice a xs.length c), (1, none, .func (.func F) #[] #[]), (7, none, .int .i64 ((xs.length : Nat) : Int)), (8, none, .int .i64 ((k : Nat) : Int)), (9, none, .bool (decide (((k : Nat) : Int) < ((xs.length : Nat) : Int))))] [] trivial ?_
 refine brs (decide (((k : Nat) : Int) < ((xs.length : Nat) : Int))) (kAt (cAt (bodyOf Tryd.f29) [1, 0, 1, 0, 0]) [1, 0, 0] (.inv (LI 19 [] (idxNode0L xs a c F pr w) k) :: (kEnd (bodyOf Tryd.f29) [1, 0, 1, 0] []))) (kAt (cAt (bodyOf Tryd.f29) [1, 0, 1, 0, 0]) [1, 0, 1] (.inv (LI 19 [] (idxNode0L xs a c F pr w) k) :: (kEnd (bodyOf Tryd.f29) [1, 0, 1, 0] []))) (((k : Nat) : Int) < ((xs.length : Nat) : Int)) (iffDec) (fun h1 => ?_) (fun h1 => ?_)
 · have hk2 : k < xs.length := by omega
   have ha := hc.addrE nodeC_len (by decide) hk2
   refine sgs 15 [.ld (.agg #[.string (bs ((xs.getD k d0N).name)), .int .i64 ((xs.getD k d0N).asn)])] [0, 1, 5, 7, 8, 11, 15] (kOp (cAt (bodyOf Tryd.f29) [1, 0, 1, 0, 0]) [1, 1, 0, 0, 1, 0] 5 (.inv (LI 19 [] (idxNode0L xs a c F pr w) k) :: (kEnd (bodyOf Tryd.f29) [1, 0, 1, 0] []))) [(0, none, .slice a xs.length c), (1, none, .func (.func F) #[] #[]), (5, none, .int .i64 ((k : Nat) : Int)), (7, none, .int .i64 ((xs.length : Nat) : Int)), (8, none, .int .i64 ((k : Nat) : Int)), (11, none, .func (.func F) #[] #[]), (15, none, .agg #[.string (bs ((xs.getD k d0N).name)), .int .i64 ((xs.getD k d0N).asn)])] [(0 ≤ ((k : Nat) : Int) ∧ ((k : Nat) : Int) < ((xs.length : Nat) : Int)), (a : Option Addr) = some ⟨(slB a), slO a, none⟩, w0.cell? ⟨(slB a), slO a + k * 2, none⟩ = some (.string (bs ((xs.getD k d0N).name))), w0.cell? ⟨(slB a), slO a + k * 2 + 1, none⟩ = some (.int .i64 ((xs.getD k d0N).asn))] ⟨(by omega), (by assumption), (K1.cell (cellAt nodeC_len d0N hc hk2 (j := 0) rfl)), (show w0.cell? ⟨(slB a), slO a + k * 2 + 1, none⟩ = some (.int .i64 ((xs.getD k d0N).asn)) from K1.cell (cellAt nodeC_len d0N hc hk2 (j := 1) rfl))⟩ ?_
   refine oss [] (.call F [.agg #[.string (bs ((xs.getD k d0N).name)), .int .i64 ((xs.getD k d0N).asn)]]) (some 16) (kOp (cAt (bodyOf Tryd.f29) [1, 0, 1, 0, 0]) [1, 1, 0, 0, 1, 0] 6 (.inv (LI 19 [] (idxNode0L xs a c F pr w) k) :: (kEnd (bodyOf Tryd.f29) [1, 0, 1, 0] []))) [] trivial (runs_call hE (hF k hk2 w0 K1)) ?_
   rintro _ w1 ⟨rfl, hx⟩
   have hE2 := K1.trans hx
   refine sgs 1 [] [0, 1, 5, 7, 8, 16] (kAt (cAt (bodyOf Tryd.f29) [1, 0, 1, 0, 0]) [1, 1, 0, 0, 1, 1] (.inv (LI 19 [] (idxNode0L xs a c F pr w) k) :: (kEnd (bodyOf Tryd.f29) [1, 0, 1, 0] []))) [(0, none, .slice a xs.length c), (1, none, .func (.func F) #[] #[]), (5, none, .int .i64 ((k : Nat) : Int)), (7, none, .int .i64 ((xs.length : Nat) : Int)), (8, none, .int .i64 ((k : Nat) : Int)), (16, none, .bool (pr (xs.getD k d0N)))] [] trivial ?_
   refine brs (pr (xs.getD k d0N)) (kAt (cAt (bodyOf Tryd.f29) [1, 0, 1, 0, 0]) [1, 1, 0, 0, 1, 1, 0] (.inv (LI 19 [] (idxNode0L xs a c F pr w) k) :: (kEnd (bodyOf Tryd.f29) [1, 0, 1, 0] []))) (kAt (cAt (bodyOf Tryd.f29) [1, 0, 1, 0, 0]) [1, 1, 0, 0, 1, 1, 1] (.inv (LI 19 [] (idxNode0L xs a c F pr w) k) :: (kEnd (bodyOf Tryd.f29) [1, 0, 1, 0] []))) ((pr (xs.getD k d0N)) = true) (Iff.rfl) (fun h2 => ?_) (fun h2 => ?_)
   · refine sgs 5 [] [0, 1, 4, 7, 8] (kAt (cAt (bodyOf Tryd.f29) [1, 0, 1, 0, 0]) [1, 1, 0, 0, 1, 1, 0, 1] (.inv (LI 19 [] (idxNode0L xs a c F pr w) k) :: (kEnd (bodyOf Tryd.f29) [1, 0, 1, 0] []))) [(0, none, .slice a xs.length c), (1, none, .func (.func F) #[] #[]), (4, none, .int .i64 ((k : Nat) : Int)), (7, none, .int .i64 ((xs.length : Nat) : Int)), (8, none, .int .i64 ((k : Nat) : Int))] [] trivial ?_
     exact retD (hs := []) (vs := [.int .i64 ((k : Nat) : Int)]) (ps := []) (by kernel_rfl) trivial (v := .int .i64 ((k : Nat) : Int)) rfl (⟨by rw [idxI_hit d0N hk2 hp h2], hE2⟩)
   · refine sgs 6 [] [0, 1, 7, 8] (.inv (LI 19 [] (idxNode0L xs a c F pr w) k) :: (kEnd (bodyOf Tryd.f29) [1, 0, 1, 0] [])) [(0, none, .slice a xs.length c), (1, none, .func (.func F) #[] #[]), (7, none, .int .i64 ((xs.length : Nat) : Int)), (8, none, .int .i64 ((k + 1 : Nat) : Int))] [(-9223372036854775808 ≤ ((k + 1 : Nat) : Int) ∧ ((k + 1 : Nat) : Int) ≤ 9223372036854775807)] (show (-9223372036854775808 ≤ ((k + 1 : Nat) : Int) ∧ ((k + 1 : Nat) : Int) ≤ 9223372036854775807) from by omega) ?_
     exact again (k + 1) [0, 1, 7, 8] (by kernel_rfl) (⟨hE2, by omega, fun j hj => by by_cases e : j = k; (subst e; simpa using h2); exact hp j (by omega)⟩) (show xs.length - (k + 1) < xs.length - k by omega)
 · refine sgs 5 [] [4] (kAt (bodyOf Tryd.f29) [1, 1, 1] []) [(4, none, .int .i64 (-1 : Int))] [] trivial ?_
   exact retD (hs := []) (vs := [.int .i64 (-1 : Int)]) (ps := []) (by kernel_rfl) trivial (v := .int .i64 (-1 : Int)) rfl (⟨by rw [idxI_miss d0N (fun j hj => hp j (by omega))], K1⟩)

def idxNode1L (xs : List PNode) (a : Option Addr) (c : Nat) (F : FuncId) (b0 : Nat) (pr : PNode → Bool) (w : World) : Lp Nat where
  S := fun k => [(0, none, .slice a xs.length c), (1, none, .func (.func F) #[] #[.pointer (some ⟨b0, 0, none⟩)]), (7, none, .int .i64 ((xs.length : Nat) : Int)), (8, none, .int .i64 ((k : Nat) : Int))]
  J := fun k w' => Ext w w' ∧ k ≤ xs.length ∧ ∀ j, j < k → pr (xs.getD j d0N) = false
  M := fun k => xs.length - k
set_option maxRecDepth 20000 in
theorem idxNode1 (xs : List PNode) (a : Option Addr) (c : Nat) (F : FuncId) (b0 : Nat) (pr : PNode → Bool) (w : World) (hE : Enters Tryd.prog F) (hF : ∀ k, k < xs.length → ∀ w', Ext w w' → Does Tryd.prog F [.agg #[.string (bs ((xs.getD k d0N).name)), .int .i64 ((xs.getD k d0N).asn)], .pointer (some ⟨b0, 0, none⟩)] w' fun v w2 => v = .bool (pr (xs.getD k d0N)) ∧ Ext w' w2) (hc : Cells w a (xs.flatMap nodeC)) (hl : xs.length ≤ 140737488355328) :
    Does Tryd.prog 29 [.slice a xs.length c, .func (.func F) #[] #[.pointer (some ⟨b0, 0, none⟩)]] w (fun v w' => v = .int .i64 (idxI pr xs) ∧ Ext w w') := by
 refine startD (c := (bodyOf Tryd.f29)) Tryd.func29 rfl (by kernel_rfl) ?_
 show G _ 19 [] _ (kAt (bodyOf Tryd.f29) [] []) [(0, none, .slice a xs.length c), (1, none, .func (.func F) #[] #[.pointer (some ⟨b0, 0, none⟩)])] w
 have hE1 : Ext w w := Ext.refl w
 refine sgs 12 [] [0, 1, 4, 7, 8] (kAt (bodyOf Tryd.f29) [1, 0, 1, 0] []) [(0, none, .slice a xs.length c), (1, none, .func (.func F) #[] #[.pointer (some ⟨b0, 0, none⟩)]), (4, none, .int .i64 (0 : Int)), (7, none, .int .i64 ((xs.length : Nat) : Int)), (8, none, .int .i64 (0 : Int))] [] trivial ?_
 refine loopR (idxNode1L xs a c F b0 pr w) (k' := (kEnd (bodyOf Tryd.f29) [1, 0, 1, 0] [])) (body := (cAt (bodyOf Tryd.f29) [1, 0, 1, 0, 0])) (by kernel_rfl) 0 [0, 1, 7, 8] (by kernel_rfl) (⟨hE1, by omega, fun j h => by omega⟩) ?_
 rintro k w0 ⟨K1, hk, hp⟩
 refine sgs 5 [] [0, 1, 7, 8, 9] (kAt (cAt (bodyOf Tryd.f29) [1, 0, 1, 0, 0]) [1, 0] (.inv (LI 19 [] (idxNode1L xs a c F b0 pr w) k) :: (kEnd (bodyOf Tryd.f29) [1, 0, 1, 0] []))) [(0, none, .slice a xs.length c), (1, none, .func (.func F) #[] #[.pointer (some ⟨b0, 0, none⟩)]), (7, none, .int .i64 ((xs.length : Nat) : Int)), (8, none, .int .i64 ((k : Nat) : Int)), (9, none, .bool (decide (((k : Nat) : Int) < ((xs.length : Nat) : Int))))] [] trivial ?_
 refine brs (decide (((k : Nat) : Int) < ((xs.length : Nat) : Int))) (kAt (cAt (bodyOf Tryd.f29) [1, 0, 1, 0, 0]) [1, 0, 0] (.inv (LI 19 [] (idxNode1L xs a c F b0 pr w) k) :: (kEnd (bodyOf Tryd.f29) [1, 0, 1, 0] []))) (kAt (cAt (bodyOf Tryd.f29) [1, 0, 1, 0, 0]) [1, 0, 1] (.inv (LI 19 [] (idxNode1L xs a c F b0 pr w) k) :: (kEnd (bodyOf Tryd.f29) [1, 0, 1, 0] []))) (((k : Nat) : Int) < ((xs.length : Nat) : Int)) (iffDec) (fun h1 => ?_) (fun h1 => ?_)
 · have hk2 : k < xs.length := by omega
   have ha := hc.addrE nodeC_len (by decide) hk2
   refine sgs 15 [.ld (.agg #[.string (bs ((xs.getD k d0N).name)), .int .i64 ((xs.getD k d0N).asn)])] [0, 1, 5, 7, 8, 11, 15] (kOp (cAt (bodyOf Tryd.f29) [1, 0, 1, 0, 0]) [1, 1, 0, 0, 1, 0] 5 (.inv (LI 19 [] (idxNode1L xs a c F b0 pr w) k) :: (kEnd (bodyOf Tryd.f29) [1, 0, 1, 0] []))) [(0, none, .slice a xs.length c), (1, none, .func (.func F) #[] #[.pointer (some ⟨b0, 0, none⟩)]), (5, none, .int .i64 ((k : Nat) : Int)), (7, none, .int .i64 ((xs.length : Nat) : Int)), (8, none, .int .i64 ((k : Nat) : Int)), (11, none, .func (.func F) #[] #[.pointer (some ⟨b0, 0, none⟩)]), (15, none, .agg #[.string (bs ((xs.getD k d0N).name)), .int .i64 ((xs.getD k d0N).asn)])] [(0 ≤ ((k : Nat) : Int) ∧ ((k : Nat) : Int) < ((xs.length : Nat) : Int)), (a : Option Addr) = some ⟨(slB a), slO a, none⟩, w0.cell? ⟨(slB a), slO a + k * 2, none⟩ = some (.string (bs ((xs.getD k d0N).name))), w0.cell? ⟨(slB a), slO a + k * 2 + 1, none⟩ = some (.int .i64 ((xs.getD k d0N).asn))] ⟨(by omega), (by assumption), (K1.cell (cellAt nodeC_len d0N hc hk2 (j := 0) rfl)), (show w0.cell? ⟨(slB a), slO a + k * 2 + 1, none⟩ = some (.int .i64 ((xs.getD k d0N).asn)) from K1.cell (cellAt nodeC_len d0N hc hk2 (j := 1) rfl))⟩ ?_
   refine oss [] (.call F [.agg #[.string (bs ((xs.getD k d0N).name)), .int .i64 ((xs.getD k d0N).asn)], .pointer (some ⟨b0, 0, none⟩)]) (some 16) (kOp (cAt (bodyOf Tryd.f29) [1, 0, 1, 0, 0]) [1, 1, 0, 0, 1, 0] 6 (.inv (LI 19 [] (idxNode1L xs a c F b0 pr w) k) :: (kEnd (bodyOf Tryd.f29) [1, 0, 1, 0] []))) [] trivial (runs_call hE (hF k hk2 w0 K1)) ?_
   rintro _ w1 ⟨rfl, hx⟩
   have hE2 := K1.trans hx
   refine sgs 1 [] [0, 1, 5, 7, 8, 16] (kAt (cAt (bodyOf Tryd.f29) [1, 0, 1, 0, 0]) [1, 1, 0, 0, 1, 1] (.inv (LI 19 [] (idxNode1L xs a c F b0 pr w) k) :: (kEnd (bodyOf Tryd.f29) [1, 0, 1, 0] []))) [(0, none, .slice a xs.length c), (1, none, .func (.func F) #[] #[.pointer (some ⟨b0, 0, none⟩)]), (5, none, .int .i64 ((k : Nat) : Int)), (7, none, .int .i64 ((xs.length : Nat) : Int)), (8, none, .int .i64 ((k : Nat) : Int)), (16, none, .bool (pr (xs.getD k d0N)))] [] trivial ?_
   refine brs (pr (xs.getD k d0N)) (kAt (cAt (bodyOf Tryd.f29) [1, 0, 1, 0, 0]) [1, 1, 0, 0, 1, 1, 0] (.inv (LI 19 [] (idxNode1L xs a c F b0 pr w) k) :: (kEnd (bodyOf Tryd.f29) [1, 0, 1, 0] []))) (kAt (cAt (bodyOf Tryd.f29) [1, 0, 1, 0, 0]) [1, 1, 0, 0, 1, 1, 1] (.inv (LI 19 [] (idxNode1L xs a c F b0 pr w) k) :: (kEnd (bodyOf Tryd.f29) [1, 0, 1, 0] []))) ((pr (xs.getD k d0N)) = true) (Iff.rfl) (fun h2 => ?_) (fun h2 => ?_)
   · refine sgs 5 [] [0, 1, 4, 7, 8] (kAt (cAt (bodyOf Tryd.f29) [1, 0, 1, 0, 0]) [1, 1, 0, 0, 1, 1, 0, 1] (.inv (LI 19 [] (idxNode1L xs a c F b0 pr w) k) :: (kEnd (bodyOf Tryd.f29) [1, 0, 1, 0] []))) [(0, none, .slice a xs.length c), (1, none, .func (.func F) #[] #[.pointer (some ⟨b0, 0, none⟩)]), (4, none, .int .i64 ((k : Nat) : Int)), (7, none, .int .i64 ((xs.length : Nat) : Int)), (8, none, .int .i64 ((k : Nat) : Int))] [] trivial ?_
     exact retD (hs := []) (vs := [.int .i64 ((k : Nat) : Int)]) (ps := []) (by kernel_rfl) trivial (v := .int .i64 ((k : Nat) : Int)) rfl (⟨by rw [idxI_hit d0N hk2 hp h2], hE2⟩)
   · refine sgs 6 [] [0, 1, 7, 8] (.inv (LI 19 [] (idxNode1L xs a c F b0 pr w) k) :: (kEnd (bodyOf Tryd.f29) [1, 0, 1, 0] [])) [(0, none, .slice a xs.length c), (1, none, .func (.func F) #[] #[.pointer (some ⟨b0, 0, none⟩)]), (7, none, .int .i64 ((xs.length : Nat) : Int)), (8, none, .int .i64 ((k + 1 : Nat) : Int))] [(-9223372036854775808 ≤ ((k + 1 : Nat) : Int) ∧ ((k + 1 : Nat) : Int) ≤ 9223372036854775807)] (show (-9223372036854775808 ≤ ((k + 1 : Nat) : Int) ∧ ((k + 1 : Nat) : Int) ≤ 9223372036854775807) from by omega) ?_
     exact again (k + 1) [0, 1, 7, 8] (by kernel_rfl) (⟨hE2, by omega, fun j hj => by by_cases e : j = k; (subst e; simpa using h2); exact hp j (by omega)⟩) (show xs.length - (k + 1) < xs.length - k by omega)
 · refine sgs 5 [] [4] (kAt (bodyOf Tryd.f29) [1, 1, 1] []) [(4, none, .int .i64 (-1 : Int))] [] trivial ?_
   exact retD (hs := []) (vs := [.int .i64 (-1 : Int)]) (ps := []) (by kernel_rfl) trivial (v := .int .i64 (-1 : Int)) rfl (⟨by rw [idxI_miss d0N (fun j hj => hp j (by omega))], K1⟩)

def idxDest1L (xs : List DA) (a : Option Addr) (c : Nat) (F : FuncId) (b0 : Nat) (pr : DA → Bool) (w : World) : Lp Nat where
  S := fun k => [(0, none, .slice a xs.length c), (1, none, .func (.func F) #[] #[.pointer (some ⟨b0, 0, none⟩)]), (7, none, .int .i64 ((xs.length : Nat) : Int)), (8, none, .int .i64 ((k : Nat) : Int))]
  J := fun k w' => Ext w w' ∧ k ≤ xs.length ∧ ∀ j, j < k → pr (xs.getD j d0A) = false
  M := fun k => xs.length - k
set_option maxRecDepth 20000 in
theorem idxDest1 (xs : List DA) (a : Option Addr) (c : Nat) (F : FuncId) (b0 : Nat) (pr : DA → Bool) (w : World) (hE : Enters Tryd.prog F) (hF : ∀ k, k < xs.length → ∀ w', Ext w w' → Does Tryd.prog F [.agg #[.string (bs ((xs.getD k d0A).d.name)), .slice (xs.getD k d0A).a ((xs.getD k d0A).d.origins.length) ((xs.getD k d0A).c)], .pointer (some ⟨b0, 0, none⟩)] w' fun v w2 => v = .bool (pr (xs.getD k d0A)) ∧ Ext w' w2) (hc : Cells w a (xs.flatMap destC)) (hl : xs.length ≤ 140737488355328) :
    Does Tryd.prog 31 [.slice a xs.length c, .func (.func F) #[] #[.pointer (some ⟨b0, 0, none⟩)]] w (fun v w' => v = .int .i64 (idxI pr xs) ∧ Ext w w') := by
 refine startD (c := (bodyOf Tryd.f31)) Tryd.func31 rfl (by kernel_rfl) ?_
 show G _ 19 [] _ (kAt (bodyOf Tryd.f31) [] []) [(0, none, .slice a xs.length c), (1, none, .func (.func F) #[] #[.pointer (some ⟨b0, 0, none⟩)])] w
 have hE1 : Ext w w := Ext.refl w
 refine sgs 12 [] [0, 1, 4, 7, 8] (kAt (bodyOf Tryd.f31) [1, 0, 1, 0] []) [(0, none, .slice a xs.length c), (1, none, .func (.func F) #[] #[.pointer (some ⟨b0, 0, none⟩)]), (4, none, .int .i64 (0 : Int)), (7, none, .int .i64 ((xs.length : Nat) : Int)), (8, none, .int .i64 (0 : Int))] [] trivial ?_
 refine loopR (idxDest1L xs a c F b0 pr w) (k' := (kEnd (bodyOf Tryd.f31) [1, 0, 1, 0] [])) (body := (cAt (bodyOf Tryd.f31) [1, 0, 1, 0, 0])) (by kernel_rfl) 0 [0, 1, 7, 8] (by kernel_rfl) (⟨hE1, by omega, fun j h => by omega⟩) ?_
 rintro k w0 ⟨K1, hk, hp⟩
 refine sgs 5 [] [0, 1, 7, 8, 9] (kAt (cAt (bodyOf Tryd.f31) [1, 0, 1, 0, 0]) [1, 0] (.inv (LI 19 [] (idxDest1L xs a c F b0 pr w) k) :: (kEnd (bodyOf Tryd.f31) [1, 0, 1, 0] []))) [(0, none, .slice a xs.length c), (1, none, .func (.func F) #[] #[.pointer (some ⟨b0, 0, none⟩)]), (7, none, .int .i64 ((xs.length : Nat) : Int)), (8, none, .int .i64 ((k : Nat) : Int)), (9, none, .bool (decide (((k : Nat) : Int) < ((xs.length : Nat) : Int))))] [] trivial ?_
 refine brs (decide (((k : Nat) : Int) < ((xs.length : Nat) : Int))) (kAt (cAt (bodyOf Tryd.f31) [1, 0, 1, 0, 0]) [1, 0, 0] (.inv (LI 19 [] (idxDest1L xs a c F b0 pr w) k) :: (kEnd (bodyOf Tryd.f31) [1, 0, 1, 0] []))) (kAt (cAt (bodyOf Tryd.f31) [1, 0, 1, 0, 0]) [1, 0, 1] (.inv (LI 19 [] (idxDest1L xs a c F b0 pr w) k) :: (kEnd (bodyOf Tryd.f31) [1, 0, 1, 0] []))) (((k : Nat) : Int) < ((xs.length : Nat) : Int)) (iffDec) (fun h1 => ?_) (fun h1 => ?_)
 · have hk2 : k < xs.length := by omega
   have ha := hc.addrE destC_len (by decide) hk2
   refine sgs 15 [.ld (.agg #[.string (bs ((xs.getD k d0A).d.name)), .slice (xs.getD k d0A).a ((xs.getD k d0A).d.origins.length) ((xs.getD k d0A).c)])] [0, 1, 5, 7, 8, 11, 15] (kOp (cAt (bodyOf Tryd.f31) [1, 0, 1, 0, 0]) [1, 1, 0, 0, 1, 0] 5 (.inv (LI 19 [] (idxDest1L xs a c F b0 pr w) k) :: (kEnd (bodyOf Tryd.f31) [1, 0, 1, 0] []))) [(0, none, .slice a xs.length c), (1, none, .func (.func F) #[] #[.pointer (some ⟨b0, 0, none⟩)]), (5, none, .int .i64 ((k : Nat) : Int)), (7, none, .int .i64 ((xs.length : Nat) : Int)), (8, none, .int .i64 ((k : Nat) : Int)), (11, none, .func (.func F) #[] #[.pointer (some ⟨b0, 0, none⟩)]), (15, none, .agg #[.string (bs ((xs.getD k d0A).d.name)), .slice (xs.getD k d0A).a ((xs.getD k d0A).d.origins.length) ((xs.getD k d0A).c)])] [(0 ≤ ((k : Nat) : Int) ∧ ((k : Nat) : Int) < ((xs.length : Nat) : Int)), (a : Option Addr) = some ⟨(slB a), slO a, none⟩, w0.cell? ⟨(slB a), slO a + k * 2, none⟩ = some (.string (bs ((xs.getD k d0A).d.name))), w0.cell? ⟨(slB a), slO a + k * 2 + 1, none⟩ = some (.slice (xs.getD k d0A).a ((xs.getD k d0A).d.origins.length) ((xs.getD k d0A).c))] ⟨(by omega), (by assumption), (K1.cell (cellAt destC_len d0A hc hk2 (j := 0) rfl)), (show w0.cell? ⟨(slB a), slO a + k * 2 + 1, none⟩ = some (.slice (xs.getD k d0A).a ((xs.getD k d0A).d.origins.length) ((xs.getD k d0A).c)) from K1.cell (cellAt destC_len d0A hc hk2 (j := 1) rfl))⟩ ?_
   refine oss [] (.call F [.agg #[.string (bs ((xs.getD k d0A).d.name)), .slice (xs.getD k d0A).a ((xs.getD k d0A).d.origins.length) ((xs.getD k d0A).c)], .pointer (some ⟨b0, 0, none⟩)]) (some 16) (kOp (cAt (bodyOf Tryd.f31) [1, 0, 1, 0, 0]) [1, 1, 0, 0, 1, 0] 6 (.inv (LI 19 [] (idxDest1L xs a c F b0 pr w) k) :: (kEnd (bodyOf Tryd.f31) [1, 0, 1, 0] []))) [] trivial (runs_call hE (hF k hk2 w0 K1)) ?_
   rintro _ w1 ⟨rfl, hx⟩
   have hE2 := K1.trans hx
   refine sgs 1 [] [0, 1, 5, 7, 8, 16] (kAt (cAt (bodyOf Tryd.f31) [1, 0, 1, 0, 0]) [1, 1, 0, 0, 1, 1] (.inv (LI 19 [] (idxDest1L xs a c F b0 pr w) k) :: (kEnd (bodyOf Tryd.f31) [1, 0, 1, 0] []))) [(0, none, .slice a xs.length c), (1, none, .func (.func F) #[] #[.pointer (some ⟨b0, 0, none⟩)]), (5, none, .int .i64 ((k : Nat) : Int)), (7, none, .int .i64 ((xs.length : Nat) : Int)), (8, none, .int .i64 ((k : Nat) : Int)), (16, none, .bool (pr (xs.getD k d0A)))] [] trivial ?_
   refine brs (pr (xs.getD k d0A)) (kAt (cAt (bodyOf Tryd.f31) [1, 0, 1, 0, 0]) [1, 1, 0, 0, 1, 1, 0] (.inv (LI 19 [] (idxDest1L xs a c F b0 pr w) k) :: (kEnd (bodyOf Tryd.f31) [1, 0, 1, 0] []))) (kAt (cAt (bodyOf Tryd.f31) [1, 0, 1, 0, 0]) [1, 1, 0, 0, 1, 1, 1] (.inv (LI 19 [] (idxDest1L xs a c F b0 pr w) k) :: (kEnd (bodyOf Tryd.f31) [1, 0, 1, 0] []))) ((pr (xs.getD k d0A)) = true) (Iff.rfl) (fun h2 => ?_) (fun h2 => ?_)
   · refine sgs 5 [] [0, 1, 4, 7, 8] (kAt (cAt (bodyOf Tryd.f31) [1, 0, 1, 0, 0]) [1, 1, 0, 0, 1, 1, 0, 1] (.inv (LI 19 [] (idxDest1L xs a c F b0 pr w) k) :: (kEnd (bodyOf Tryd.f31) [1, 0, 1, 0] []))) [(0, none, .slice a xs.length c), (1, none, .func (.func F) #[] #[.pointer (some ⟨b0, 0, none⟩)]), (4, none, .int .i64 ((k : Nat) : Int)), (7, none, .int .i64 ((xs.length : Nat) : Int)), (8, none, .int .i64 ((k : Nat) : Int))] [] trivial ?_
     exact retD (hs := []) (vs := [.int .i64 ((k : Nat) : Int)]) (ps := []) (by kernel_rfl) trivial (v := .int .i64 ((k : Nat) : Int)) rfl (⟨by rw [idxI_hit d0A hk2 hp h2], hE2⟩)
   · refine sgs 6 [] [0, 1, 7, 8] (.inv (LI 19 [] (idxDest1L xs a c F b0 pr w) k) :: (kEnd (bodyOf Tryd.f31) [1, 0, 1, 0] [])) [(0, none, .slice a xs.length c), (1, none, .func (.func F) #[] #[.pointer (some ⟨b0, 0, none⟩)]), (7, none, .int .i64 ((xs.length : Nat) : Int)), (8, none, .int .i64 ((k + 1 : Nat) : Int))] [(-9223372036854775808 ≤ ((k + 1 : Nat) : Int) ∧ ((k + 1 : Nat) : Int) ≤ 9223372036854775807)] (show (-9223372036854775808 ≤ ((k + 1 : Nat) : Int) ∧ ((k + 1 : Nat) : Int) ≤ 9223372036854775807) from by omega) ?_
     exact again (k + 1) [0, 1, 7, 8] (by kernel_rfl) (⟨hE2, by omega, fun j hj => by by_cases e : j = k; (subst e; simpa using h2); exact hp j (by omega)⟩) (show xs.length - (k + 1) < xs.length - k by omega)
 · refine sgs 5 [] [4] (kAt (bodyOf Tryd.f31) [1, 1, 1] []) [(4, none, .int .i64 (-1 : Int))] [] trivial ?_
   exact retD (hs := []) (vs := [.int .i64 (-1 : Int)]) (ps := []) (by kernel_rfl) trivial (v := .int .i64 (-1 : Int)) rfl (⟨by rw [idxI_miss d0A (fun j hj => hp j (by omega))], K1⟩)

def idxCheck1L (xs : List PCheck) (a : Option Addr) (c : Nat) (F : FuncId) (b0 : Nat) (pr : PCheck → Bool) (w : World) : Lp Nat where
  S := fun k => [(0, none, .slice a xs.length c), (1, none, .func (.func F) #[] #[.pointer (some ⟨b0, 0, none⟩)]), (7, none, .int .i64 ((xs.length : Nat) : Int)), (8, none, .int .i64 ((k : Nat) : Int))]
  J := fun k w' => Ext w w' ∧ k ≤ xs.length ∧ ∀ j, j < k → pr (xs.getD j d0C) = false
  M := fun k => xs.length - k
set_option maxRecDepth 20000 in
theorem idxCheck1 (xs : List PCheck) (a : Option Addr) (c : Nat) (F : FuncId) (b0 : Nat) (pr : PCheck → Bool) (w : World) (hE : Enters Tryd.prog F) (hF : ∀ k, k < xs.length → ∀ w', Ext w w' → Does Tryd.prog F [.agg #[.int .i64 ((xs.getD k d0C).kind), .int .i64 ((xs.getD k d0C).node), .int .i64 ((xs.getD k d0C).dest), .int .i64 ((xs.getD k d0C).limit), .int .i64 ((xs.getD k d0C).other)], .pointer (some ⟨b0, 0, none⟩)] w' fun v w2 => v = .bool (pr (xs.getD k d0C)) ∧ Ext w' w2) (hc : Cells w a (xs.flatMap checkC)) (hl : xs.length ≤ 140737488355328) :
    Does Tryd.prog 56 [.slice a xs.length c, .func (.func F) #[] #[.pointer (some ⟨b0, 0, none⟩)]] w (fun v w' => v = .int .i64 (idxI pr xs) ∧ Ext w w') := by
 refine startD (c := (bodyOf Tryd.f56)) Tryd.func56 rfl (by kernel_rfl) ?_
 show G _ 19 [] _ (kAt (bodyOf Tryd.f56) [] []) [(0, none, .slice a xs.length c), (1, none, .func (.func F) #[] #[.pointer (some ⟨b0, 0, none⟩)])] w
 have hE1 : Ext w w := Ext.refl w
 refine sgs 12 [] [0, 1, 4, 7, 8] (kAt (bodyOf Tryd.f56) [1, 0, 1, 0] []) [(0, none, .slice a xs.length c), (1, none, .func (.func F) #[] #[.pointer (some ⟨b0, 0, none⟩)]), (4, none, .int .i64 (0 : Int)), (7, none, .int .i64 ((xs.length : Nat) : Int)), (8, none, .int .i64 (0 : Int))] [] trivial ?_
 refine loopR (idxCheck1L xs a c F b0 pr w) (k' := (kEnd (bodyOf Tryd.f56) [1, 0, 1, 0] [])) (body := (cAt (bodyOf Tryd.f56) [1, 0, 1, 0, 0])) (by kernel_rfl) 0 [0, 1, 7, 8] (by kernel_rfl) (⟨hE1, by omega, fun j h => by omega⟩) ?_
 rintro k w0 ⟨K1, hk, hp⟩
 refine sgs 5 [] [0, 1, 7, 8, 9] (kAt (cAt (bodyOf Tryd.f56) [1, 0, 1, 0, 0]) [1, 0] (.inv (LI 19 [] (idxCheck1L xs a c F b0 pr w) k) :: (kEnd (bodyOf Tryd.f56) [1, 0, 1, 0] []))) [(0, none, .slice a xs.length c), (1, none, .func (.func F) #[] #[.pointer (some ⟨b0, 0, none⟩)]), (7, none, .int .i64 ((xs.length : Nat) : Int)), (8, none, .int .i64 ((k : Nat) : Int)), (9, none, .bool (decide (((k : Nat) : Int) < ((xs.length : Nat) : Int))))] [] trivial ?_
 refine brs (decide (((k : Nat) : Int) < ((xs.length : Nat) : Int))) (kAt (cAt (bodyOf Tryd.f56) [1, 0, 1, 0, 0]) [1, 0, 0] (.inv (LI 19 [] (idxCheck1L xs a c F b0 pr w) k) :: (kEnd (bodyOf Tryd.f56) [1, 0, 1, 0] []))) (kAt (cAt (bodyOf Tryd.f56) [1, 0, 1, 0, 0]) [1, 0, 1] (.inv (LI 19 [] (idxCheck1L xs a c F b0 pr w) k) :: (kEnd (bodyOf Tryd.f56) [1, 0, 1, 0] []))) (((k : Nat) : Int) < ((xs.length : Nat) : Int)) (iffDec) (fun h1 => ?_) (fun h1 => ?_)
 · have hk2 : k < xs.length := by omega
   have ha := hc.addrE checkC_len (by decide) hk2
   refine sgs 15 [.ld (.agg #[.int .i64 ((xs.getD k d0C).kind), .int .i64 ((xs.getD k d0C).node), .int .i64 ((xs.getD k d0C).dest), .int .i64 ((xs.getD k d0C).limit), .int .i64 ((xs.getD k d0C).other)])] [0, 1, 5, 7, 8, 11, 15] (kOp (cAt (bodyOf Tryd.f56) [1, 0, 1, 0, 0]) [1, 1, 0, 0, 1, 0] 5 (.inv (LI 19 [] (idxCheck1L xs a c F b0 pr w) k) :: (kEnd (bodyOf Tryd.f56) [1, 0, 1, 0] []))) [(0, none, .slice a xs.length c), (1, none, .func (.func F) #[] #[.pointer (some ⟨b0, 0, none⟩)]), (5, none, .int .i64 ((k : Nat) : Int)), (7, none, .int .i64 ((xs.length : Nat) : Int)), (8, none, .int .i64 ((k : Nat) : Int)), (11, none, .func (.func F) #[] #[.pointer (some ⟨b0, 0, none⟩)]), (15, none, .agg #[.int .i64 ((xs.getD k d0C).kind), .int .i64 ((xs.getD k d0C).node), .int .i64 ((xs.getD k d0C).dest), .int .i64 ((xs.getD k d0C).limit), .int .i64 ((xs.getD k d0C).other)])] [(0 ≤ ((k : Nat) : Int) ∧ ((k : Nat) : Int) < ((xs.length : Nat) : Int)), (a : Option Addr) = some ⟨(slB a), slO a, none⟩, w0.cell? ⟨(slB a), slO a + k * 5, none⟩ = some (.int .i64 ((xs.getD k d0C).kind)), w0.cell? ⟨(slB a), slO a + k * 5 + 1, none⟩ = some (.int .i64 ((xs.getD k d0C).node)), w0.cell? ⟨(slB a), slO a + k * 5 + 2, none⟩ = some (.int .i64 ((xs.getD k d0C).dest)), w0.cell? ⟨(slB a), slO a + k * 5 + 3, none⟩ = some (.int .i64 ((xs.getD k d0C).limit)), w0.cell? ⟨(slB a), slO a + k * 5 + 4, none⟩ = some (.int .i64 ((xs.getD k d0C).other))] ⟨(by omega), (by assumption), (K1.cell (cellAt checkC_len d0C hc hk2 (j := 0) rfl)), (K1.cell (cellAt checkC_len d0C hc hk2 (j := 1) rfl)), (K1.cell (cellAt checkC_len d0C hc hk2 (j := 2) rfl)), (K1.cell (cellAt checkC_len d0C hc hk2 (j := 3) rfl)), (show w0.cell? ⟨(slB a), slO a + k * 5 + 4, none⟩ = some (.int .i64 ((xs.getD k d0C).other)) from K1.cell (cellAt checkC_len d0C hc hk2 (j := 4) rfl))⟩ ?_
   refine oss [] (.call F [.agg #[.int .i64 ((xs.getD k d0C).kind), .int .i64 ((xs.getD k d0C).node), .int .i64 ((xs.getD k d0C).dest), .int .i64 ((xs.getD k d0C).limit), .int .i64 ((xs.getD k d0C).other)], .pointer (some ⟨b0, 0, none⟩)]) (some 16) (kOp (cAt (bodyOf Tryd.f56) [1, 0, 1, 0, 0]) [1, 1, 0, 0, 1, 0] 6 (.inv (LI 19 [] (idxCheck1L xs a c F b0 pr w) k) :: (kEnd (bodyOf Tryd.f56) [1, 0, 1, 0] []))) [] trivial (runs_call hE (hF k hk2 w0 K1)) ?_
   rintro _ w1 ⟨rfl, hx⟩
   have hE2 := K1.trans hx
   refine sgs 1 [] [0, 1, 5, 7, 8, 16] (kAt (cAt (bodyOf Tryd.f56) [1, 0, 1, 0, 0]) [1, 1, 0, 0, 1, 1] (.inv (LI 19 [] (idxCheck1L xs a c F b0 pr w) k) :: (kEnd (bodyOf Tryd.f56) [1, 0, 1, 0] []))) [(0, none, .slice a xs.length c), (1, none, .func (.func F) #[] #[.pointer (some ⟨b0, 0, none⟩)]), (5, none, .int .i64 ((k : Nat) : Int)), (7, none, .int .i64 ((xs.length : Nat) : Int)), (8, none, .int .i64 ((k : Nat) : Int)), (16, none, .bool (pr (xs.getD k d0C)))] [] trivial ?_
   refine brs (pr (xs.getD k d0C)) (kAt (cAt (bodyOf Tryd.f56) [1, 0, 1, 0, 0]) [1, 1, 0, 0, 1, 1, 0] (.inv (LI 19 [] (idxCheck1L xs a c F b0 pr w) k) :: (kEnd (bodyOf Tryd.f56) [1, 0, 1, 0] []))) (kAt (cAt (bodyOf Tryd.f56) [1, 0, 1, 0, 0]) [1, 1, 0, 0, 1, 1, 1] (.inv (LI 19 [] (idxCheck1L xs a c F b0 pr w) k) :: (kEnd (bodyOf Tryd.f56) [1, 0, 1, 0] []))) ((pr (xs.getD k d0C)) = true) (Iff.rfl) (fun h2 => ?_) (fun h2 => ?_)
   · refine sgs 5 [] [0, 1, 4, 7, 8] (kAt (cAt (bodyOf Tryd.f56) [1, 0, 1, 0, 0]) [1, 1, 0, 0, 1, 1, 0, 1] (.inv (LI 19 [] (idxCheck1L xs a c F b0 pr w) k) :: (kEnd (bodyOf Tryd.f56) [1, 0, 1, 0] []))) [(0, none, .slice a xs.length c), (1, none, .func (.func F) #[] #[.pointer (some ⟨b0, 0, none⟩)]), (4, none, .int .i64 ((k : Nat) : Int)), (7, none, .int .i64 ((xs.length : Nat) : Int)), (8, none, .int .i64 ((k : Nat) : Int))] [] trivial ?_
     exact retD (hs := []) (vs := [.int .i64 ((k : Nat) : Int)]) (ps := []) (by kernel_rfl) trivial (v := .int .i64 ((k : Nat) : Int)) rfl (⟨by rw [idxI_hit d0C hk2 hp h2], hE2⟩)
   · refine sgs 6 [] [0, 1, 7, 8] (.inv (LI 19 [] (idxCheck1L xs a c F b0 pr w) k) :: (kEnd (bodyOf Tryd.f56) [1, 0, 1, 0] [])) [(0, none, .slice a xs.length c), (1, none, .func (.func F) #[] #[.pointer (some ⟨b0, 0, none⟩)]), (7, none, .int .i64 ((xs.length : Nat) : Int)), (8, none, .int .i64 ((k + 1 : Nat) : Int))] [(-9223372036854775808 ≤ ((k + 1 : Nat) : Int) ∧ ((k + 1 : Nat) : Int) ≤ 9223372036854775807)] (show (-9223372036854775808 ≤ ((k + 1 : Nat) : Int) ∧ ((k + 1 : Nat) : Int) ≤ 9223372036854775807) from by omega) ?_
     exact again (k + 1) [0, 1, 7, 8] (by kernel_rfl) (⟨hE2, by omega, fun j hj => by by_cases e : j = k; (subst e; simpa using h2); exact hp j (by omega)⟩) (show xs.length - (k + 1) < xs.length - k by omega)
 · refine sgs 5 [] [4] (kAt (bodyOf Tryd.f56) [1, 1, 1] []) [(4, none, .int .i64 (-1 : Int))] [] trivial ?_
   exact retD (hs := []) (vs := [.int .i64 (-1 : Int)]) (ps := []) (by kernel_rfl) trivial (v := .int .i64 (-1 : Int)) rfl (⟨by rw [idxI_miss d0C (fun j hj => hp j (by omega))], K1⟩)

def idxStr0L (xs : List Bytes) (a : Option Addr) (c : Nat) (F : FuncId) (pr : Bytes → Bool) (w : World) : Lp Nat where
  S := fun k => [(0, none, .slice a xs.length c), (1, none, .func (.func F) #[] #[]), (7, none, .int .i64 ((xs.length : Nat) : Int)), (8, none, .int .i64 ((k : Nat) : Int))]
  J := fun k w' => Ext w w' ∧ k ≤ xs.length ∧ ∀ j, j < k → pr (xs.getD j []) = false
  M := fun k => xs.length - k
set_option maxRecDepth 20000 in
theorem idxStr0 (xs : List Bytes) (a : Option Addr) (c : Nat) (F : FuncId) (pr : Bytes → Bool) (w : World) (hE : Enters Tryd.prog F) (hF : ∀ k, k < xs.length → ∀ w', Ext w w' → Does Tryd.prog F [.string (bs (xs.getD k []))] w' fun v w2 => v = .bool (pr (xs.getD k [])) ∧ Ext w' w2) (hc : Cells w a (xs.flatMap strC)) (hl : xs.length ≤ 140737488355328) :
    Does Tryd.prog 62 [.slice a xs.length c, .func (.func F) #[] #[]] w (fun v w' => v = .int .i64 (idxI pr xs) ∧ Ext w w') := by
 refine startD (c := (bodyOf Tryd.f62)) Tryd.func62 rfl (by kernel_rfl) ?_
 show G _ 19 [] _ (kAt (bodyOf Tryd.f62) [] []) [(0, none, .slice a xs.length c), (1, none, .func (.func F) #[] #[])] w
 have hE1 : Ext w w := Ext.refl w
 refine sgs 12 [] [0, 1, 4, 7, 8] (kAt (bodyOf Tryd.f62) [1, 0, 1, 0] []) [(0, none, .slice a xs.length c), (1, none, .func (.func F) #[] #[]), (4, none, .int .i64 (0 : Int)), (7, none, .int .i64 ((xs.length : Nat) : Int)), (8, none, .int .i64 (0 : Int))] [] trivial ?_
 refine loopR (idxStr0L xs a c F pr w) (k' := (kEnd (bodyOf Tryd.f62) [1, 0, 1, 0] [])) (body := (cAt (bodyOf Tryd.f62) [1, 0, 1, 0, 0])) (by kernel_rfl) 0 [0, 1, 7, 8] (by kernel_rfl) (⟨hE1, by omega, fun j h => by omega⟩) ?_
 rintro k w0 ⟨K1, hk, hp⟩
 refine sgs 5 [] [0, 1, 7, 8, 9] (kAt (cAt (bodyOf Tryd.f62) [1, 0, 1, 0, 0]) [1, 0] (.inv (LI 19 [] (idxStr0L xs a c F pr w) k) :: (kEnd (bodyOf Tryd.f62) [1, 0, 1, 0] []))) [(0, none, .slice a xs.length c), (1, none, .func (.func F) #[] #[]), (7, none, .int .i64 ((xs.length : Nat) : Int)), (8, none, .int .i64 ((k : Nat) : Int)), (9, none, .bool (decide (((k : Nat) : Int) < ((xs.length : Nat) : Int))))] [] trivial ?_
 refine brs (decide (((k : Nat) : Int) < ((xs.length : Nat) : Int))) (kAt (cAt (bodyOf Tryd.f62) [1, 0, 1, 0, 0]) [1, 0, 0] (.inv (LI 19 [] (idxStr0L xs a c F pr w) k) :: (kEnd (bodyOf Tryd.f62) [1, 0, 1, 0] []))) (kAt (cAt (bodyOf Tryd.f62) [1, 0, 1, 0, 0]) [1, 0, 1] (.inv (LI 19 [] (idxStr0L xs a c F pr w) k) :: (kEnd (bodyOf Tryd.f62) [1, 0, 1, 0] []))) (((k : Nat) : Int) < ((xs.length : Nat) : Int)) (iffDec) (fun h1 => ?_) (fun h1 => ?_)
 · have hk2 : k < xs.length := by omega
   have ha := hc.addrE strC_len (by decide) hk2
   refine sgs 15 [.ld (.string (bs (xs.getD k [])))] [0, 1, 5, 7, 8, 11, 15] (kOp (cAt (bodyOf Tryd.f62) [1, 0, 1, 0, 0]) [1, 1, 0, 0, 1, 0] 5 (.inv (LI 19 [] (idxStr0L xs a c F pr w) k) :: (kEnd (bodyOf Tryd.f62) [1, 0, 1, 0] []))) [(0, none, .slice a xs.length c), (1, none, .func (.func F) #[] #[]), (5, none, .int .i64 ((k : Nat) : Int)), (7, none, .int .i64 ((xs.length : Nat) : Int)), (8, none, .int .i64 ((k : Nat) : Int)), (11, none, .func (.func F) #[] #[]), (15, none, .string (bs (xs.getD k [])))] [(0 ≤ ((k : Nat) : Int) ∧ ((k : Nat) : Int) < ((xs.length : Nat) : Int)), (a : Option Addr) = some ⟨(slB a), slO a, none⟩, w0.cell? ⟨(slB a), slO a + k * 1, none⟩ = some (.string (bs (xs.getD k [])))] ⟨(by omega), (by assumption), (show w0.cell? ⟨(slB a), slO a + k * 1, none⟩ = some (.string (bs (xs.getD k []))) from K1.cell (cellAt strC_len [] hc hk2 (j := 0) rfl))⟩ ?_
   refine oss [] (.call F [.string (bs (xs.getD k []))]) (some 16) (kOp (cAt (bodyOf Tryd.f62) [1, 0, 1, 0, 0]) [1, 1, 0, 0, 1, 0] 6 (.inv (LI 19 [] (idxStr0L xs a c F pr w) k) :: (kEnd (bodyOf Tryd.f62) [1, 0, 1, 0] []))) [] trivial (runs_call hE (hF k hk2 w0 K1)) ?_
   rintro _ w1 ⟨rfl, hx⟩
   have hE2 := K1.trans hx
   refine sgs 1 [] [0, 1, 5, 7, 8, 16] (kAt (cAt (bodyOf Tryd.f62) [1, 0, 1, 0, 0]) [1, 1, 0, 0, 1, 1] (.inv (LI 19 [] (idxStr0L xs a c F pr w) k) :: (kEnd (bodyOf Tryd.f62) [1, 0, 1, 0] []))) [(0, none, .slice a xs.length c), (1, none, .func (.func F) #[] #[]), (5, none, .int .i64 ((k : Nat) : Int)), (7, none, .int .i64 ((xs.length : Nat) : Int)), (8, none, .int .i64 ((k : Nat) : Int)), (16, none, .bool (pr (xs.getD k [])))] [] trivial ?_
   refine brs (pr (xs.getD k [])) (kAt (cAt (bodyOf Tryd.f62) [1, 0, 1, 0, 0]) [1, 1, 0, 0, 1, 1, 0] (.inv (LI 19 [] (idxStr0L xs a c F pr w) k) :: (kEnd (bodyOf Tryd.f62) [1, 0, 1, 0] []))) (kAt (cAt (bodyOf Tryd.f62) [1, 0, 1, 0, 0]) [1, 1, 0, 0, 1, 1, 1] (.inv (LI 19 [] (idxStr0L xs a c F pr w) k) :: (kEnd (bodyOf Tryd.f62) [1, 0, 1, 0] []))) ((pr (xs.getD k [])) = true) (Iff.rfl) (fun h2 => ?_) (fun h2 => ?_)
   · refine sgs 5 [] [0, 1, 4, 7, 8] (kAt (cAt (bodyOf Tryd.f62) [1, 0, 1, 0, 0]) [1, 1, 0, 0, 1, 1, 0, 1] (.inv (LI 19 [] (idxStr0L xs a c F pr w) k) :: (kEnd (bodyOf Tryd.f62) [1, 0, 1, 0] []))) [(0, none, .slice a xs.length c), (1, none, .func (.func F) #[] #[]), (4, none, .int .i64 ((k : Nat) : Int)), (7, none, .int .i64 ((xs.length : Nat) : Int)), (8, none, .int .i64 ((k : Nat) : Int))] [] trivial ?_
     exact retD (hs := []) (vs := [.int .i64 ((k : Nat) : Int)]) (ps := []) (by kernel_rfl) trivial (v := .int .i64 ((k : Nat) : Int)) rfl (⟨by rw [idxI_hit [] hk2 hp h2], hE2⟩)
   · refine sgs 6 [] [0, 1, 7, 8] (.inv (LI 19 [] (idxStr0L xs a c F pr w) k) :: (kEnd (bodyOf Tryd.f62) [1, 0, 1, 0] [])) [(0, none, .slice a xs.length c), (1, none, .func (.func F) #[] #[]), (7, none, .int .i64 ((xs.length : Nat) : Int)), (8, none, .int .i64 ((k + 1 : Nat) : Int))] [(-9223372036854775808 ≤ ((k + 1 : Nat) : Int) ∧ ((k + 1 : Nat) : Int) ≤ 9223372036854775807)] (show (-9223372036854775808 ≤ ((k + 1 : Nat) : Int) ∧ ((k + 1 : Nat) : Int) ≤ 9223372036854775807) from by omega) ?_
     exact again (k + 1) [0, 1, 7, 8] (by kernel_rfl) (⟨hE2, by omega, fun j hj => by by_cases e : j = k; (subst e; simpa using h2); exact hp j (by omega)⟩) (show xs.length - (k + 1) < xs.length - k by omega)
 · refine sgs 5 [] [4] (kAt (bodyOf Tryd.f62) [1, 1, 1] []) [(4, none, .int .i64 (-1 : Int))] [] trivial ?_
   exact retD (hs := []) (vs := [.int .i64 (-1 : Int)]) (ps := []) (by kernel_rfl) trivial (v := .int .i64 (-1 : Int)) rfl (⟨by rw [idxI_miss [] (fun j hj => hp j (by omega))], K1⟩)

set_option maxRecDepth 20000 in
theorem hasNode0 (xs : List PNode) (a : Option Addr) (c : Nat) (F : FuncId) (pr : PNode → Bool) (w : World) (hE : Enters Tryd.prog F) (hF : ∀ k, k < xs.length → ∀ w', Ext w w' → Does Tryd.prog F [.agg #[.string (bs ((xs.getD k d0N).name)), .int .i64 ((xs.getD k d0N).asn)]] w' fun v w2 => v = .bool (pr (xs.getD k d0N)) ∧ Ext w' w2) (hc : Cells w a (xs.flatMap nodeC)) (hl : xs.length ≤ 140737488355328) :
    Does Tryd.prog 49 [.slice a xs.length c, .func (.func F) #[] #[]] w (fun v w' => v = .bool (xs.any pr) ∧ Ext w w') := by
 refine startD (c := (bodyOf Tryd.f49)) Tryd.func49 rfl (by kernel_rfl) ?_
 show G _ 9 [] _ (kAt (bodyOf Tryd.f49) [] []) [(0, none, .slice a xs.length c), (1, none, .func (.func F) #[] #[])] w
 have hE1 : Ext w w := Ext.refl w
 refine sgs 8 [] [4, 5, 6] (kOp (bodyOf Tryd.f49) [1, 0] 2 []) [(4, none, .bool false), (5, none, .slice a xs.length c), (6, none, .func (.func F) #[] #[])] [] trivial ?_
 refine oss [] (.call 29 [.slice a xs.length c, .func (.func F) #[] #[]]) (some 7) (kOp (bodyOf Tryd.f49) [1, 0] 3 []) [] trivial (runs_call E29 (idxNode0 xs a c F pr w hE hF hc hl)) ?_
 rintro _ w1 ⟨rfl, hx⟩
 have hE2 := hE1.trans hx
 refine sgs 3 [] [4] (kAt (bodyOf Tryd.f49) [1, 1] []) [(4, none, .bool (decide ((0 : Int) ≤ idxI pr xs)))] [] trivial ?_
 exact retD (hs := []) (vs := [.bool (decide ((0 : Int) ≤ idxI pr xs))]) (ps := []) (by kernel_rfl) trivial (v := .bool (decide ((0 : Int) ≤ idxI pr xs))) rfl (⟨by rw [idxI_any], hE2⟩)

set_option maxRecDepth 20000 in
theorem hasDest1 (xs : List DA) (a : Option Addr) (c : Nat) (F : FuncId) (b0 : Nat) (pr : DA → Bool) (w : World) (hE : Enters Tryd.prog F) (hF : ∀ k, k < xs.length → ∀ w', Ext w w' → Does Tryd.prog F [.agg #[.string (bs ((xs.getD k d0A).d.name)), .slice (xs.getD k d0A).a ((xs.getD k d0A).d.origins.length) ((xs.getD k d0A).c)], .pointer (some ⟨b0, 0, none⟩)] w' fun v w2 => v = .bool (pr (xs.getD k d0A)) ∧ Ext w' w2) (hc : Cells w a (xs.flatMap destC)) (hl : xs.length ≤ 140737488355328) :
    Does Tryd.prog 42 [.slice a xs.length c, .func (.func F) #[] #[.pointer (some ⟨b0, 0, none⟩)]] w (fun v w' => v = .bool (xs.any pr) ∧ Ext w w') := by
 refine startD (c := (bodyOf Tryd.f42)) Tryd.func42 rfl (by kernel_rfl) ?_
 show G _ 9 [] _ (kAt (bodyOf Tryd.f42) [] []) [(0, none, .slice a xs.length c), (1, none, .func (.func F) #[] #[.pointer (some ⟨b0, 0, none⟩)])] w
 have hE1 : Ext w w := Ext.refl w
 refine sgs 8 [] [4, 5, 6] (kOp (bodyOf Tryd.f42) [1, 0] 2 []) [(4, none, .bool false), (5, none, .slice a xs.length c), (6, none, .func (.func F) #[] #[.pointer (some ⟨b0, 0, none⟩)])] [] trivial ?_
 refine oss [] (.call 31 [.slice a xs.length c, .func (.func F) #[] #[.pointer (some ⟨b0, 0, none⟩)]]) (some 7) (kOp (bodyOf Tryd.f42) [1, 0] 3 []) [] trivial (runs_call E31 (idxDest1 xs a c F b0 pr w hE hF hc hl)) ?_
 rintro _ w1 ⟨rfl, hx⟩
 have hE2 := hE1.trans hx
 refine sgs 3 [] [4] (kAt (bodyOf Tryd.f42) [1, 1] []) [(4, none, .bool (decide ((0 : Int) ≤ idxI pr xs)))] [] trivial ?_
 exact retD (hs := []) (vs := [.bool (decide ((0 : Int) ≤ idxI pr xs))]) (ps := []) (by kernel_rfl) trivial (v := .bool (decide ((0 : Int) ≤ idxI pr xs))) rfl (⟨by rw [idxI_any], hE2⟩)

set_option maxRecDepth 20000 in
theorem hasCheck1 (xs : List PCheck) (a : Option Addr) (c : Nat) (F : FuncId) (b0 : Nat) (pr : PCheck → Bool) (w : World) (hE : Enters Tryd.prog F) (hF : ∀ k, k < xs.length → ∀ w', Ext w w' → Does Tryd.prog F [.agg #[.int .i64 ((xs.getD k d0C).kind), .int .i64 ((xs.getD k d0C).node), .int .i64 ((xs.getD k d0C).dest), .int .i64 ((xs.getD k d0C).limit), .int .i64 ((xs.getD k d0C).other)], .pointer (some ⟨b0, 0, none⟩)] w' fun v w2 => v = .bool (pr (xs.getD k d0C)) ∧ Ext w' w2) (hc : Cells w a (xs.flatMap checkC)) (hl : xs.length ≤ 140737488355328) :
    Does Tryd.prog 43 [.slice a xs.length c, .func (.func F) #[] #[.pointer (some ⟨b0, 0, none⟩)]] w (fun v w' => v = .bool (xs.any pr) ∧ Ext w w') := by
 refine startD (c := (bodyOf Tryd.f43)) Tryd.func43 rfl (by kernel_rfl) ?_
 show G _ 9 [] _ (kAt (bodyOf Tryd.f43) [] []) [(0, none, .slice a xs.length c), (1, none, .func (.func F) #[] #[.pointer (some ⟨b0, 0, none⟩)])] w
 have hE1 : Ext w w := Ext.refl w
 refine sgs 8 [] [4, 5, 6] (kOp (bodyOf Tryd.f43) [1, 0] 2 []) [(4, none, .bool false), (5, none, .slice a xs.length c), (6, none, .func (.func F) #[] #[.pointer (some ⟨b0, 0, none⟩)])] [] trivial ?_
 refine oss [] (.call 56 [.slice a xs.length c, .func (.func F) #[] #[.pointer (some ⟨b0, 0, none⟩)]]) (some 7) (kOp (bodyOf Tryd.f43) [1, 0] 3 []) [] trivial (runs_call E56 (idxCheck1 xs a c F b0 pr w hE hF hc hl)) ?_
 rintro _ w1 ⟨rfl, hx⟩
 have hE2 := hE1.trans hx
 refine sgs 3 [] [4] (kAt (bodyOf Tryd.f43) [1, 1] []) [(4, none, .bool (decide ((0 : Int) ≤ idxI pr xs)))] [] trivial ?_
 exact retD (hs := []) (vs := [.bool (decide ((0 : Int) ≤ idxI pr xs))]) (ps := []) (by kernel_rfl) trivial (v := .bool (decide ((0 : Int) ≤ idxI pr xs))) rfl (⟨by rw [idxI_any], hE2⟩)

set_option maxRecDepth 20000 in
theorem hasStr0 (xs : List Bytes) (a : Option Addr) (c : Nat) (F : FuncId) (pr : Bytes → Bool) (w : World) (hE : Enters Tryd.prog F) (hF : ∀ k, k < xs.length → ∀ w', Ext w w' → Does Tryd.prog F [.string (bs (xs.getD k []))] w' fun v w2 => v = .bool (pr (xs.getD k [])) ∧ Ext w' w2) (hc : Cells w a (xs.flatMap strC)) (hl : xs.length ≤ 140737488355328) :
    Does Tryd.prog 52 [.slice a xs.length c, .func (.func F) #[] #[]] w (fun v w' => v = .bool (xs.any pr) ∧ Ext w w') := by
 refine startD (c := (bodyOf Tryd.f52)) Tryd.func52 rfl (by kernel_rfl) ?_
 show G _ 9 [] _ (kAt (bodyOf Tryd.f52) [] []) [(0, none, .slice a xs.length c), (1, none, .func (.func F) #[] #[])] w
 have hE1 : Ext w w := Ext.refl w
 refine sgs 8 [] [4, 5, 6] (kOp (bodyOf Tryd.f52) [1, 0] 2 []) [(4, none, .bool false), (5, none, .slice a xs.length c), (6, none, .func (.func F) #[] #[])] [] trivial ?_
 refine oss [] (.call 62 [.slice a xs.length c, .func (.func F) #[] #[]]) (some 7) (kOp (bodyOf Tryd.f52) [1, 0] 3 []) [] trivial (runs_call E62 (idxStr0 xs a c F pr w hE hF hc hl)) ?_
 rintro _ w1 ⟨rfl, hx⟩
 have hE2 := hE1.trans hx
 refine sgs 3 [] [4] (kAt (bodyOf Tryd.f52) [1, 1] []) [(4, none, .bool (decide ((0 : Int) ≤ idxI pr xs)))] [] trivial ?_
 exact retD (hs := []) (vs := [.bool (decide ((0 : Int) ≤ idxI pr xs))]) (ps := []) (by kernel_rfl) trivial (v := .bool (decide ((0 : Int) ≤ idxI pr xs))) rfl (⟨by rw [idxI_any], hE2⟩)

def eqNodeL (xs ys : List PNode) (a a' : Option Addr) (c c' : Nat) (w : World) : Lp Nat where
  S := fun k => [(0, none, .slice a xs.length c), (1, none, .slice a' ys.length (c')), (12, none, .int .i64 ((xs.length : Nat) : Int)), (13, none, .int .i64 ((k : Nat) : Int))]
  J := fun k w' => Ext w w' ∧ k ≤ xs.length ∧ ∀ j, j < k → xs.getD j d0N = ys.getD j d0N
  M := fun k => xs.length - k
set_option maxRecDepth 20000 in
theorem eqNode (xs ys : List PNode) (a a' : Option Addr) (c c' : Nat) (w : World) (hc : Cells w a (xs.flatMap nodeC)) (hc' : Cells w a' (ys.flatMap nodeC)) (hl : xs.length ≤ 140737488355328) :
    Does Tryd.prog 25 [.slice a xs.length c, .slice a' ys.length (c')] w (fun v w' => v = .bool (decide (xs = ys)) ∧ Ext w w') := by
 refine startD (c := (bodyOf Tryd.f25)) Tryd.func25 rfl (by kernel_rfl) ?_
 show G _ 26 [] _ (kAt (bodyOf Tryd.f25) [] []) [(0, none, .slice a xs.length c), (1, none, .slice a' ys.length (c'))] w
 have hE1 : Ext w w := Ext.refl w
 refine sgs 13 [] [0, 1, 4, 10] (kAt (bodyOf Tryd.f25) [1, 0, 1] []) [(0, none, .slice a xs.length c), (1, none, .slice a' ys.length (c')), (4, none, .bool false), (10, none, .bool (!(decide (((xs.length : Nat) : Int) = ((ys.length : Nat) : Int)))))] [] trivial ?_
 refine brs (!(decide (((xs.length : Nat) : Int) = ((ys.length : Nat) : Int)))) (kAt (bodyOf Tryd.f25) [1, 0, 1, 0] []) (kAt (bodyOf Tryd.f25) [1, 0, 1, 1] []) (¬ (((xs.length : Nat) : Int) = ((ys.length : Nat) : Int))) ((iffNot iffDec)) (fun h0 => ?_) (fun h0 => ?_)
 · refine sgs 4 [] [0, 1, 4] (kAt (bodyOf Tryd.f25) [1, 0, 1, 0, 1] []) [(0, none, .slice a xs.length c), (1, none, .slice a' ys.length (c')), (4, none, .bool false)] [] trivial ?_
   exact retD (hs := []) (vs := [.bool false]) (ps := []) (by kernel_rfl) trivial (v := .bool false) rfl (⟨by rw [decide_eq_false (fun e => h0 (by rw [e]))], hE1⟩)
 · have h0 : xs.length = ys.length := by omega
   refine sgs 9 [] [0, 1, 4, 12, 13] (kAt (bodyOf Tryd.f25) [1, 1, 0, 1, 0] []) [(0, none, .slice a xs.length c), (1, none, .slice a' ys.length (c')), (4, none, .bool false), (12, none, .int .i64 ((xs.length : Nat) : Int)), (13, none, .int .i64 (0 : Int))] [] trivial ?_
   refine loopR (eqNodeL xs ys a a' c c' w) (k' := (kEnd (bodyOf Tryd.f25) [1, 1, 0, 1, 0] [])) (body := (cAt (bodyOf Tryd.f25) [1, 1, 0, 1, 0, 0])) (by kernel_rfl) 0 [0, 1, 12, 13] (by kernel_rfl) (⟨hE1, by omega, fun j h => by omega⟩) ?_
   rintro k w0 ⟨K1, hk, hp⟩
   refine sgs 5 [] [0, 1, 12, 13, 14] (kAt (cAt (bodyOf Tryd.f25) [1, 1, 0, 1, 0, 0]) [1, 0] (.inv (LI 26 [] (eqNodeL xs ys a a' c c' w) k) :: (kEnd (bodyOf Tryd.f25) [1, 1, 0, 1, 0] []))) [(0, none, .slice a xs.length c), (1, none, .slice a' ys.length (c')), (12, none, .int .i64 ((xs.length : Nat) : Int)), (13, none, .int .i64 ((k : Nat) : Int)), (14, none, .bool (decide (((k : Nat) : Int) < ((xs.length : Nat) : Int))))] [] trivial ?_
   refine brs (decide (((k : Nat) : Int) < ((xs.length : Nat) : Int))) (kAt (cAt (bodyOf Tryd.f25) [1, 1, 0, 1, 0, 0]) [1, 0, 0] (.inv (LI 26 [] (eqNodeL xs ys a a' c c' w) k) :: (kEnd (bodyOf Tryd.f25) [1, 1, 0, 1, 0] []))) (kAt (cAt (bodyOf Tryd.f25) [1, 1, 0, 1, 0, 0]) [1, 0, 1] (.inv (LI 26 [] (eqNodeL xs ys a a' c c' w) k) :: (kEnd (bodyOf Tryd.f25) [1, 1, 0, 1, 0] []))) (((k : Nat) : Int) < ((xs.length : Nat) : Int)) (iffDec) (fun h1 => ?_) (fun h1 => ?_)
   · have hk2 : k < xs.length := by omega
     have hk3 : k < ys.length := by omega
     have ha := hc.addrE nodeC_len (by decide) hk2
     have hb := hc'.addrE nodeC_len (by decide) hk3
     refine sgs 9 [] [0, 1, 5, 12, 13] (kAt (cAt (bodyOf Tryd.f25) [1, 1, 0, 1, 0, 0]) [1, 1, 0, 0, 1, 0] (.inv (LI 26 [] (eqNodeL xs ys a a' c c' w) k) :: (kEnd (bodyOf Tryd.f25) [1, 1, 0, 1, 0] []))) [(0, none, .slice a xs.length c), (1, none, .slice a' ys.length (c')), (5, none, .int .i64 ((k : Nat) : Int)), (12, none, .int .i64 ((xs.length : Nat) : Int)), (13, none, .int .i64 ((k : Nat) : Int))] [] trivial ?_
     refine dBegin (k' := (kAt (cAt (bodyOf Tryd.f25) [1, 1, 0, 1, 0, 0]) [1, 1, 0, 0, 1, 1] (.inv (LI 26 [] (eqNodeL xs ys a a' c c' w) k) :: (kEnd (bodyOf Tryd.f25) [1, 1, 0, 1, 0] [])))) (id := 6) (m := 9) (ops := opsAt (cAt (cAt (bodyOf Tryd.f25) [1, 1, 0, 1, 0, 0]) [1, 1, 0, 0, 1, 0])) (fun w1 => Ext w1) (by kernel_rfl) (PQ.body _ _ _) (by kernel_rfl) (by kernel_rfl) ?_
     intro w2 hx3
     have hE4 := K1.trans hx3
     refine dts [0, 1, 2, 3, 4, 5, 6, 7, 8] [.ld (.agg #[.string (bs ((xs.getD k d0N).name)), .int .i64 ((xs.getD k d0N).asn)]), .ld (.agg #[.string (bs ((ys.getD k d0N).name)), .int .i64 ((ys.getD k d0N).asn)])] [0, 1, 12, 13, 24] 0 (lb 9 511) [(0, none, .slice a xs.length c), (1, none, .slice a' ys.length (c')), (12, none, .int .i64 ((xs.length : Nat) : Int)), (13, none, .int .i64 ((k : Nat) : Int)), (24, none, .bool (!((decide (((xs.getD k d0N).name) = ((ys.getD k d0N).name))) && (decide ((xs.getD k d0N).asn = (ys.getD k d0N).asn)))))] (fun w' => [(0 ≤ ((k : Nat) : Int) ∧ ((k : Nat) : Int) < ((xs.length : Nat) : Int)), (a : Option Addr) = some ⟨(slB a), slO a, none⟩, (w').cell? ⟨(slB a), slO a + k * 2, none⟩ = some (.string (bs ((xs.getD k d0N).name))), (w').cell? ⟨(slB a), slO a + k * 2 + 1, none⟩ = some (.int .i64 ((xs.getD k d0N).asn)), (0 ≤ ((k : Nat) : Int) ∧ ((k : Nat) : Int) < ((ys.length : Nat) : Int)), (a' : Option Addr) = some ⟨(slB a'), slO a', none⟩, (w').cell? ⟨(slB a'), slO a' + k * 2, none⟩ = some (.string (bs ((ys.getD k d0N).name))), (w').cell? ⟨(slB a'), slO a' + k * 2 + 1, none⟩ = some (.int .i64 ((ys.getD k d0N).asn))]) (fun w' hS => ⟨(by omega), (by assumption), (hS.cell (hE4.cell (cellAt nodeC_len d0N hc hk2 (j := 0) rfl))), (hS.cell (hE4.cell (cellAt nodeC_len d0N hc hk2 (j := 1) rfl))), (by omega), (by assumption), (hS.cell (hE4.cell (cellAt nodeC_len d0N hc' hk3 (j := 0) rfl))), (show (w').cell? ⟨(slB a'), slO a' + k * 2 + 1, none⟩ = some (.int .i64 ((ys.getD k d0N).asn)) from hS.cell (hE4.cell (cellAt nodeC_len d0N hc' hk3 (j := 1) rfl)))⟩) (Ext.refl _) ?_
     refine dDone (by kernel_rfl) ?_
     refine brs (!((decide (((xs.getD k d0N).name) = ((ys.getD k d0N).name))) && (decide ((xs.getD k d0N).asn = (ys.getD k d0N).asn)))) (kAt (cAt (bodyOf Tryd.f25) [1, 1, 0, 1, 0, 0]) [1, 1, 0, 0, 1, 1, 0] (.inv (LI 26 [] (eqNodeL xs ys a a' c c' w) k) :: (kEnd (bodyOf Tryd.f25) [1, 1, 0, 1, 0] []))) (kAt (cAt (bodyOf Tryd.f25) [1, 1, 0, 1, 0, 0]) [1, 1, 0, 0, 1, 1, 1] (.inv (LI 26 [] (eqNodeL xs ys a a' c c' w) k) :: (kEnd (bodyOf Tryd.f25) [1, 1, 0, 1, 0] []))) (¬ ((((xs.getD k d0N).name) = ((ys.getD k d0N).name)) ∧ ((xs.getD k d0N).asn = (ys.getD k d0N).asn))) ((iffNot (iffAnd iffDec iffDec))) (fun h2 => ?_) (fun h2 => ?_)
     · have h3 : ¬ (xs.getD k d0N = ys.getD k d0N) := fun e => h2 (by exact nodeEq.1 e)
       refine sgs 4 [] [0, 1, 4, 12, 13] (kAt (cAt (bodyOf Tryd.f25) [1, 1, 0, 1, 0, 0]) [1, 1, 0, 0, 1, 1, 0, 1] (.inv (LI 26 [] (eqNodeL xs ys a a' c c' w) k) :: (kEnd (bodyOf Tryd.f25) [1, 1, 0, 1, 0] []))) [(0, none, .slice a xs.length c), (1, none, .slice a' ys.length (c')), (4, none, .bool false), (12, none, .int .i64 ((xs.length : Nat) : Int)), (13, none, .int .i64 ((k : Nat) : Int))] [] trivial ?_
       exact retD (hs := []) (vs := [.bool false]) (ps := []) (by kernel_rfl) trivial (v := .bool false) rfl (⟨by rw [decide_eq_false (fun e => h3 (by rw [e]))], hE4⟩)
     · have h3 : xs.getD k d0N = ys.getD k d0N := by have h4 := Classical.not_not.1 h2; exact nodeEq.2 h4
       refine sgs 6 [] [0, 1, 12, 13] (.inv (LI 26 [] (eqNodeL xs ys a a' c c' w) k) :: (kEnd (bodyOf Tryd.f25) [1, 1, 0, 1, 0] [])) [(0, none, .slice a xs.length c), (1, none, .slice a' ys.length (c')), (12, none, .int .i64 ((xs.length : Nat) : Int)), (13, none, .int .i64 ((k + 1 : Nat) : Int))] [(-9223372036854775808 ≤ ((k + 1 : Nat) : Int) ∧ ((k + 1 : Nat) : Int) ≤ 9223372036854775807)] (show (-9223372036854775808 ≤ ((k + 1 : Nat) : Int) ∧ ((k + 1 : Nat) : Int) ≤ 9223372036854775807) from by omega) ?_
       exact again (k + 1) [0, 1, 12, 13] (by kernel_rfl) (⟨hE4, by omega, fun j hj => by by_cases e : j = k; (subst e; exact h3); exact hp j (by omega)⟩) (show xs.length - (k + 1) < xs.length - k by omega)
   · refine sgs 5 [] [4] (kAt (bodyOf Tryd.f25) [1, 1, 1, 1] []) [(4, none, .bool true)] [] trivial ?_
     exact retD (hs := []) (vs := [.bool true]) (ps := []) (by kernel_rfl) trivial (v := .bool true) rfl (⟨by rw [decide_eq_true (eq_of_getD d0N h0 (fun j hj => hp j (by omega)))], K1⟩)

def eqLinkL (xs ys : List PLink) (a a' : Option Addr) (c c' : Nat) (w : World) : Lp Nat where
  S := fun k => [(0, none, .slice a xs.length c), (1, none, .slice a' ys.length (c')), (12, none, .int .i64 ((xs.length : Nat) : Int)), (13, none, .int .i64 ((k : Nat) : Int))]
  J := fun k w' => Ext w w' ∧ k ≤ xs.length ∧ ∀ j, j < k → xs.getD j d0L = ys.getD j d0L
  M := fun k => xs.length - k
set_option maxRecDepth 20000 in
theorem eqLink (xs ys : List PLink) (a a' : Option Addr) (c c' : Nat) (w : World) (hc : Cells w a (xs.flatMap linkC)) (hc' : Cells w a' (ys.flatMap linkC)) (hl : xs.length ≤ 140737488355328) :
    Does Tryd.prog 26 [.slice a xs.length c, .slice a' ys.length (c')] w (fun v w' => v = .bool (decide (xs = ys)) ∧ Ext w w') := by
 refine startD (c := (bodyOf Tryd.f26)) Tryd.func26 rfl (by kernel_rfl) ?_
 show G _ 26 [] _ (kAt (bodyOf Tryd.f26) [] []) [(0, none, .slice a xs.length c), (1, none, .slice a' ys.length (c'))] w
 have hE1 : Ext w w := Ext.refl w
 refine sgs 13 [] [0, 1, 4, 10] (kAt (bodyOf Tryd.f26) [1, 0, 1] []) [(0, none, .slice a xs.length c), (1, none, .slice a' ys.length (c')), (4, none, .bool false), (10, none, .bool (!(decide (((xs.length : Nat) : Int) = ((ys.length : Nat) : Int)))))] [] trivial ?_
 refine brs (!(decide (((xs.length : Nat) : Int) = ((ys.length : Nat) : Int)))) (kAt (bodyOf Tryd.f26) [1, 0, 1, 0] []) (kAt (bodyOf Tryd.f26) [1, 0, 1, 1] []) (¬ (((xs.length : Nat) : Int) = ((ys.length : Nat) : Int))) ((iffNot iffDec)) (fun h0 => ?_) (fun h0 => ?_)
 · refine sgs 4 [] [0, 1, 4] (kAt (bodyOf Tryd.f26) [1, 0, 1, 0, 1] []) [(0, none, .slice a xs.length c), (1, none, .slice a' ys.length (c')), (4, none, .bool false)] [] trivial ?_
   exact retD (hs := []) (vs := [.bool false]) (ps := []) (by kernel_rfl) trivial (v := .bool false) rfl (⟨by rw [decide_eq_false (fun e => h0 (by rw [e]))], hE1⟩)
 · have h0 : xs.length = ys.length := by omega
   refine sgs 9 [] [0, 1, 4, 12, 13] (kAt (bodyOf Tryd.f26) [1, 1, 0, 1, 0] []) [(0, none, .slice a xs.length c), (1, none, .slice a' ys.length (c')), (4, none, .bool false), (12, none, .int .i64 ((xs.length : Nat) : Int)), (13, none, .int .i64 (0 : Int))] [] trivial ?_
   refine loopR (eqLinkL xs ys a a' c c' w) (k' := (kEnd (bodyOf Tryd.f26) [1, 1, 0, 1, 0] [])) (body := (cAt (bodyOf Tryd.f26) [1, 1, 0, 1, 0, 0])) (by kernel_rfl) 0 [0, 1, 12, 13] (by kernel_rfl) (⟨hE1, by omega, fun j h => by omega⟩) ?_
   rintro k w0 ⟨K1, hk, hp⟩
   refine sgs 5 [] [0, 1, 12, 13, 14] (kAt (cAt (bodyOf Tryd.f26) [1, 1, 0, 1, 0, 0]) [1, 0] (.inv (LI 26 [] (eqLinkL xs ys a a' c c' w) k) :: (kEnd (bodyOf Tryd.f26) [1, 1, 0, 1, 0] []))) [(0, none, .slice a xs.length c), (1, none, .slice a' ys.length (c')), (12, none, .int .i64 ((xs.length : Nat) : Int)), (13, none, .int .i64 ((k : Nat) : Int)), (14, none, .bool (decide (((k : Nat) : Int) < ((xs.length : Nat) : Int))))] [] trivial ?_
   refine brs (decide (((k : Nat) : Int) < ((xs.length : Nat) : Int))) (kAt (cAt (bodyOf Tryd.f26) [1, 1, 0, 1, 0, 0]) [1, 0, 0] (.inv (LI 26 [] (eqLinkL xs ys a a' c c' w) k) :: (kEnd (bodyOf Tryd.f26) [1, 1, 0, 1, 0] []))) (kAt (cAt (bodyOf Tryd.f26) [1, 1, 0, 1, 0, 0]) [1, 0, 1] (.inv (LI 26 [] (eqLinkL xs ys a a' c c' w) k) :: (kEnd (bodyOf Tryd.f26) [1, 1, 0, 1, 0] []))) (((k : Nat) : Int) < ((xs.length : Nat) : Int)) (iffDec) (fun h1 => ?_) (fun h1 => ?_)
   · have hk2 : k < xs.length := by omega
     have hk3 : k < ys.length := by omega
     have ha := hc.addrE linkC_len (by decide) hk2
     have hb := hc'.addrE linkC_len (by decide) hk3
     refine sgs 9 [] [0, 1, 5, 12, 13] (kAt (cAt (bodyOf Tryd.f26) [1, 1, 0, 1, 0, 0]) [1, 1, 0, 0, 1, 0] (.inv (LI 26 [] (eqLinkL xs ys a a' c c' w) k) :: (kEnd (bodyOf Tryd.f26) [1, 1, 0, 1, 0] []))) [(0, none, .slice a xs.length c), (1, none, .slice a' ys.length (c')), (5, none, .int .i64 ((k : Nat) : Int)), (12, none, .int .i64 ((xs.length : Nat) : Int)), (13, none, .int .i64 ((k : Nat) : Int))] [] trivial ?_
     refine dBegin (k' := (kAt (cAt (bodyOf Tryd.f26) [1, 1, 0, 1, 0, 0]) [1, 1, 0, 0, 1, 1] (.inv (LI 26 [] (eqLinkL xs ys a a' c c' w) k) :: (kEnd (bodyOf Tryd.f26) [1, 1, 0, 1, 0] [])))) (id := 6) (m := 9) (ops := opsAt (cAt (cAt (bodyOf Tryd.f26) [1, 1, 0, 1, 0, 0]) [1, 1, 0, 0, 1, 0])) (fun w1 => Ext w1) (by kernel_rfl) (PQ.body _ _ _) (by kernel_rfl) (by kernel_rfl) ?_
     intro w2 hx3
     have hE4 := K1.trans hx3
     refine dts [0, 1, 2, 3, 4, 5, 6, 7, 8] [.ld (.agg #[.int .i64 ((xs.getD k d0L).a), .int .i64 ((xs.getD k d0L).b), .int .i64 ((xs.getD k d0L).cost)]), .ld (.agg #[.int .i64 ((ys.getD k d0L).a), .int .i64 ((ys.getD k d0L).b), .int .i64 ((ys.getD k d0L).cost)])] [0, 1, 12, 13, 24] 0 (lb 9 511) [(0, none, .slice a xs.length c), (1, none, .slice a' ys.length (c')), (12, none, .int .i64 ((xs.length : Nat) : Int)), (13, none, .int .i64 ((k : Nat) : Int)), (24, none, .bool (!((decide ((xs.getD k d0L).a = (ys.getD k d0L).a)) && ((decide ((xs.getD k d0L).b = (ys.getD k d0L).b)) && (decide ((xs.getD k d0L).cost = (ys.getD k d0L).cost))))))] (fun w' => [(0 ≤ ((k : Nat) : Int) ∧ ((k : Nat) : Int) < ((xs.length : Nat) : Int)), (a : Option Addr) = some ⟨(slB a), slO a, none⟩, (w').cell? ⟨(slB a), slO a + k * 3, none⟩ = some (.int .i64 ((xs.getD k d0L).a)), (w').cell? ⟨(slB a), slO a + k * 3 + 1, none⟩ = some (.int .i64 ((xs.getD k d0L).b)), (w').cell? ⟨(slB a), slO a + k * 3 + 2, none⟩ = some (.int .i64 ((xs.getD k d0L).cost)), (0 ≤ ((k : Nat) : Int) ∧ ((k : Nat) : Int) < ((ys.length : Nat) : Int)), (a' : Option Addr) = some ⟨(slB a'), slO a', none⟩, (w').cell? ⟨(slB a'), slO a' + k * 3, none⟩ = some (.int .i64 ((ys.getD k d0L).a)), (w').cell? ⟨(slB a'), slO a' + k * 3 + 1, none⟩ = some (.int .i64 ((ys.getD k d0L).b)), (w').cell? ⟨(slB a'), slO a' + k * 3 + 2, none⟩ = some (.int .i64 ((ys.getD k d0L).cost))]) (fun w' hS => ⟨(by omega), (by assumption), (hS.cell (hE4.cell (cellAt linkC_len d0L hc hk2 (j := 0) rfl))), (hS.cell (hE4.cell (cellAt linkC_len d0L hc hk2 (j := 1) rfl))), (hS.cell (hE4.cell (cellAt linkC_len d0L hc hk2 (j := 2) rfl))), (by omega), (by assumption), (hS.cell (hE4.cell (cellAt linkC_len d0L hc' hk3 (j := 0) rfl))), (hS.cell (hE4.cell (cellAt linkC_len d0L hc' hk3 (j := 1) rfl))), (show (w').cell? ⟨(slB a'), slO a' + k * 3 + 2, none⟩ = some (.int .i64 ((ys.getD k d0L).cost)) from hS.cell (hE4.cell (cellAt linkC_len d0L hc' hk3 (j := 2) rfl)))⟩) (Ext.refl _) ?_
     refine dDone (by kernel_rfl) ?_
     refine brs (!((decide ((xs.getD k d0L).a = (ys.getD k d0L).a)) && ((decide ((xs.getD k d0L).b = (ys.getD k d0L).b)) && (decide ((xs.getD k d0L).cost = (ys.getD k d0L).cost))))) (kAt (cAt (bodyOf Tryd.f26) [1, 1, 0, 1, 0, 0]) [1, 1, 0, 0, 1, 1, 0] (.inv (LI 26 [] (eqLinkL xs ys a a' c c' w) k) :: (kEnd (bodyOf Tryd.f26) [1, 1, 0, 1, 0] []))) (kAt (cAt (bodyOf Tryd.f26) [1, 1, 0, 1, 0, 0]) [1, 1, 0, 0, 1, 1, 1] (.inv (LI 26 [] (eqLinkL xs ys a a' c c' w) k) :: (kEnd (bodyOf Tryd.f26) [1, 1, 0, 1, 0] []))) (¬ (((xs.getD k d0L).a = (ys.getD k d0L).a) ∧ (((xs.getD k d0L).b = (ys.getD k d0L).b) ∧ ((xs.getD k d0L).cost = (ys.getD k d0L).cost)))) ((iffNot (iffAnd iffDec (iffAnd iffDec iffDec)))) (fun h2 => ?_) (fun h2 => ?_)
     · have h3 : ¬ (xs.getD k d0L = ys.getD k d0L) := fun e => h2 (by exact linkEq.1 e)
       refine sgs 4 [] [0, 1, 4, 12, 13] (kAt (cAt (bodyOf Tryd.f26) [1, 1, 0, 1, 0, 0]) [1, 1, 0, 0, 1, 1, 0, 1] (.inv (LI 26 [] (eqLinkL xs ys a a' c c' w) k) :: (kEnd (bodyOf Tryd.f26) [1, 1, 0, 1, 0] []))) [(0, none, .slice a xs.length c), (1, none, .slice a' ys.length (c')), (4, none, .bool false), (12, none, .int .i64 ((xs.length : Nat) : Int)), (13, none, .int .i64 ((k : Nat) : Int))] [] trivial ?_
       exact retD (hs := []) (vs := [.bool false]) (ps := []) (by kernel_rfl) trivial (v := .bool false) rfl (⟨by rw [decide_eq_false (fun e => h3 (by rw [e]))], hE4⟩)
     · have h3 : xs.getD k d0L = ys.getD k d0L := by have h4 := Classical.not_not.1 h2; exact linkEq.2 h4
       refine sgs 6 [] [0, 1, 12, 13] (.inv (LI 26 [] (eqLinkL xs ys a a' c c' w) k) :: (kEnd (bodyOf Tryd.f26) [1, 1, 0, 1, 0] [])) [(0, none, .slice a xs.length c), (1, none, .slice a' ys.length (c')), (12, none, .int .i64 ((xs.length : Nat) : Int)), (13, none, .int .i64 ((k + 1 : Nat) : Int))] [(-9223372036854775808 ≤ ((k + 1 : Nat) : Int) ∧ ((k + 1 : Nat) : Int) ≤ 9223372036854775807)] (show (-9223372036854775808 ≤ ((k + 1 : Nat) : Int) ∧ ((k + 1 : Nat) : Int) ≤ 9223372036854775807) from by omega) ?_
       exact again (k + 1) [0, 1, 12, 13] (by kernel_rfl) (⟨hE4, by omega, fun j hj => by by_cases e : j = k; (subst e; exact h3); exact hp j (by omega)⟩) (show xs.length - (k + 1) < xs.length - k by omega)
   · refine sgs 5 [] [4] (kAt (bodyOf Tryd.f26) [1, 1, 1, 1] []) [(4, none, .bool true)] [] trivial ?_
     exact retD (hs := []) (vs := [.bool true]) (ps := []) (by kernel_rfl) trivial (v := .bool true) rfl (⟨by rw [decide_eq_true (eq_of_getD d0L h0 (fun j hj => hp j (by omega)))], K1⟩)

def eqCheckL (xs ys : List PCheck) (a a' : Option Addr) (c c' : Nat) (w : World) : Lp Nat where
  S := fun k => [(0, none, .slice a xs.length c), (1, none, .slice a' ys.length (c')), (12, none, .int .i64 ((xs.length : Nat) : Int)), (13, none, .int .i64 ((k : Nat) : Int))]
  J := fun k w' => Ext w w' ∧ k ≤ xs.length ∧ ∀ j, j < k → xs.getD j d0C = ys.getD j d0C
  M := fun k => xs.length - k
set_option maxRecDepth 20000 in
theorem eqCheck (xs ys : List PCheck) (a a' : Option Addr) (c c' : Nat) (w : World) (hc : Cells w a (xs.flatMap checkC)) (hc' : Cells w a' (ys.flatMap checkC)) (hl : xs.length ≤ 140737488355328) :
    Does Tryd.prog 28 [.slice a xs.length c, .slice a' ys.length (c')] w (fun v w' => v = .bool (decide (xs = ys)) ∧ Ext w w') := by
 refine startD (c := (bodyOf Tryd.f28)) Tryd.func28 rfl (by kernel_rfl) ?_
 show G _ 26 [] _ (kAt (bodyOf Tryd.f28) [] []) [(0, none, .slice a xs.length c), (1, none, .slice a' ys.length (c'))] w
 have hE1 : Ext w w := Ext.refl w
 refine sgs 13 [] [0, 1, 4, 10] (kAt (bodyOf Tryd.f28) [1, 0, 1] []) [(0, none, .slice a xs.length c), (1, none, .slice a' ys.length (c')), (4, none, .bool false), (10, none, .bool (!(decide (((xs.length : Nat) : Int) = ((ys.length : Nat) : Int)))))] [] trivial ?_
 refine brs (!(decide (((xs.length : Nat) : Int) = ((ys.length : Nat) : Int)))) (kAt (bodyOf Tryd.f28) [1, 0, 1, 0] []) (kAt (bodyOf Tryd.f28) [1, 0, 1, 1] []) (¬ (((xs.length : Nat) : Int) = ((ys.length : Nat) : Int))) ((iffNot iffDec)) (fun h0 => ?_) (fun h0 => ?_)
 · refine sgs 4 [] [0, 1, 4] (kAt (bodyOf Tryd.f28) [1, 0, 1, 0, 1] []) [(0, none, .slice a xs.length c), (1, none, .slice a' ys.length (c')), (4, none, .bool false)] [] trivial ?_
   exact retD (hs := []) (vs := [.bool false]) (ps := []) (by kernel_rfl) trivial (v := .bool false) rfl (⟨by rw [decide_eq_false (fun e => h0 (by rw [e]))], hE1⟩)
 · have h0 : xs.length = ys.length := by omega
   refine sgs 9 [] [0, 1, 4, 12, 13] (kAt (bodyOf Tryd.f28) [1, 1, 0, 1, 0] []) [(0, none, .slice a xs.length c), (1, none, .slice a' ys.length (c')), (4, none, .bool false), (12, none, .int .i64 ((xs.length : Nat) : Int)), (13, none, .int .i64 (0 : Int))] [] trivial ?_
   refine loopR (eqCheckL xs ys a a' c c' w) (k' := (kEnd (bodyOf Tryd.f28) [1, 1, 0, 1, 0] [])) (body := (cAt (bodyOf Tryd.f28) [1, 1, 0, 1, 0, 0])) (by kernel_rfl) 0 [0, 1, 12, 13] (by kernel_rfl) (⟨hE1, by omega, fun j h => by omega⟩) ?_
   rintro k w0 ⟨K1, hk, hp⟩
   refine sgs 5 [] [0, 1, 12, 13, 14] (kAt (cAt (bodyOf Tryd.f28) [1, 1, 0, 1, 0, 0]) [1, 0] (.inv (LI 26 [] (eqCheckL xs ys a a' c c' w) k) :: (kEnd (bodyOf Tryd.f28) [1, 1, 0, 1, 0] []))) [(0, none, .slice a xs.length c), (1, none, .slice a' ys.length (c')), (12, none, .int .i64 ((xs.length : Nat) : Int)), (13, none, .int .i64 ((k : Nat) : Int)), (14, none, .bool (decide (((k : Nat) : Int) < ((xs.length : Nat) : Int))))] [] trivial ?_
   refine brs (decide (((k : Nat) : Int) < ((xs.length : Nat) : Int))) (kAt (cAt (bodyOf Tryd.f28) [1, 1, 0, 1, 0, 0]) [1, 0, 0] (.inv (LI 26 [] (eqCheckL xs ys a a' c c' w) k) :: (kEnd (bodyOf Tryd.f28) [1, 1, 0, 1, 0] []))) (kAt (cAt (bodyOf Tryd.f28) [1, 1, 0, 1, 0, 0]) [1, 0, 1] (.inv (LI 26 [] (eqCheckL xs ys a a' c c' w) k) :: (kEnd (bodyOf Tryd.f28) [1, 1, 0, 1, 0] []))) (((k : Nat) : Int) < ((xs.length : Nat) : Int)) (iffDec) (fun h1 => ?_) (fun h1 => ?_)
   · have hk2 : k < xs.length := by omega
     have hk3 : k < ys.length := by omega
     have ha := hc.addrE checkC_len (by decide) hk2
     have hb := hc'.addrE checkC_len (by decide) hk3
     refine sgs 9 [] [0, 1, 5, 12, 13] (kAt (cAt (bodyOf Tryd.f28) [1, 1, 0, 1, 0, 0]) [1, 1, 0, 0, 1, 0] (.inv (LI 26 [] (eqCheckL xs ys a a' c c' w) k) :: (kEnd (bodyOf Tryd.f28) [1, 1, 0, 1, 0] []))) [(0, none, .slice a xs.length c), (1, none, .slice a' ys.length (c')), (5, none, .int .i64 ((k : Nat) : Int)), (12, none, .int .i64 ((xs.length : Nat) : Int)), (13, none, .int .i64 ((k : Nat) : Int))] [] trivial ?_
     refine dBegin (k' := (kAt (cAt (bodyOf Tryd.f28) [1, 1, 0, 1, 0, 0]) [1, 1, 0, 0, 1, 1] (.inv (LI 26 [] (eqCheckL xs ys a a' c c' w) k) :: (kEnd (bodyOf Tryd.f28) [1, 1, 0, 1, 0] [])))) (id := 6) (m := 9) (ops := opsAt (cAt (cAt (bodyOf Tryd.f28) [1, 1, 0, 1, 0, 0]) [1, 1, 0, 0, 1, 0])) (fun w1 => Ext w1) (by kernel_rfl) (PQ.body _ _ _) (by kernel_rfl) (by kernel_rfl) ?_
     intro w2 hx3
     have hE4 := K1.trans hx3
     refine dts [0, 1, 2, 3, 4, 5, 6, 7, 8] [.ld (.agg #[.int .i64 ((xs.getD k d0C).kind), .int .i64 ((xs.getD k d0C).node), .int .i64 ((xs.getD k d0C).dest), .int .i64 ((xs.getD k d0C).limit), .int .i64 ((xs.getD k d0C).other)]), .ld (.agg #[.int .i64 ((ys.getD k d0C).kind), .int .i64 ((ys.getD k d0C).node), .int .i64 ((ys.getD k d0C).dest), .int .i64 ((ys.getD k d0C).limit), .int .i64 ((ys.getD k d0C).other)])] [0, 1, 12, 13, 24] 0 (lb 9 511) [(0, none, .slice a xs.length c), (1, none, .slice a' ys.length (c')), (12, none, .int .i64 ((xs.length : Nat) : Int)), (13, none, .int .i64 ((k : Nat) : Int)), (24, none, .bool (!((decide ((xs.getD k d0C).kind = (ys.getD k d0C).kind)) && ((decide ((xs.getD k d0C).node = (ys.getD k d0C).node)) && ((decide ((xs.getD k d0C).dest = (ys.getD k d0C).dest)) && ((decide ((xs.getD k d0C).limit = (ys.getD k d0C).limit)) && (decide ((xs.getD k d0C).other = (ys.getD k d0C).other))))))))] (fun w' => [(0 ≤ ((k : Nat) : Int) ∧ ((k : Nat) : Int) < ((xs.length : Nat) : Int)), (a : Option Addr) = some ⟨(slB a), slO a, none⟩, (w').cell? ⟨(slB a), slO a + k * 5, none⟩ = some (.int .i64 ((xs.getD k d0C).kind)), (w').cell? ⟨(slB a), slO a + k * 5 + 1, none⟩ = some (.int .i64 ((xs.getD k d0C).node)), (w').cell? ⟨(slB a), slO a + k * 5 + 2, none⟩ = some (.int .i64 ((xs.getD k d0C).dest)), (w').cell? ⟨(slB a), slO a + k * 5 + 3, none⟩ = some (.int .i64 ((xs.getD k d0C).limit)), (w').cell? ⟨(slB a), slO a + k * 5 + 4, none⟩ = some (.int .i64 ((xs.getD k d0C).other)), (0 ≤ ((k : Nat) : Int) ∧ ((k : Nat) : Int) < ((ys.length : Nat) : Int)), (a' : Option Addr) = some ⟨(slB a'), slO a', none⟩, (w').cell? ⟨(slB a'), slO a' + k * 5, none⟩ = some (.int .i64 ((ys.getD k d0C).kind)), (w').cell? ⟨(slB a'), slO a' + k * 5 + 1, none⟩ = some (.int .i64 ((ys.getD k d0C).node)), (w').cell? ⟨(slB a'), slO a' + k * 5 + 2, none⟩ = some (.int .i64 ((ys.getD k d0C).dest)), (w').cell? ⟨(slB a'), slO a' + k * 5 + 3, none⟩ = some (.int .i64 ((ys.getD k d0C).limit)), (w').cell? ⟨(slB a'), slO a' + k * 5 + 4, none⟩ = some (.int .i64 ((ys.getD k d0C).other))]) (fun w' hS => ⟨(by omega), (by assumption), (hS.cell (hE4.cell (cellAt checkC_len d0C hc hk2 (j := 0) rfl))), (hS.cell (hE4.cell (cellAt checkC_len d0C hc hk2 (j := 1) rfl))), (hS.cell (hE4.cell (cellAt checkC_len d0C hc hk2 (j := 2) rfl))), (hS.cell (hE4.cell (cellAt checkC_len d0C hc hk2 (j := 3) rfl))), (hS.cell (hE4.cell (cellAt checkC_len d0C hc hk2 (j := 4) rfl))), (by omega), (by assumption), (hS.cell (hE4.cell (cellAt checkC_len d0C hc' hk3 (j := 0) rfl))), (hS.cell (hE4.cell (cellAt checkC_len d0C hc' hk3 (j := 1) rfl))), (hS.cell (hE4.cell (cellAt checkC_len d0C hc' hk3 (j := 2) rfl))), (hS.cell (hE4.cell (cellAt checkC_len d0C hc' hk3 (j := 3) rfl))), (show (w').cell? ⟨(slB a'), slO a' + k * 5 + 4, none⟩ = some (.int .i64 ((ys.getD k d0C).other)) from hS.cell (hE4.cell (cellAt checkC_len d0C hc' hk3 (j := 4) rfl)))⟩) (Ext.refl _) ?_
     refine dDone (by kernel_rfl) ?_
     refine brs (!((decide ((xs.getD k d0C).kind = (ys.getD k d0C).kind)) && ((decide ((xs.getD k d0C).node = (ys.getD k d0C).node)) && ((decide ((xs.getD k d0C).dest = (ys.getD k d0C).dest)) && ((decide ((xs.getD k d0C).limit = (ys.getD k d0C).limit)) && (decide ((xs.getD k d0C).other = (ys.getD k d0C).other))))))) (kAt (cAt (bodyOf Tryd.f28) [1, 1, 0, 1, 0, 0]) [1, 1, 0, 0, 1, 1, 0] (.inv (LI 26 [] (eqCheckL xs ys a a' c c' w) k) :: (kEnd (bodyOf Tryd.f28) [1, 1, 0, 1, 0] []))) (kAt (cAt (bodyOf Tryd.f28) [1, 1, 0, 1, 0, 0]) [1, 1, 0, 0, 1, 1, 1] (.inv (LI 26 [] (eqCheckL xs ys a a' c c' w) k) :: (kEnd (bodyOf Tryd.f28) [1, 1, 0, 1, 0] []))) (¬ (((xs.getD k d0C).kind = (ys.getD k d0C).kind) ∧ (((xs.getD k d0C).node = (ys.getD k d0C).node) ∧ (((xs.getD k d0C).dest = (ys.getD k d0C).dest) ∧ (((xs.getD k d0C).limit = (ys.getD k d0C).limit) ∧ ((xs.getD k d0C).other = (ys.getD k d0C).other)))))) ((iffNot (iffAnd iffDec (iffAnd iffDec (iffAnd iffDec (iffAnd iffDec iffDec)))))) (fun h2 => ?_) (fun h2 => ?_)
     · have h3 : ¬ (xs.getD k d0C = ys.getD k d0C) := fun e => h2 (by exact checkEq.1 e)
       refine sgs 4 [] [0, 1, 4, 12, 13] (kAt (cAt (bodyOf Tryd.f28) [1, 1, 0, 1, 0, 0]) [1, 1, 0, 0, 1, 1, 0, 1] (.inv (LI 26 [] (eqCheckL xs ys a a' c c' w) k) :: (kEnd (bodyOf Tryd.f28) [1, 1, 0, 1, 0] []))) [(0, none, .slice a xs.length c), (1, none, .slice a' ys.length (c')), (4, none, .bool false), (12, none, .int .i64 ((xs.length : Nat) : Int)), (13, none, .int .i64 ((k : Nat) : Int))] [] trivial ?_
       exact retD (hs := []) (vs := [.bool false]) (ps := []) (by kernel_rfl) trivial (v := .bool false) rfl (⟨by rw [decide_eq_false (fun e => h3 (by rw [e]))], hE4⟩)
     · have h3 : xs.getD k d0C = ys.getD k d0C := by have h4 := Classical.not_not.1 h2; exact checkEq.2 h4
       refine sgs 6 [] [0, 1, 12, 13] (.inv (LI 26 [] (eqCheckL xs ys a a' c c' w) k) :: (kEnd (bodyOf Tryd.f28) [1, 1, 0, 1, 0] [])) [(0, none, .slice a xs.length c), (1, none, .slice a' ys.length (c')), (12, none, .int .i64 ((xs.length : Nat) : Int)), (13, none, .int .i64 ((k + 1 : Nat) : Int))] [(-9223372036854775808 ≤ ((k + 1 : Nat) : Int) ∧ ((k + 1 : Nat) : Int) ≤ 9223372036854775807)] (show (-9223372036854775808 ≤ ((k + 1 : Nat) : Int) ∧ ((k + 1 : Nat) : Int) ≤ 9223372036854775807) from by omega) ?_
       exact again (k + 1) [0, 1, 12, 13] (by kernel_rfl) (⟨hE4, by omega, fun j hj => by by_cases e : j = k; (subst e; exact h3); exact hp j (by omega)⟩) (show xs.length - (k + 1) < xs.length - k by omega)
   · refine sgs 5 [] [4] (kAt (bodyOf Tryd.f28) [1, 1, 1, 1] []) [(4, none, .bool true)] [] trivial ?_
     exact retD (hs := []) (vs := [.bool true]) (ps := []) (by kernel_rfl) trivial (v := .bool true) rfl (⟨by rw [decide_eq_true (eq_of_getD d0C h0 (fun j hj => hp j (by omega)))], K1⟩)

def eqIntL (xs ys : List Int) (a a' : Option Addr) (c c' : Nat) (w : World) : Lp Nat where
  S := fun k => [(0, none, .slice a xs.length c), (1, none, .slice a' ys.length (c')), (12, none, .int .i64 ((xs.length : Nat) : Int)), (13, none, .int .i64 ((k : Nat) : Int))]
  J := fun k w' => Ext w w' ∧ k ≤ xs.length ∧ ∀ j, j < k → xs.getD j 0 = ys.getD j 0
  M := fun k => xs.length - k
set_option maxRecDepth 20000 in
theorem eqInt (xs ys : List Int) (a a' : Option Addr) (c c' : Nat) (w : World) (hc : Cells w a (xs.flatMap intCells)) (hc' : Cells w a' (ys.flatMap intCells)) (hl : xs.length ≤ 140737488355328) :
    Does Tryd.prog 24 [.slice a xs.length c, .slice a' ys.length (c')] w (fun v w' => v = .bool (decide (xs = ys)) ∧ Ext w w') := by
 refine startD (c := (bodyOf Tryd.f24)) Tryd.func24 rfl (by kernel_rfl) ?_
 show G _ 26 [] _ (kAt (bodyOf Tryd.f24) [] []) [(0, none, .slice a xs.length c), (1, none, .slice a' ys.length (c'))] w
 have hE1 : Ext w w := Ext.refl w
 refine sgs 13 [] [0, 1, 4, 10] (kAt (bodyOf Tryd.f24) [1, 0, 1] []) [(0, none, .slice a xs.length c), (1, none, .slice a' ys.length (c')), (4, none, .bool false), (10, none, .bool (!(decide (((xs.length : Nat) : Int) = ((ys.length : Nat) : Int)))))] [] trivial ?_
 refine brs (!(decide (((xs.length : Nat) : Int) = ((ys.length : Nat) : Int)))) (kAt (bodyOf Tryd.f24) [1, 0, 1, 0] []) (kAt (bodyOf Tryd.f24) [1, 0, 1, 1] []) (¬ (((xs.length : Nat) : Int) = ((ys.length : Nat) : Int))) ((iffNot iffDec)) (fun h0 => ?_) (fun h0 => ?_)
 · refine sgs 4 [] [0, 1, 4] (kAt (bodyOf Tryd.f24) [1, 0, 1, 0, 1] []) [(0, none, .slice a xs.length c), (1, none, .slice a' ys.length (c')), (4, none, .bool false)] [] trivial ?_
   exact retD (hs := []) (vs := [.bool false]) (ps := []) (by kernel_rfl) trivial (v := .bool false) rfl (⟨by rw [decide_eq_false (fun e => h0 (by rw [e]))], hE1⟩)
 · have h0 : xs.length = ys.length := by omega
   refine sgs 9 [] [0, 1, 4, 12, 13] (kAt (bodyOf Tryd.f24) [1, 1, 0, 1, 0] []) [(0, none, .slice a xs.length c), (1, none, .slice a' ys.length (c')), (4, none, .bool false), (12, none, .int .i64 ((xs.length : Nat) : Int)), (13, none, .int .i64 (0 : Int))] [] trivial ?_
   refine loopR (eqIntL xs ys a a' c c' w) (k' := (kEnd (bodyOf Tryd.f24) [1, 1, 0, 1, 0] [])) (body := (cAt (bodyOf Tryd.f24) [1, 1, 0, 1, 0, 0])) (by kernel_rfl) 0 [0, 1, 12, 13] (by kernel_rfl) (⟨hE1, by omega, fun j h => by omega⟩) ?_
   rintro k w0 ⟨K1, hk, hp⟩
   refine sgs 5 [] [0, 1, 12, 13, 14] (kAt (cAt (bodyOf Tryd.f24) [1, 1, 0, 1, 0, 0]) [1, 0] (.inv (LI 26 [] (eqIntL xs ys a a' c c' w) k) :: (kEnd (bodyOf Tryd.f24) [1, 1, 0, 1, 0] []))) [(0, none, .slice a xs.length c), (1, none, .slice a' ys.length (c')), (12, none, .int .i64 ((xs.length : Nat) : Int)), (13, none, .int .i64 ((k : Nat) : Int)), (14, none, .bool (decide (((k : Nat) : Int) < ((xs.length : Nat) : Int))))] [] trivial ?_
   refine brs (decide (((k : Nat) : Int) < ((xs.length : Nat) : Int))) (kAt (cAt (bodyOf Tryd.f24) [1, 1, 0, 1, 0, 0]) [1, 0, 0] (.inv (LI 26 [] (eqIntL xs ys a a' c c' w) k) :: (kEnd (bodyOf Tryd.f24) [1, 1, 0, 1, 0] []))) (kAt (cAt (bodyOf Tryd.f24) [1, 1, 0, 1, 0, 0]) [1, 0, 1] (.inv (LI 26 [] (eqIntL xs ys a a' c c' w) k) :: (kEnd (bodyOf Tryd.f24) [1, 1, 0, 1, 0] []))) (((k : Nat) : Int) < ((xs.length : Nat) : Int)) (iffDec) (fun h1 => ?_) (fun h1 => ?_)
   · have hk2 : k < xs.length := by omega
     have hk3 : k < ys.length := by omega
     have ha := hc.addrE intCells_len (by decide) hk2
     have hb := hc'.addrE intCells_len (by decide) hk3
     refine sgs 9 [] [0, 1, 5, 12, 13] (kAt (cAt (bodyOf Tryd.f24) [1, 1, 0, 1, 0, 0]) [1, 1, 0, 0, 1, 0] (.inv (LI 26 [] (eqIntL xs ys a a' c c' w) k) :: (kEnd (bodyOf Tryd.f24) [1, 1, 0, 1, 0] []))) [(0, none, .slice a xs.length c), (1, none, .slice a' ys.length (c')), (5, none, .int .i64 ((k : Nat) : Int)), (12, none, .int .i64 ((xs.length : Nat) : Int)), (13, none, .int .i64 ((k : Nat) : Int))] [] trivial ?_
     refine dBegin (k' := (kAt (cAt (bodyOf Tryd.f24) [1, 1, 0, 1, 0, 0]) [1, 1, 0, 0, 1, 1] (.inv (LI 26 [] (eqIntL xs ys a a' c c' w) k) :: (kEnd (bodyOf Tryd.f24) [1, 1, 0, 1, 0] [])))) (id := 6) (m := 9) (ops := opsAt (cAt (cAt (bodyOf Tryd.f24) [1, 1, 0, 1, 0, 0]) [1, 1, 0, 0, 1, 0])) (fun w1 => Ext w1) (by kernel_rfl) (PQ.body _ _ _) (by kernel_rfl) (by kernel_rfl) ?_
     intro w2 hx3
     have hE4 := K1.trans hx3
     refine dts [0, 1, 2, 3, 4, 5, 6, 7, 8] [.ld (.int .i64 (xs.getD k 0)), .ld (.int .i64 (ys.getD k 0))] [0, 1, 12, 13, 24] 0 (lb 9 511) [(0, none, .slice a xs.length c), (1, none, .slice a' ys.length (c')), (12, none, .int .i64 ((xs.length : Nat) : Int)), (13, none, .int .i64 ((k : Nat) : Int)), (24, none, .bool (!(decide ((xs.getD k 0) = (ys.getD k 0)))))] (fun w' => [(0 ≤ ((k : Nat) : Int) ∧ ((k : Nat) : Int) < ((xs.length : Nat) : Int)), (a : Option Addr) = some ⟨(slB a), slO a, none⟩, (w').cell? ⟨(slB a), slO a + k * 1, none⟩ = some (.int .i64 (xs.getD k 0)), (0 ≤ ((k : Nat) : Int) ∧ ((k : Nat) : Int) < ((ys.length : Nat) : Int)), (a' : Option Addr) = some ⟨(slB a'), slO a', none⟩, (w').cell? ⟨(slB a'), slO a' + k * 1, none⟩ = some (.int .i64 (ys.getD k 0))]) (fun w' hS => ⟨(by omega), (by assumption), (hS.cell (hE4.cell (cellAt intCells_len 0 hc hk2 (j := 0) rfl))), (by omega), (by assumption), (show (w').cell? ⟨(slB a'), slO a' + k * 1, none⟩ = some (.int .i64 (ys.getD k 0)) from hS.cell (hE4.cell (cellAt intCells_len 0 hc' hk3 (j := 0) rfl)))⟩) (Ext.refl _) ?_
     refine dDone (by kernel_rfl) ?_
     refine brs (!(decide ((xs.getD k 0) = (ys.getD k 0)))) (kAt (cAt (bodyOf Tryd.f24) [1, 1, 0, 1, 0, 0]) [1, 1, 0, 0, 1, 1, 0] (.inv (LI 26 [] (eqIntL xs ys a a' c c' w) k) :: (kEnd (bodyOf Tryd.f24) [1, 1, 0, 1, 0] []))) (kAt (cAt (bodyOf Tryd.f24) [1, 1, 0, 1, 0, 0]) [1, 1, 0, 0, 1, 1, 1] (.inv (LI 26 [] (eqIntL xs ys a a' c c' w) k) :: (kEnd (bodyOf Tryd.f24) [1, 1, 0, 1, 0] []))) (¬ ((xs.getD k 0) = (ys.getD k 0))) ((iffNot iffDec)) (fun h2 => ?_) (fun h2 => ?_)
     · have h3 : ¬ (xs.getD k 0 = ys.getD k 0) := fun e => h2 (by exact e)
       refine sgs 4 [] [0, 1, 4, 12, 13] (kAt (cAt (bodyOf Tryd.f24) [1, 1, 0, 1, 0, 0]) [1, 1, 0, 0, 1, 1, 0, 1] (.inv (LI 26 [] (eqIntL xs ys a a' c c' w) k) :: (kEnd (bodyOf Tryd.f24) [1, 1, 0, 1, 0] []))) [(0, none, .slice a xs.length c), (1, none, .slice a' ys.length (c')), (4, none, .bool false), (12, none, .int .i64 ((xs.length : Nat) : Int)), (13, none, .int .i64 ((k : Nat) : Int))] [] trivial ?_
       exact retD (hs := []) (vs := [.bool false]) (ps := []) (by kernel_rfl) trivial (v := .bool false) rfl (⟨by rw [decide_eq_false (fun e => h3 (by rw [e]))], hE4⟩)
     · have h3 : xs.getD k 0 = ys.getD k 0 := by have h4 := Classical.not_not.1 h2; exact h4
       refine sgs 6 [] [0, 1, 12, 13] (.inv (LI 26 [] (eqIntL xs ys a a' c c' w) k) :: (kEnd (bodyOf Tryd.f24) [1, 1, 0, 1, 0] [])) [(0, none, .slice a xs.length c), (1, none, .slice a' ys.length (c')), (12, none, .int .i64 ((xs.length : Nat) : Int)), (13, none, .int .i64 ((k + 1 : Nat) : Int))] [(-9223372036854775808 ≤ ((k + 1 : Nat) : Int) ∧ ((k + 1 : Nat) : Int) ≤ 9223372036854775807)] (show (-9223372036854775808 ≤ ((k + 1 : Nat) : Int) ∧ ((k + 1 : Nat) : Int) ≤ 9223372036854775807) from by omega) ?_
       exact again (k + 1) [0, 1, 12, 13] (by kernel_rfl) (⟨hE4, by omega, fun j hj => by by_cases e : j = k; (subst e; exact h3); exact hp j (by omega)⟩) (show xs.length - (k + 1) < xs.length - k by omega)
   · refine sgs 5 [] [4] (kAt (bodyOf Tryd.f24) [1, 1, 1, 1] []) [(4, none, .bool true)] [] trivial ?_
     exact retD (hs := []) (vs := [.bool true]) (ps := []) (by kernel_rfl) trivial (v := .bool true) rfl (⟨by rw [decide_eq_true (eq_of_getD 0 h0 (fun j hj => hp j (by omega)))], K1⟩)

end Go.Proofs.YtedojnihfnkmmaaDoor
