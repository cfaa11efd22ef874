/-
  PLAN: contracts of the statements' helpers.
-/
import Derived.Test.YtcbclephakfemaaGreatRRRDoorOwn
import Derived.Test.YtcbclephakfemaaGreatRRRDoorPlanSpec
import Derived.Test.YtcbclephakfemaaGreatRRRDoorRows
import Derived.Test.YtcbclephakfemaaGreatRRRDoorLz
import Derived.Test.YtcbclephakfemaaGreatRRRDoorFns
namespace Go.Proofs.YtcbclephakfemaaGreatRRRDoor
open Go.Bk Go.Proofs

theorem E49 : Proofs.Enters Tryz.prog 49 := Proofs.enters_of Tryz.func49 (by kernel_rfl) rfl

theorem E17 : Proofs.Enters Tryz.prog 17 := Proofs.enters_of Tryz.func17 (by kernel_rfl) rfl

theorem E6 : Proofs.Enters Tryz.prog 6 := Proofs.enters_of Tryz.func6 (by kernel_rfl) rfl

theorem E4 : Proofs.Enters Tryz.prog 4 := Proofs.enters_of Tryz.func4 (by kernel_rfl) rfl

set_option maxRecDepth 20000 in
theorem pick_any (c : Int) (n : Nat) (w : World) (h0 : -9223372036854775808 ≤ c) (h1 : c ≤ 9223372036854775807) (hn : 0 < n) :
    Does Tryz.prog 49 [iv c,iv (n:Int)] w (fun v w' => v = .int .i64 ((pickN c n:Nat):Int) ∧ w = w') := by
 refine startZ (c := Y49) Tryz.func49 rfl (by kernel_rfl) ?_
 show H _ 13 [] _ (kAt Y49 [] []) (stz [(0,iv c),(1,iv (n:Int))]) w
 refine Zq 10 ((c : Int) < (0 : Int)) (fun h => ?_) (fun h => ?_)
 ·refine Zs 13 [] [I64 (c + (1 : Int)),I64 (-(c + (1 : Int))),(0 ≤ (-(c + (1 : Int))) ∧ 0 < (n:Int))] (AC (i64 (by omega)) (AC (i64 (by omega)) (A1 (by omega)))) ?_
  exact Z1 0 (iv ((-(c + (1 : Int))) % (n:Int))) (⟨by rw [pickN_neg hn h],rfl⟩)
 refine Zs 8 [] [(0 ≤ c ∧ 0 < (n:Int))] (A1 (by omega)) ?_
 exact Z1 0 (iv (c % (n:Int))) (⟨by rw [pickN_nat hn h],rfl⟩)

set_option maxRecDepth 20000 in
theorem next_any (w0 : World) (b : Nat) (L : List Int) (a : Option Addr) (c n : Nat) (w : World) (hE : Ext w0 w) (hc : Cells w0 a (L.flatMap intCells)) (hs : Small L) (hn : 0 < n) (hcap : L.length ≤ c) (hb : w.heap[b]? = some (.cells #[.slice a L.length c] 46 (0,0))) :
    Does Tryz.prog 17 [pt b 0,iv (n:Int)] w (fun v w' => v = .int .i64 ((nextV L n:Nat):Int) ∧ ∃ a' c',Chg w w' b (.cells #[.slice a' (L.drop 1).length c'] 46 (0,0)) ∧ Cells w0 a' ((L.drop 1).flatMap intCells) ∧ (L.drop 1).length ≤ c') := by
 refine startZ (c := Y17) Tryz.func17 rfl (by kernel_rfl) ?_
 show H _ 29 [] _ (kAt Y17 [] []) (stz [(0,pt b 0),(1,iv (n:Int))]) w
 refine Zs 14 [.ld (.slice a L.length c)] [cl w b 0 (.slice a L.length c)] (A1 (cell_of hb rfl)) ?_
 refine Zq 0 ((L.length:Int) = (0 : Int)) (fun h => ?_) (fun h => ?_)
 ·have hl : L = [] := List.length_eq_zero_iff.1 (by omega)
  exact Z1 4 (iv 0) (⟨by subst hl; rfl,a,c,by subst hl; exact Chg.same hb,by subst hl; exact .inl rfl,by subst hl; exact Nat.zero_le _⟩)
 have hne : L ≠ [] := fun e => h (by rw [e]; rfl)
 have hpos : 0 < L.length := List.length_pos_iff.2 hne
 have ha := hc.addrE intCells_len (by decide) hpos
 have hsi := hs.at 0
 refine Zs 10 [.ld (.slice a L.length c),.ld (iv (L.getD 0 0))] [cl w b 0 (.slice a L.length c),(0 ≤ (0 : Int) ∧ (0 : Int) < (L.length:Int)),(a : Option Addr) = some ⟨(slB a),slO a,none⟩,cl w (slB a) (slO a + 0) (iv (L.getD 0 0))] (AC (cell_of hb rfl) (AC (by omega) (AC (by assumption) (A1 (hE.cell (int_cell hc hpos)))))) ?_
 obtain ⟨x0,hx0⟩ : ∃ x,L.getD 0 0 = x := ⟨_,rfl⟩
 refine Zw 0 17 (iv (L.getD 0 0)) (iv x0) (by rw [hx0]) ?_
 rw [hx0] at hsi
 refine Zl 0 E49 (pick_any x0 n w hsi.1 hsi.2 hn) ?_
 rintro _ _ ⟨rfl,rfl⟩
 refine Zs 9 [.ld (.slice a L.length c)] [cl w b 0 (.slice a L.length c)] (A1 (cell_of hb rfl)) ?_
 refine Z0 0 (.slc 22 (.slice a L.length c) (some (iv 1)) none none) (runs_slc_lo (l := 1) intCells_len Tryz.underlying22 (by kernel_rfl) hc (by omega) hcap) ?_
 rintro _ _ ⟨rfl,a1,rfl,hc1⟩
 refine Z0 2 (.store 22 (pt b 0) (.slice a1 ((L.drop 1).length) (c - 1))) ((runs_store (s := 1) (cs := [.slice a L.length c]) (by kernel_rfl) hb rfl (Nat.le_of_ble_eq_true rfl) (by simp [Value.cells,Value.oneCell'])).mono (Ψ := fun _ w' => Chg w w' b (.cells #[.slice a1 (L.drop 1).length (c - 1)] 46 (0,0))) fun _ _ h => h) ?_
 rintro _ w1 hC
 exact Z1 6 (iv ((pickN x0 n:Nat):Int)) (⟨by unfold nextV; rw [if_neg hne,hx0],a1,c - 1,hC,hc1,by rw [List.length_drop]; omega⟩)

end Go.Proofs.YtcbclephakfemaaGreatRRRDoor
