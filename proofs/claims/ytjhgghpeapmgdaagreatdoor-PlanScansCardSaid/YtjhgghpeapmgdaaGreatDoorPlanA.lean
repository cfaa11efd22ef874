/-
  PLAN: contracts of the statements' helpers.
-/
import Derived.Test.YtjhgghpeapmgdaaGreatDoorOwn
import Derived.Test.YtjhgghpeapmgdaaGreatDoorPlanSpec
import Derived.Test.YtjhgghpeapmgdaaGreatDoorRows
namespace Go.Proofs.YtjhgghpeapmgdaaGreatDoor
open Go.Bk Go.Proofs

theorem E70 : Proofs.Enters Tryz.prog 70 := Proofs.enters_of Tryz.func70 (by kernel_rfl) rfl

theorem E30 : Proofs.Enters Tryz.prog 30 := Proofs.enters_of Tryz.func30 (by kernel_rfl) rfl

theorem E14 : Proofs.Enters Tryz.prog 14 := Proofs.enters_of Tryz.func14 (by kernel_rfl) rfl

theorem E12 : Proofs.Enters Tryz.prog 12 := Proofs.enters_of Tryz.func12 (by kernel_rfl) rfl

set_option maxRecDepth 20000 in
theorem pick_any (c : Int) (n : Nat) (w : World) (h0 : -9223372036854775808 ≤ c) (h1 : c ≤ 9223372036854775807) (hn : 0 < n) :
    Does Tryz.prog 70 [iv c,iv ((n:Nat):Int)] w (fun v w' => v = .int .i64 ((pickN c n:Nat):Int) ∧ w = w') := by
 refine startD (c := (bodyOf Tryz.f70)) Tryz.func70 rfl (by kernel_rfl) ?_
 show G _ 13 [] _ (kAt (bodyOf Tryz.f70) [] []) (stz [(0,iv c),(1,iv ((n:Nat):Int))]) w
 refine sgz 10 [] (kAt (bodyOf Tryz.f70) [1,0,1] []) [(0,iv c),(1,iv ((n:Nat):Int)),(4,iv (0 : Int)),(6,.bool (decide ((c : Int) < (0 : Int))))] [] trivial ?_
 refine brs (decide ((c : Int) < (0 : Int))) (kAt (bodyOf Tryz.f70) [1,0,1,0] []) (kAt (bodyOf Tryz.f70) [1,0,1,1] []) ((c : Int) < (0 : Int)) (iffDec) (fun h => ?_) (fun h => ?_)
 · refine sgz 13 [] (kAt (bodyOf Tryz.f70) [1,1,1] []) [(4,iv ((-(c + (1 : Int))) % ((n:Nat):Int)))] [I64 (c + (1 : Int)),I64 (-(c + (1 : Int))),(0 ≤ (-(c + (1 : Int))) ∧ 0 < ((n:Nat):Int))] (AC (i64 (by omega)) (AC (i64 (by omega)) (A1 (by omega)))) ?_
   exact retD (hs := []) (vs := [iv ((-(c + (1 : Int))) % ((n:Nat):Int))]) (ps := []) (by kernel_rfl) trivial (v := iv ((-(c + (1 : Int))) % ((n:Nat):Int))) rfl (⟨by rw [pickN_neg hn h],rfl⟩)
 · refine sgz 8 [] (kAt (bodyOf Tryz.f70) [1,1,1] []) [(4,iv (c % ((n:Nat):Int)))] [(0 ≤ c ∧ 0 < ((n:Nat):Int))] (A1 (by omega)) ?_
   exact retD (hs := []) (vs := [iv (c % ((n:Nat):Int))]) (ps := []) (by kernel_rfl) trivial (v := iv (c % ((n:Nat):Int))) rfl (⟨by rw [pickN_nat hn h],rfl⟩)

set_option maxRecDepth 20000 in
theorem next_any (w0 : World) (b : Nat) (L : List Int) (a : Option Addr) (c n : Nat) (w : World) (hE : Ext w0 w) (hc : Cells w0 a (L.flatMap intCells)) (hs : Small L) (hn : 0 < n) (hcap : L.length ≤ c) (hb : w.heap[b]? = some (.cells #[.slice a L.length c] 64 (0,0))) :
    Does Tryz.prog 30 [pt b 0,iv ((n:Nat):Int)] w (fun v w' => v = .int .i64 ((nextV L n:Nat):Int) ∧ ∃ a' c',Chg w w' b (.cells #[.slice a' (L.drop 1).length c'] 64 (0,0)) ∧ Cells w0 a' ((L.drop 1).flatMap intCells) ∧ (L.drop 1).length ≤ c') := by
 refine startD (c := (bodyOf Tryz.f30)) Tryz.func30 rfl (by kernel_rfl) ?_
 show G _ 29 [] _ (kAt (bodyOf Tryz.f30) [] []) (stz [(0,pt b 0),(1,iv ((n:Nat):Int))]) w
 refine sgz 14 [.ld (.slice a L.length c)] (kAt (bodyOf Tryz.f30) [1,0,1] []) [(0,pt b 0),(1,iv ((n:Nat):Int)),(4,iv (0 : Int)),(11,.bool (decide (((L.length:Nat):Int) = (0 : Int))))] [w.cell? ⟨b,0,none⟩ = some (.slice a L.length c)] (A1 (cell_of hb rfl)) ?_
 refine brs (decide (((L.length:Nat):Int) = (0 : Int))) (kAt (bodyOf Tryz.f30) [1,0,1,0] []) (kAt (bodyOf Tryz.f30) [1,0,1,1] []) (((L.length:Nat):Int) = (0 : Int)) (iffDec) (fun h => ?_) (fun h => ?_)
 · have hl : L = [] := List.length_eq_zero_iff.1 (by omega)
   refine sgz 4 [] (kAt (bodyOf Tryz.f30) [1,0,1,0,1] []) [(0,pt b 0),(1,iv ((n:Nat):Int)),(4,iv (0 : Int))] [] trivial ?_
   exact retD (hs := []) (vs := [iv (0 : Int)]) (ps := []) (by kernel_rfl) trivial (v := iv (0 : Int)) rfl (⟨by subst hl; rfl,a,c,by subst hl; exact Chg.same hb,by subst hl; exact .inl rfl,by subst hl; exact Nat.zero_le _⟩)
 · have hne : L ≠ [] := fun e => h (by rw [e]; rfl)
   have hpos : 0 < L.length := List.length_pos_iff.2 hne
   have ha := hc.addrE intCells_len (by decide) hpos
   have hsi := hs.at 0
   refine sgz 10 [.ld (.slice a L.length c),.ld (iv (L.getD 0 0))] (kOp (bodyOf Tryz.f30) [1,1,0] 7 []) [(0,pt b 0),(4,iv (0 : Int)),(17,iv (L.getD 0 0)),(18,iv ((n:Nat):Int))] [w.cell? ⟨b,0,none⟩ = some (.slice a L.length c),(0 ≤ (0 : Int) ∧ (0 : Int) < ((L.length:Nat):Int)),(a : Option Addr) = some ⟨(slB a),slO a,none⟩,w.cell? ⟨(slB a),slO a + 0,none⟩ = some (iv (L.getD 0 0))] (AC (cell_of hb rfl) (AC (by omega) (AC (by assumption) (A1 (hE.cell (int_cell hc hpos)))))) ?_
   obtain ⟨x0,hx0⟩ : ∃ x,L.getD 0 0 = x := ⟨_,rfl⟩
   rw [hx0]
   rw [hx0] at hsi
   refine oss [] (.call 70 [iv x0,iv ((n:Nat):Int)]) (some 19) (kOp (bodyOf Tryz.f30) [1,1,0] 8 []) [] trivial (runs_call E70 (pick_any x0 n w hsi.1 hsi.2 hn)) ?_
   rintro _ _ ⟨rfl,rfl⟩
   refine sgz 9 [.ld (.slice a L.length c)] (kOp (bodyOf Tryz.f30) [1,1,1,0] 5 []) [(4,iv (0 : Int)),(5,iv ((pickN x0 n:Nat):Int)),(20,pt b 0),(24,.slice a L.length c)] [w.cell? ⟨b,0,none⟩ = some (.slice a L.length c)] (A1 (cell_of hb rfl)) ?_
   refine oss [] (.slc 22 (.slice a L.length c) (some (iv (1 : Int))) none none) (some 25) (kOp (bodyOf Tryz.f30) [1,1,1,0] 6 []) [] trivial (runs_slc_lo (l := 1) intCells_len Tryz.underlying22 (by kernel_rfl) hc (by omega) hcap) ?_
   rintro _ _ ⟨rfl,a1,rfl,hc1⟩
   refine sgz 2 [] (kOp (bodyOf Tryz.f30) [1,1,1,0] 8 []) [(4,iv (0 : Int)),(5,iv ((pickN x0 n:Nat):Int)),(25,.slice a1 ((L.drop 1).length) (c - 1)),(27,pt b 0)] [] trivial ?_
   refine oss [] (.store 22 (pt b 0) (.slice a1 ((L.drop 1).length) (c - 1))) none (kOp (bodyOf Tryz.f30) [1,1,1,0] 9 []) [] trivial ((runs_store (s := 1) (cs := [.slice a L.length c]) (by kernel_rfl) hb rfl (Nat.le_of_ble_eq_true rfl) (by simp [Value.cells,Value.oneCell'])).mono (Ψ := fun _ w' => Chg w w' b (.cells #[.slice a1 (L.drop 1).length (c - 1)] 64 (0,0))) fun _ _ h => h) ?_
   rintro _ w1 hC
   refine sgz 6 [] (kAt (bodyOf Tryz.f30) (ro1 5 []) []) [(4,iv ((pickN x0 n:Nat):Int))] [] trivial ?_
   exact retD (hs := []) (vs := [iv ((pickN x0 n:Nat):Int)]) (ps := []) (by kernel_rfl) trivial (v := iv ((pickN x0 n:Nat):Int)) rfl (⟨by unfold nextV; rw [if_neg hne,hx0],a1,c - 1,hC,hc1,by rw [List.length_drop]; omega⟩)

end Go.Proofs.YtjhgghpeapmgdaaGreatDoor
