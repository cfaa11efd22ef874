/-
  PLAN: contracts of the statements' helpers.
-/
import Derived.Test.YtedojnihfnkmmaaDoorOwn
import Derived.Test.YtedojnihfnkmmaaDoorPlanSpec
import Derived.Test.YtedojnihfnkmmaaDoorRows
namespace Go.Proofs.YtedojnihfnkmmaaDoor
open Go.Bk Go.Proofs

theorem E17 : Proofs.Enters Tryd.prog 17 := Proofs.enters_of Tryd.func17 (by kernel_rfl) rfl

theorem E18 : Proofs.Enters Tryd.prog 18 := Proofs.enters_of Tryd.func18 (by kernel_rfl) rfl

theorem E10 : Proofs.Enters Tryd.prog 10 := Proofs.enters_of Tryd.func10 (by kernel_rfl) rfl

theorem E9 : Proofs.Enters Tryd.prog 9 := Proofs.enters_of Tryd.func9 (by kernel_rfl) rfl

set_option maxRecDepth 20000 in
theorem pick_any (c : Int) (n : Nat) (w : World) (h0 : -9223372036854775808 ≤ c) (h1 : c ≤ 9223372036854775807) (hn : 0 < n) :
    Does Tryd.prog 17 [.int .i64 c, .int .i64 ((n : Nat) : Int)] w (fun v w' => v = .int .i64 ((pickN c n : Nat) : Int) ∧ w = w') := by
 refine startD (c := (bodyOf Tryd.f17)) Tryd.func17 rfl (by kernel_rfl) ?_
 show G _ 13 [] _ (kAt (bodyOf Tryd.f17) [] []) [(0, none, .int .i64 c), (1, none, .int .i64 ((n : Nat) : Int))] w
 refine sgs 10 [] [0, 1, 4, 6] (kAt (bodyOf Tryd.f17) [1, 0, 1] []) [(0, none, .int .i64 c), (1, none, .int .i64 ((n : Nat) : Int)), (4, none, .int .i64 (0 : Int)), (6, none, .bool (decide ((c : Int) < (0 : Int))))] [] trivial ?_
 refine brs (decide ((c : Int) < (0 : Int))) (kAt (bodyOf Tryd.f17) [1, 0, 1, 0] []) (kAt (bodyOf Tryd.f17) [1, 0, 1, 1] []) ((c : Int) < (0 : Int)) (iffDec) (fun h => ?_) (fun h => ?_)
 · refine sgs 13 [] [4] (kAt (bodyOf Tryd.f17) [1, 1, 1] []) [(4, none, .int .i64 ((-(c + (1 : Int))) % ((n : Nat) : Int)))] [(-9223372036854775808 ≤ (c + (1 : Int)) ∧ (c + (1 : Int)) ≤ 9223372036854775807), (-9223372036854775808 ≤ (-(c + (1 : Int))) ∧ (-(c + (1 : Int))) ≤ 9223372036854775807), (0 ≤ (-(c + (1 : Int))) ∧ 0 < ((n : Nat) : Int))] ⟨(by omega), (by omega), (show (0 ≤ (-(c + (1 : Int))) ∧ 0 < ((n : Nat) : Int)) from by omega)⟩ ?_
   exact retD (hs := []) (vs := [.int .i64 ((-(c + (1 : Int))) % ((n : Nat) : Int))]) (ps := []) (by kernel_rfl) trivial (v := .int .i64 ((-(c + (1 : Int))) % ((n : Nat) : Int))) rfl (⟨by rw [pickN_neg hn h], rfl⟩)
 · refine sgs 8 [] [4] (kAt (bodyOf Tryd.f17) [1, 1, 1] []) [(4, none, .int .i64 (c % ((n : Nat) : Int)))] [(0 ≤ c ∧ 0 < ((n : Nat) : Int))] (show (0 ≤ c ∧ 0 < ((n : Nat) : Int)) from by omega) ?_
   exact retD (hs := []) (vs := [.int .i64 (c % ((n : Nat) : Int))]) (ps := []) (by kernel_rfl) trivial (v := .int .i64 (c % ((n : Nat) : Int))) rfl (⟨by rw [pickN_nat hn h], rfl⟩)

set_option maxRecDepth 20000 in
theorem next_any (w0 : World) (b : Nat) (L : List Int) (a : Option Addr) (c n : Nat) (w : World) (hE : Ext w0 w) (hc : Cells w0 a (L.flatMap intCells)) (hs : Small L) (hn : 0 < n) (hcap : L.length ≤ c) (hb : w.heap[b]? = some (.cells #[.slice a L.length c] 54 (0, 0))) :
    Does Tryd.prog 18 [.pointer (some ⟨b, 0, none⟩), .int .i64 ((n : Nat) : Int)] w (fun v w' => v = .int .i64 ((nextV L n : Nat) : Int) ∧ ∃ a' c', Chg w w' b (.cells #[.slice a' (L.drop 1).length c'] 54 (0, 0)) ∧ Cells w0 a' ((L.drop 1).flatMap intCells) ∧ (L.drop 1).length ≤ c') := by
 refine startD (c := (bodyOf Tryd.f18)) Tryd.func18 rfl (by kernel_rfl) ?_
 show G _ 29 [] _ (kAt (bodyOf Tryd.f18) [] []) [(0, none, .pointer (some ⟨b, 0, none⟩)), (1, none, .int .i64 ((n : Nat) : Int))] w
 refine sgs 14 [.ld (.slice a L.length c)] [0, 1, 4, 11] (kAt (bodyOf Tryd.f18) [1, 0, 1] []) [(0, none, .pointer (some ⟨b, 0, none⟩)), (1, none, .int .i64 ((n : Nat) : Int)), (4, none, .int .i64 (0 : Int)), (11, none, .bool (decide (((L.length : Nat) : Int) = (0 : Int))))] [w.cell? ⟨b, 0, none⟩ = some (.slice a L.length c)] (show w.cell? ⟨b, 0, none⟩ = some (.slice a L.length c) from cell_of hb rfl) ?_
 refine brs (decide (((L.length : Nat) : Int) = (0 : Int))) (kAt (bodyOf Tryd.f18) [1, 0, 1, 0] []) (kAt (bodyOf Tryd.f18) [1, 0, 1, 1] []) (((L.length : Nat) : Int) = (0 : Int)) (iffDec) (fun h => ?_) (fun h => ?_)
 · have hl : L = [] := List.length_eq_zero_iff.1 (by omega)
   refine sgs 4 [] [0, 1, 4] (kAt (bodyOf Tryd.f18) [1, 0, 1, 0, 1] []) [(0, none, .pointer (some ⟨b, 0, none⟩)), (1, none, .int .i64 ((n : Nat) : Int)), (4, none, .int .i64 (0 : Int))] [] trivial ?_
   exact retD (hs := []) (vs := [.int .i64 (0 : Int)]) (ps := []) (by kernel_rfl) trivial (v := .int .i64 (0 : Int)) rfl (⟨by subst hl; rfl, a, c, by subst hl; exact Chg.same hb, by subst hl; exact .inl rfl, by subst hl; exact Nat.zero_le _⟩)
 · have hne : L ≠ [] := fun e => h (by rw [e]; rfl)
   have hpos : 0 < L.length := List.length_pos_iff.2 hne
   have ha := hc.addrE intCells_len (by decide) hpos
   have hsi := hs.at 0
   refine sgs 10 [.ld (.slice a L.length c), .ld (.int .i64 (L.getD 0 0))] [0, 4, 17, 18] (kOp (bodyOf Tryd.f18) [1, 1, 0] 7 []) [(0, none, .pointer (some ⟨b, 0, none⟩)), (4, none, .int .i64 (0 : Int)), (17, none, .int .i64 (L.getD 0 0)), (18, none, .int .i64 ((n : Nat) : Int))] [w.cell? ⟨b, 0, none⟩ = some (.slice a L.length c), (0 ≤ (0 : Int) ∧ (0 : Int) < ((L.length : Nat) : Int)), (a : Option Addr) = some ⟨(slB a), slO a, none⟩, w.cell? ⟨(slB a), slO a + 0, none⟩ = some (.int .i64 (L.getD 0 0))] ⟨(cell_of hb rfl), (by omega), (by assumption), (show w.cell? ⟨(slB a), slO a + 0, none⟩ = some (.int .i64 (L.getD 0 0)) from hE.cell (int_cell hc hpos))⟩ ?_
   obtain ⟨x0, hx0⟩ : ∃ x, L.getD 0 0 = x := ⟨_, rfl⟩
   rw [hx0]
   rw [hx0] at hsi
   refine oss [] (.call 17 [.int .i64 x0, .int .i64 ((n : Nat) : Int)]) (some 19) (kOp (bodyOf Tryd.f18) [1, 1, 0] 8 []) [] trivial (runs_call E17 (pick_any x0 n w hsi.1 hsi.2 hn)) ?_
   rintro _ _ ⟨rfl, rfl⟩
   refine sgs 9 [.ld (.slice a L.length c)] [4, 5, 20, 24] (kOp (bodyOf Tryd.f18) [1, 1, 1, 0] 5 []) [(4, none, .int .i64 (0 : Int)), (5, none, .int .i64 ((pickN x0 n : Nat) : Int)), (20, none, .pointer (some ⟨b, 0, none⟩)), (24, none, .slice a L.length c)] [w.cell? ⟨b, 0, none⟩ = some (.slice a L.length c)] (show w.cell? ⟨b, 0, none⟩ = some (.slice a L.length c) from cell_of hb rfl) ?_
   refine oss [] (.slc 22 (.slice a L.length c) (some (.int .i64 (1 : Int))) none none) (some 25) (kOp (bodyOf Tryd.f18) [1, 1, 1, 0] 6 []) [] trivial (runs_slc_lo (l := 1) intCells_len Tryd.underlying22 (by kernel_rfl) hc (by omega) hcap) ?_
   rintro _ _ ⟨rfl, a1, rfl, hc1⟩
   refine sgs 2 [] [4, 5, 25, 27] (kOp (bodyOf Tryd.f18) [1, 1, 1, 0] 8 []) [(4, none, .int .i64 (0 : Int)), (5, none, .int .i64 ((pickN x0 n : Nat) : Int)), (25, none, .slice a1 ((L.drop 1).length) (c - 1)), (27, none, .pointer (some ⟨b, 0, none⟩))] [] trivial ?_
   refine oss [] (.store 22 (.pointer (some ⟨b, 0, none⟩)) (.slice a1 ((L.drop 1).length) (c - 1))) none (kOp (bodyOf Tryd.f18) [1, 1, 1, 0] 9 []) [] trivial ((runs_store (s := 1) (cs := [.slice a L.length c]) (by kernel_rfl) hb rfl (Nat.le_of_ble_eq_true rfl) (by simp [Value.cells, Value.oneCell'])).mono (Ψ := fun _ w' => Chg w w' b (.cells #[.slice a1 (L.drop 1).length (c - 1)] 54 (0, 0))) fun _ _ h => h) ?_
   rintro _ w1 hC
   refine sgs 6 [] [4] (kAt (bodyOf Tryd.f18) [1, 1, 1, 1, 1] []) [(4, none, .int .i64 ((pickN x0 n : Nat) : Int))] [] trivial ?_
   exact retD (hs := []) (vs := [.int .i64 ((pickN x0 n : Nat) : Int)]) (ps := []) (by kernel_rfl) trivial (v := .int .i64 ((pickN x0 n : Nat) : Int)) rfl (⟨by unfold nextV; rw [if_neg hne, hx0], a1, c - 1, hC, hc1, by rw [List.length_drop]; omega⟩)

end Go.Proofs.YtedojnihfnkmmaaDoor
