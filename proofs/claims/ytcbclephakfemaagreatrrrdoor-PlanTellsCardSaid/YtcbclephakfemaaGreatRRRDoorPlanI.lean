/-
  PLAN: contracts of the printer's line, number, check, and of Print.
-/
import Derived.Test.YtcbclephakfemaaGreatRRRDoorPlanH
import Derived.Test.YtcbclephakfemaaGreatRRRDoorLz
import Derived.Test.YtcbclephakfemaaGreatRRRDoorFns
namespace Go.Proofs.YtcbclephakfemaaGreatRRRDoor
open Go.Bk Go.Proofs

theorem E18 : Proofs.Enters Tryz.prog 18 := Proofs.enters_of Tryz.func18 (by kernel_rfl) rfl

theorem E20 : Proofs.Enters Tryz.prog 20 := Proofs.enters_of Tryz.func20 (by kernel_rfl) rfl

theorem E19 : Proofs.Enters Tryz.prog 19 := Proofs.enters_of Tryz.func19 (by kernel_rfl) rfl

theorem E7 : Proofs.Enters Tryz.prog 7 := Proofs.enters_of Tryz.func7 (by kernel_rfl) rfl

set_option maxRecDepth 20000 in
theorem line_any {w0 : World} (B b : Nat) (l : Bytes) (bw n c : Nat) (ws : List Bytes) (w : World) (hn : ws.length = n) (hE : Ext w0 w) (hB : w0.heap.size ≤ B) (h : Bld w B b l) (hc : Cells w (some ⟨bw,0,none⟩) (ws.flatMap strC)) (hbw : bw < w.heap.size) (hcap : n ≤ c) (hN : n ≤ 140737488355328) (hl : l.length + (lineW ws).length ≤ 140737488355328) :
    Does Tryz.prog 18 [pt b 0,.slice (some ⟨bw,0,none⟩) n c] w (fun r w' => r = .tuple #[] ∧ Bld w' B b (l ++ lineW ws) ∧ Ext w0 w' ∧ KeepT w w' b) := by
 refine startZ (c := Y18) Tryz.func18 rfl (by kernel_rfl) ?_
 show H _ 11 [] _ (kAt Y18 [] []) (stz [(0,pt b 0),(1,.slice (some ⟨bw,0,none⟩) n c)]) w
 have hl2 : (lineW ws).length = (joinW ws).length + 2 := by simp [lineW]
 have hE1 : Ext w w := Ext.refl w
 refine ZB 7 [] 0 (opsAt (cAt Y18 [])) (fun _ _ => True) ?_
 intro w2 hx3
 have hE4 := hE1.trans hx3
 refine dx0 [0,1,2,3] [] 3 (lb 7 15) (trivial) ?_
 refine d1 4 ?_
 refine Wl E51 (join_any bw n c ws hn w2 (hc.ext hx3) (Nat.lt_of_lt_of_le hbw hx3.le) hcap (by omega) hN) ?_
 rintro _ w2 ⟨rfl,hx2⟩
 have hE5 := hE4.trans hx2
 refine ⟨trivial,?_⟩
 refine dx [5] [] 1 (lb 7 63) (fun w' => [(joinW ws).length + ([59,10]).length ≤ 9223372036854775807]) (fun w' hS => (A1 (by simp only [List.length_cons,List.length_nil]; omega))) (trivial) ?_
 refine d1 6 ?_
 refine Wl E50 (by have h := write_any B b l (lineW ws) w2 (hE.trans hE5) hB (h.ext hE5) hl; exact h) ?_
 rintro _ w3 ⟨rfl,hB3,hE3,hK3⟩
 refine ⟨trivial,?_⟩
 refine ZD ?_
 exact Ze 0 [] [] [] trivial (v := .tuple #[]) rfl (⟨rfl,hB3,hE3,(KeepT.ext hE5).trans hK3⟩)

set_option maxRecDepth 20000 in
theorem number_any (n : Int) (w : World) (h0 : -9223372036854775808 ≤ n) (h1 : n ≤ 9223372036854775807) (hG : Glob w) :
    Does Tryz.prog 19 [iv n] w (fun v w' => v = .string (bs (Lib.itoa n)) ∧ Ext w w') := by
 refine startZ (c := Y19) Tryz.func19 rfl (by kernel_rfl) ?_
 show H _ 5 [] _ (kAt Y19 [] []) (stz [(0,iv n)]) w
 have hE1 : Ext w w := Ext.refl w
 refine Zl 7 E52 (itoa_any n h0 h1 w hG) ?_
 rintro _ w1 ⟨rfl,hx⟩
 have hE2 := hE1.trans hx
 exact Z1 2 (sv (Lib.itoa n)) (⟨rfl,hE2⟩)

set_option maxRecDepth 20000 in
theorem pcheck_any {w0 : World} (B b : Nat) (l : Bytes) (p : PPlan) (q : PAd) (c : PCheck) (w : World) (hP : PlanAt w p q) (hR : RightP p) (hm : c ∈ p.checks) (hG : Glob w) (hE : Ext w0 w) (hB : w0.heap.size ≤ B) (h : Bld w B b l) (hl : l.length + (checkL p c).length ≤ 140737488355328) :
    Does Tryz.prog 20 [pt b 0,(pv p q),(vC c)] w (fun r w' => r = .tuple #[] ∧ Bld w' B b (l ++ checkL p c) ∧ Ext w0 w') := by
 refine startZ (c := Y20) Tryz.func20 rfl (by kernel_rfl) ?_
 show H _ 65 [] _ (kAt Y20 [] []) (stz [(0,pt b 0),(1,(pv p q)),(2,(vC c))]) w
 have hcb := checkN_bounds (n := p.nodes.length) (d := p.dests.length) (by have := hR.n0; omega) (hR.check c hm)
 have hq := hP.dlen
 have hl1 := hP.l1
 have hl3 := hP.l3
 have hn1 : c.node.toNat < p.nodes.length := by omega
 have hn2 : c.other.toNat < p.nodes.length := by omega
 have hn3 : c.dest.toNat < q.ds.length := by omega
 have ha := hP.nodes.addrE nodeC_len (by decide) hn1
 have hb := hP.dests.addrE destC_len (by decide) hn3
 have k1 : w.cell? ⟨slB q.a1,slO q.a1 + c.node.toNat * 2,none⟩ = some (.string (bs (nmN p c.node))) := cellAt nodeC_len d0N hP.nodes hn1 (j := 0) rfl
 have k2 : w.cell? ⟨slB q.a1,slO q.a1 + c.other.toNat * 2,none⟩ = some (.string (bs (nmN p c.other))) := cellAt nodeC_len d0N hP.nodes hn2 (j := 0) rfl
 have k3 : w.cell? ⟨slB q.a3,slO q.a3 + c.dest.toNat * 2,none⟩ = some (.string (bs (nmD p c.dest))) := by have h := cellAt destC_len d0A hP.dests hn3 (j := 0) rfl; rw [hP.dget] at h; exact h
 have hE1 : Ext w w := Ext.refl w
 have hM2 : Hold w w.heap.size [] := Hold.nil hE1.le
 refine Zb 2 29 (pv p q) (pc p q) hE1 hM2 ?_
 intro b4 w1 hE4 hM5
 refine Zb 0 51 (vC c) [iv c.kind,iv c.node,iv c.dest,iv c.limit,iv c.other] hE4 hM5 ?_
 intro b5 w2 hE7 hM8
 refine Zs 2 [] [] trivial ?_
 refine ZB 24 (kAt Y20 [1,1] []) 1 (opsAt (cAt Y20 [1,0])) (fun w1 => Ext w1) ?_
 intro w9 hx10
 obtain ⟨hE11,hM12⟩ := Xt hE7 hM8 hx10
 refine dh [0,1,2,3,4,5,6,7,8,9,10,11,12,13,14,15,16,17,18,19,20,21,22,23] [.c 1 3,.c 0 1,.p (fun _ => (0 ≤ c.node ∧ c.node < (p.nodes.length:Int))),.g 0,.p (fun w' => (w').cell? ⟨(slB q.a1),slO q.a1 + ((c.node).toNat) * 2,none⟩ = some (sv (nmN p c.node))),.v (sv (nmN p c.node)),.c 1 5,.c 0 2,.p (fun _ => (0 ≤ c.dest ∧ c.dest < (p.dests.length:Int))),.p (fun _ => (q.a3 : Option Addr) = some ⟨(slB q.a3),slO q.a3,none⟩),.p (fun w' => (w').cell? ⟨(slB q.a3),slO q.a3 + ((c.dest).toNat) * 2,none⟩ = some (sv (nmD p c.dest))),.v (sv (nmD p c.dest)),.c 1 3,.c 0 4,.p (fun _ => (0 ≤ c.other ∧ c.other < (p.nodes.length:Int))),.g 0,.p (fun w' => (w').cell? ⟨(slB q.a1),slO q.a1 + ((c.other).toNat) * 2,none⟩ = some (sv (nmN p c.other))),.v (sv (nmN p c.other))] 0 (lb 24 16777215) hM12 (fun _ h => h) [(q.a1 : Option Addr) = some ⟨(slB q.a1),slO q.a1,none⟩] (A1 (by assumption)) [] (fun w' hS => (AC (by omega) (AC (hS.cell (hE11.cell k1)) (AC (by omega) (AC (by assumption) (AC (hS.cell (hE11.cell k3)) (AC (by omega) (A1 (hS.cell (hE11.cell k2)))))))))) (Ext.refl _) ?_
 refine ZD ?_
 refine Zh 11 [.c 0 0] hM12 trivial ?_
 refine Zq 0 ((c.kind : Int) = (1 : Int)) (fun h1 => ?_) (fun h1 => ?_)
 ·have hck : checkL p c = lineW [wdCheck,wdReach,nmN p c.node,nmD p c.dest] := by unfold checkL; rw [if_pos h1]
  refine Zz 0 (kAt Y20 [1,1,1,0,1,0] []) [(0,pt b 0),(6,sv (nmN p c.node)),(7,sv (nmD p c.dest))] ?_
  rw [hck] at hl ⊢
  refine Zd 4 4 [sv ([99,104,101,99,107]),sv ([114,101,97,99,104]),sv (nmN p c.node),sv (nmD p c.dest)] 9 hE11 hM12 ?_
  intro bw w6 hE14 hM15
  refine Zl 0 E18 (line_any B b l bw 4 4 [wdCheck,wdReach,nmN p c.node,nmD p c.dest] w6 rfl (hE.trans hE14) hB (h.ext hE14) (blk_cells (hM15.blk 0 rfl)) (heap_lt (hM15.blk 0 rfl)) (Nat.le_refl _) (by decide) hl) ?_
  rintro _ w7 ⟨rfl,hB7,hE7,hK7⟩
  exact Ze 2 [] [] [] trivial (v := .tuple #[]) rfl (⟨rfl,hB7,hE7⟩)
 refine Zq 5 ((c.kind : Int) = (2 : Int)) (fun h2 => ?_) (fun h2 => ?_)
 ·have hck : checkL p c = lineW [wdCheck,wdWithin,nmN p c.node,nmD p c.dest,Lib.itoa c.limit] := by unfold checkL; rw [if_neg h1,if_pos h2]
  refine Zz 0 (kAt Y20 [1,1,1,0,1,1,1,0] []) [(0,pt b 0),(5,pt b5 0),(6,sv (nmN p c.node)),(7,sv (nmD p c.dest))] ?_
  rw [hck] at hl ⊢
  refine Zh 6 [.c 0 3] hM12 trivial ?_
  refine Zl 0 E19 (number_any c.limit w9 (by omega) (by omega) (hG.ext hE11)) ?_
  rintro _ w5 ⟨rfl,hx5⟩
  obtain ⟨hE16,hM17⟩ := Xt hE11 hM12 hx5
  refine Zd 0 5 [sv ([99,104,101,99,107]),sv ([119,105,116,104,105,110]),sv (nmN p c.node),sv (nmD p c.dest),sv (Lib.itoa c.limit)] 9 hE16 hM17 ?_
  intro bw w6 hE19 hM20
  refine Zl 0 E18 (line_any B b l bw 5 5 [wdCheck,wdWithin,nmN p c.node,nmD p c.dest,Lib.itoa c.limit] w6 rfl (hE.trans hE19) hB (h.ext hE19) (blk_cells (hM20.blk 0 rfl)) (heap_lt (hM20.blk 0 rfl)) (Nat.le_refl _) (by decide) hl) ?_
  rintro _ w7 ⟨rfl,hB7,hE7,hK7⟩
  exact Ze 2 [] [] [] trivial (v := .tuple #[]) rfl (⟨rfl,hB7,hE7⟩)
 refine Zq 5 ((c.kind : Int) = (3 : Int)) (fun h3 => ?_) (fun h3 => ?_)
 ·have hck : checkL p c = lineW [wdCheck,wdWaypoint,nmN p c.node,nmD p c.dest,nmN p c.other] := by unfold checkL; rw [if_neg h1,if_neg h2,if_pos h3]
  refine Zz 0 (kAt Y20 [1,1,1,0,1,1,1,1,1,0] []) [(0,pt b 0),(6,sv (nmN p c.node)),(7,sv (nmD p c.dest)),(8,sv (nmN p c.other))] ?_
  rw [hck] at hl ⊢
  refine Zd 5 5 [sv ([99,104,101,99,107]),sv ([119,97,121,112,111,105,110,116]),sv (nmN p c.node),sv (nmD p c.dest),sv (nmN p c.other)] 9 hE11 hM12 ?_
  intro bw w6 hE22 hM23
  refine Zl 0 E18 (line_any B b l bw 5 5 [wdCheck,wdWaypoint,nmN p c.node,nmD p c.dest,nmN p c.other] w6 rfl (hE.trans hE22) hB (h.ext hE22) (blk_cells (hM23.blk 0 rfl)) (heap_lt (hM23.blk 0 rfl)) (Nat.le_refl _) (by decide) hl) ?_
  rintro _ w7 ⟨rfl,hB7,hE7,hK7⟩
  exact Ze 2 [] [] [] trivial (v := .tuple #[]) rfl (⟨rfl,hB7,hE7⟩)
 refine Zq 5 ((c.kind : Int) = (4 : Int)) (fun h4 => ?_) (fun h4 => ?_)
 ·have hck : checkL p c = lineW [wdCheck,wdEqual,nmN p c.node,nmN p c.other,nmD p c.dest] := by unfold checkL; rw [if_neg h1,if_neg h2,if_neg h3,if_pos h4]
  refine Zz 0 (kAt Y20 [1,1,1,0,1,1,1,1,1,1,1,0] []) [(0,pt b 0),(6,sv (nmN p c.node)),(7,sv (nmD p c.dest)),(8,sv (nmN p c.other))] ?_
  rw [hck] at hl ⊢
  refine Zd 5 5 [sv ([99,104,101,99,107]),sv ([101,113,117,97,108]),sv (nmN p c.node),sv (nmN p c.other),sv (nmD p c.dest)] 9 hE11 hM12 ?_
  intro bw w6 hE25 hM26
  refine Zl 0 E18 (line_any B b l bw 5 5 [wdCheck,wdEqual,nmN p c.node,nmN p c.other,nmD p c.dest] w6 rfl (hE.trans hE25) hB (h.ext hE25) (blk_cells (hM26.blk 0 rfl)) (heap_lt (hM26.blk 0 rfl)) (Nat.le_refl _) (by decide) hl) ?_
  rintro _ w7 ⟨rfl,hB7,hE7,hK7⟩
  exact Ze 2 [] [] [] trivial (v := .tuple #[]) rfl (⟨rfl,hB7,hE7⟩)
 exfalso; omega

end Go.Proofs.YtcbclephakfemaaGreatRRRDoor
