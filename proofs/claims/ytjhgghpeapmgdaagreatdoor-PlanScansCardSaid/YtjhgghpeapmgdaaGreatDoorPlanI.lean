/-
  PLAN: contracts of the printer's line, number, check, and of Print.
-/
import Derived.Test.YtjhgghpeapmgdaaGreatDoorPlanH
namespace Go.Proofs.YtjhgghpeapmgdaaGreatDoor
open Go.Bk Go.Proofs

theorem E31 : Proofs.Enters Tryz.prog 31 := Proofs.enters_of Tryz.func31 (by kernel_rfl) rfl

theorem E33 : Proofs.Enters Tryz.prog 33 := Proofs.enters_of Tryz.func33 (by kernel_rfl) rfl

theorem E32 : Proofs.Enters Tryz.prog 32 := Proofs.enters_of Tryz.func32 (by kernel_rfl) rfl

theorem E15 : Proofs.Enters Tryz.prog 15 := Proofs.enters_of Tryz.func15 (by kernel_rfl) rfl

set_option maxRecDepth 20000 in
theorem line_any {w0 : World} (B b : Nat) (l : Bytes) (bw n c : Nat) (ws : List Bytes) (w : World) (hn : ws.length = n) (hE : Ext w0 w) (hB : w0.heap.size ≤ B) (h : Bld w B b l) (hc : Cells w (some ⟨bw,0,none⟩) (ws.flatMap strC)) (hbw : bw < w.heap.size) (hcap : n ≤ c) (hN : n ≤ 140737488355328) (hl : l.length + (lineW ws).length ≤ 140737488355328) :
    Does Tryz.prog 31 [pt b 0,.slice (some ⟨bw,0,none⟩) n c] w (fun r w' => r = .tuple #[] ∧ Bld w' B b (l ++ lineW ws) ∧ Ext w0 w' ∧ KeepT w w' b) := by
 refine startD (c := (bodyOf Tryz.f31)) Tryz.func31 rfl (by kernel_rfl) ?_
 show G _ 11 [] _ (kAt (bodyOf Tryz.f31) [] []) (stz [(0,pt b 0),(1,.slice (some ⟨bw,0,none⟩) n c)]) w
 have hl2 : (lineW ws).length = (joinW ws).length + 2 := by simp [lineW]
 have hE1 : Ext w w := Ext.refl w
 refine dBegin (k' := []) (id := 0) (m := 7) (ops := opsAt (cAt (bodyOf Tryz.f31) [])) (fun _ _ => True) (by kernel_rfl) (PQ.body _ _ _) (by kernel_rfl) (by kernel_rfl) ?_
 intro w2 hx3
 have hE4 := hE1.trans hx3
 refine dtz [0,1,2,3] [] 3 (lb 7 15) [(6,pt b 0),(7,.slice (some ⟨bw,0,none⟩) n c)] (fun w' => []) (fun w' hS => trivial) (trivial) ?_
 refine dAll 4 [] (by kernel_rfl) ?_
 refine dos [] (.call 72 [.slice (some ⟨bw,0,none⟩) n c,sv ([32])]) (some 8) [] (lb 7 31) trivial (runs_call E72 (join_any bw n c ws hn w2 (hc.ext hx3) (Nat.lt_of_lt_of_le hbw hx3.le) hcap (by omega) hN)) ?_
 rintro _ w2 ⟨rfl,hx2⟩
 have hE5 := hE4.trans hx2
 refine ⟨trivial,?_⟩
 refine dtz [5] [] 1 (lb 7 63) [(6,pt b 0),(9,sv ((joinW ws) ++ ([59,10])))] (fun w' => [(joinW ws).length + ([59,10]).length ≤ 9223372036854775807]) (fun w' hS => (A1 (by simp only [List.length_cons,List.length_nil]; omega))) (trivial) ?_
 refine dAll 6 [] (by kernel_rfl) ?_
 refine dos [] (.call 71 [pt b 0,sv ((joinW ws) ++ ([59,10]))]) (some 10) [] (lb 7 127) trivial (runs_call E71 (by have h := write_any B b l (lineW ws) w2 (hE.trans hE5) hB (h.ext hE5) hl; exact h)) ?_
 rintro _ w3 ⟨rfl,hB3,hE3,hK3⟩
 refine ⟨trivial,?_⟩
 refine dDone (by kernel_rfl) ?_
 exact endD (hs := []) (vs := []) (ps := []) (by kernel_rfl) trivial (v := .tuple #[]) rfl (⟨rfl,hB3,hE3,(KeepT.ext hE5).trans hK3⟩)

set_option maxRecDepth 20000 in
theorem number_any (n : Int) (w : World) (h0 : -9223372036854775808 ≤ n) (h1 : n ≤ 9223372036854775807) (hG : Glob w) :
    Does Tryz.prog 32 [iv n] w (fun v w' => v = .string (bs (Lib.itoa n)) ∧ Ext w w') := by
 refine startD (c := (bodyOf Tryz.f32)) Tryz.func32 rfl (by kernel_rfl) ?_
 show G _ 5 [] _ (kAt (bodyOf Tryz.f32) [] []) (stz [(0,iv n)]) w
 have hE1 : Ext w w := Ext.refl w
 refine sgz 7 [] (kOp (bodyOf Tryz.f32) [1,0] 1 []) [(2,sv ([])),(3,iv n)] [] trivial ?_
 refine oss [] (.call 73 [iv n]) (some 4) (kOp (bodyOf Tryz.f32) [1,0] 2 []) [] trivial (runs_call E73 (itoa_any n h0 h1 w hG)) ?_
 rintro _ w1 ⟨rfl,hx⟩
 have hE2 := hE1.trans hx
 refine sgz 2 [] (kAt (bodyOf Tryz.f32) [1,1] []) [(2,sv (Lib.itoa n))] [] trivial ?_
 exact retD (hs := []) (vs := [sv (Lib.itoa n)]) (ps := []) (by kernel_rfl) trivial (v := sv (Lib.itoa n)) rfl (⟨rfl,hE2⟩)

set_option maxRecDepth 20000 in
theorem pcheck_any {w0 : World} (B b : Nat) (l : Bytes) (p : PPlan) (q : PAd) (c : PCheck) (w : World) (hP : PlanAt w p q) (hR : RightP p) (hm : c ∈ p.checks) (hG : Glob w) (hE : Ext w0 w) (hB : w0.heap.size ≤ B) (h : Bld w B b l) (hl : l.length + (checkL p c).length ≤ 140737488355328) :
    Does Tryz.prog 33 [pt b 0,.agg #[iv p.proto,iv p.cap,iv p.k,.slice q.a1 p.nodes.length q.c1,.slice q.a2 p.links.length q.c2,.slice q.a3 p.dests.length q.c3,.slice q.a4 p.checks.length q.c4],.agg #[iv c.kind,iv c.node,iv c.dest,iv c.limit,iv c.other]] w (fun r w' => r = .tuple #[] ∧ Bld w' B b (l ++ checkL p c) ∧ Ext w0 w') := by
 refine startD (c := (bodyOf Tryz.f33)) Tryz.func33 rfl (by kernel_rfl) ?_
 show G _ 65 [] _ (kAt (bodyOf Tryz.f33) [] []) (stz [(0,pt b 0),(1,.agg #[iv p.proto,iv p.cap,iv p.k,.slice q.a1 p.nodes.length q.c1,.slice q.a2 p.links.length q.c2,.slice q.a3 p.dests.length q.c3,.slice q.a4 p.checks.length q.c4]),(2,.agg #[iv c.kind,iv c.node,iv c.dest,iv c.limit,iv c.other])]) w
 have hcb := checkN_bounds (n := p.nodes.length) (d := p.dests.length) (by have := hR.n0; omega) (hR.check c hm)
 have hq := hP.dlen
 have hl1 := hP.l1
 have hl3 := hP.l3
 have hn1 : c.node.toNat < p.nodes.length := by omega
 have hn2 : c.other.toNat < p.nodes.length := by omega
 have hn3 : c.dest.toNat < q.ds.length := by omega
 have ha := hP.nodes.addrE nodeC_len (by decide) hn1
 have hb := hP.dests.addrE destC_len (by decide) hn3
 have k1 : w.cell? ⟨slB q.a1,slO q.a1 + c.node.toNat * 2,none⟩ = some (.string (bs (nmN p c.node))) := cellAt nodeC_len d0N hP.nodes hn1 (j := 0) rfl
 have k2 : w.cell? ⟨slB q.a1,slO q.a1 + c.other.toNat * 2,none⟩ = some (.string (bs (nmN p c.other))) := cellAt nodeC_len d0N hP.nodes hn2 (j := 0) rfl
 have k3 : w.cell? ⟨slB q.a3,slO q.a3 + c.dest.toNat * 2,none⟩ = some (.string (bs (nmD p c.dest))) := by have h := cellAt destC_len d0A hP.dests hn3 (j := 0) rfl; rw [hP.dget] at h; exact h
 have hE1 : Ext w w := Ext.refl w
 have hM2 : Hold w w.heap.size [] := Hold.nil hE1.le
 refine sgz 2 [] (kOp (bodyOf Tryz.f33) [0] 0 []) [(0,pt b 0),(1,.agg #[iv p.proto,iv p.cap,iv p.k,.slice q.a1 p.nodes.length q.c1,.slice q.a2 p.links.length q.c2,.slice q.a3 p.dests.length q.c3,.slice q.a4 p.checks.length q.c4]),(2,.agg #[iv c.kind,iv c.node,iv c.dest,iv c.limit,iv c.other])] [] trivial ?_
 refine oss [] (.box 29 (.agg #[iv p.proto,iv p.cap,iv p.k,.slice q.a1 p.nodes.length q.c1,.slice q.a2 p.links.length q.c2,.slice q.a3 p.dests.length q.c3,.slice q.a4 p.checks.length q.c4])) (some 4) (kOp (bodyOf Tryz.f33) [0] 1 []) [] trivial (runs_box _ _) ?_
 rintro _ w1 ⟨b4,rfl,hN3⟩
 have hE4 := hE1.trans hN3.ext
 have hM5 := hM2.new hN3
 refine oss [] (.box 67 (.agg #[iv c.kind,iv c.node,iv c.dest,iv c.limit,iv c.other])) (some 5) (kOp (bodyOf Tryz.f33) [0] 2 []) [] trivial (runs_box _ _) ?_
 rintro _ w2 ⟨b5,rfl,hN6⟩
 have hE7 := hE4.trans hN6.ext
 have hM8 := hM5.new hN6
 refine sgz 2 [] (kAt (bodyOf Tryz.f33) [1,0] []) [(0,pt b 0),(4,pt b4 0),(5,pt b5 0)] [] trivial ?_
 refine dBegin (k' := (kAt (bodyOf Tryz.f33) [1,1] [])) (id := 1) (m := 24) (ops := opsAt (cAt (bodyOf Tryz.f33) [1,0])) (fun w1 => Ext w1) (by kernel_rfl) (PQ.body _ _ _) (by kernel_rfl) (by kernel_rfl) ?_
 intro w9 hx10
 have hE11 := hE7.trans hx10
 have hM12 := hM8.ext hx10
 refine dtz [0,1,2,3,4,5,6,7,8,9,10,11,12,13,14,15,16,17,18,19,20,21,22,23] [.ld (.slice q.a1 p.nodes.length q.c1),.ld (iv c.node),.ld (sv (nmN p c.node)),.ld (.slice q.a3 p.dests.length q.c3),.ld (iv c.dest),.ld (sv (nmD p c.dest)),.ld (.slice q.a1 p.nodes.length q.c1),.ld (iv c.other),.ld (sv (nmN p c.other))] 0 (lb 24 16777215) [(0,pt b 0),(5,pt b5 0),(6,sv (nmN p c.node)),(7,sv (nmD p c.dest)),(8,sv (nmN p c.other))] (fun w' => [(w').cell? ⟨b4,3,none⟩ = some (.slice q.a1 p.nodes.length q.c1),(w').cell? ⟨b5,1,none⟩ = some (iv c.node),(0 ≤ c.node ∧ c.node < ((p.nodes.length:Nat):Int)),(q.a1 : Option Addr) = some ⟨(slB q.a1),slO q.a1,none⟩,(w').cell? ⟨(slB q.a1),slO q.a1 + ((c.node).toNat) * 2,none⟩ = some (sv (nmN p c.node)),(w').cell? ⟨b4,5,none⟩ = some (.slice q.a3 p.dests.length q.c3),(w').cell? ⟨b5,2,none⟩ = some (iv c.dest),(0 ≤ c.dest ∧ c.dest < ((p.dests.length:Nat):Int)),(q.a3 : Option Addr) = some ⟨(slB q.a3),slO q.a3,none⟩,(w').cell? ⟨(slB q.a3),slO q.a3 + ((c.dest).toNat) * 2,none⟩ = some (sv (nmD p c.dest)),(w').cell? ⟨b4,3,none⟩ = some (.slice q.a1 p.nodes.length q.c1),(w').cell? ⟨b5,4,none⟩ = some (iv c.other),(0 ≤ c.other ∧ c.other < ((p.nodes.length:Nat):Int)),(q.a1 : Option Addr) = some ⟨(slB q.a1),slO q.a1,none⟩,(w').cell? ⟨(slB q.a1),slO q.a1 + ((c.other).toNat) * 2,none⟩ = some (sv (nmN p c.other))]) (fun w' hS => (AC (hS.cell (cell_of (hM12.blk 1 rfl) rfl)) (AC (hS.cell (cell_of (hM12.blk 0 rfl) rfl)) (AC (by omega) (AC (by assumption) (AC (hS.cell (hE11.cell k1)) (AC (hS.cell (cell_of (hM12.blk 1 rfl) rfl)) (AC (hS.cell (cell_of (hM12.blk 0 rfl) rfl)) (AC (by omega) (AC (by assumption) (AC (hS.cell (hE11.cell k3)) (AC (hS.cell (cell_of (hM12.blk 1 rfl) rfl)) (AC (hS.cell (cell_of (hM12.blk 0 rfl) rfl)) (AC (by omega) (AC (by assumption) (A1 (hS.cell (hE11.cell k2)))))))))))))))))) (Ext.refl _) ?_
 refine dDone (by kernel_rfl) ?_
 refine sgz 11 [.ld (iv c.kind)] (kAt (bodyOf Tryz.f33) [1,1,1,0,1] []) [(0,pt b 0),(5,pt b5 0),(6,sv (nmN p c.node)),(7,sv (nmD p c.dest)),(8,sv (nmN p c.other)),(31,iv c.kind),(32,.bool (decide ((c.kind : Int) = (1 : Int))))] [w9.cell? ⟨b5,0,none⟩ = some (iv c.kind)] (A1 (cell_of (hM12.blk 0 rfl) rfl)) ?_
 refine brs (decide ((c.kind : Int) = (1 : Int))) (kAt (bodyOf Tryz.f33) [1,1,1,0,1,0] []) (kAt (bodyOf Tryz.f33) [1,1,1,0,1,1] []) ((c.kind : Int) = (1 : Int)) (iffDec) (fun h1 => ?_) (fun h1 => ?_)
 · have hck : checkL p c = lineW [wdCheck,wdReach,nmN p c.node,nmD p c.dest] := by unfold checkL; rw [if_pos h1]
   rw [hck] at hl ⊢
   refine sgz 4 [] (kOp (bodyOf Tryz.f33) [1,1,1,0,1,0] 3 []) [(34,pt b 0),(35,sv (nmN p c.node)),(36,sv (nmD p c.dest))] [] trivial ?_
   refine oss [] (.bslice 37 4 [(0,sv ([99,104,101,99,107])),(1,sv ([114,101,97,99,104])),(2,sv (nmN p c.node)),(3,sv (nmD p c.dest))]) (some 37) (kOp (bodyOf Tryz.f33) [1,1,1,0,1,0] 4 []) [] trivial (runs_bslice (cs := [sv ([99,104,101,99,107]),sv ([114,101,97,99,104]),sv (nmN p c.node),sv (nmD p c.dest)]) (e := 9) (by kernel_rfl)) ?_
   rintro _ w6 ⟨bw,rfl,hN13⟩
   have hE14 := hE11.trans hN13.ext
   have hM15 := hM12.new hN13
   refine oss [] (.call 31 [pt b 0,.slice (some ⟨bw,0,none⟩) 4 4]) (some 38) (kOp (bodyOf Tryz.f33) [1,1,1,0,1,0] 5 []) [] trivial (runs_call E31 (line_any B b l bw 4 4 [wdCheck,wdReach,nmN p c.node,nmD p c.dest] w6 rfl (hE.trans hE14) hB (h.ext hE14) (blk_cells (hM15.blk 0 rfl)) (heap_lt (hM15.blk 0 rfl)) (Nat.le_refl _) (by decide) hl)) ?_
   rintro _ w7 ⟨rfl,hB7,hE7,hK7⟩
   refine sgs 2 [] [] [] [] [] trivial ?_
   exact endD (hs := []) (vs := []) (ps := []) (by kernel_rfl) trivial (v := .tuple #[]) rfl (⟨rfl,hB7,hE7⟩)
 · refine sgz 5 [] (kAt (bodyOf Tryz.f33) [1,1,1,0,1,1,1] []) [(0,pt b 0),(5,pt b5 0),(6,sv (nmN p c.node)),(7,sv (nmD p c.dest)),(8,sv (nmN p c.other)),(31,iv c.kind),(39,.bool (decide ((c.kind : Int) = (2 : Int))))] [] trivial ?_
   refine brs (decide ((c.kind : Int) = (2 : Int))) (kAt (bodyOf Tryz.f33) [1,1,1,0,1,1,1,0] []) (kAt (bodyOf Tryz.f33) [1,1,1,0,1,1,1,1] []) ((c.kind : Int) = (2 : Int)) (iffDec) (fun h2 => ?_) (fun h2 => ?_)
   · have hck : checkL p c = lineW [wdCheck,wdWithin,nmN p c.node,nmD p c.dest,Lib.itoa c.limit] := by unfold checkL; rw [if_neg h1,if_pos h2]
     rw [hck] at hl ⊢
     refine sgz 6 [.ld (iv c.limit)] (kOp (bodyOf Tryz.f33) [1,1,1,0,1,1,1,0] 5 []) [(41,pt b 0),(42,sv (nmN p c.node)),(43,sv (nmD p c.dest)),(45,iv c.limit)] [w9.cell? ⟨b5,3,none⟩ = some (iv c.limit)] (A1 (cell_of (hM12.blk 0 rfl) rfl)) ?_
     refine oss [] (.call 32 [iv c.limit]) (some 46) (kOp (bodyOf Tryz.f33) [1,1,1,0,1,1,1,0] 6 []) [] trivial (runs_call E32 (number_any c.limit w9 (by omega) (by omega) (hG.ext hE11))) ?_
     rintro _ w5 ⟨rfl,hx5⟩
     have hE16 := hE11.trans hx5
     have hM17 := hM12.ext hx5
     refine oss [] (.bslice 37 5 [(0,sv ([99,104,101,99,107])),(1,sv ([119,105,116,104,105,110])),(2,sv (nmN p c.node)),(3,sv (nmD p c.dest)),(4,sv (Lib.itoa c.limit))]) (some 47) (kOp (bodyOf Tryz.f33) [1,1,1,0,1,1,1,0] 7 []) [] trivial (runs_bslice (cs := [sv ([99,104,101,99,107]),sv ([119,105,116,104,105,110]),sv (nmN p c.node),sv (nmD p c.dest),sv (Lib.itoa c.limit)]) (e := 9) (by kernel_rfl)) ?_
     rintro _ w6 ⟨bw,rfl,hN18⟩
     have hE19 := hE16.trans hN18.ext
     have hM20 := hM17.new hN18
     refine oss [] (.call 31 [pt b 0,.slice (some ⟨bw,0,none⟩) 5 5]) (some 48) (kOp (bodyOf Tryz.f33) [1,1,1,0,1,1,1,0] 8 []) [] trivial (runs_call E31 (line_any B b l bw 5 5 [wdCheck,wdWithin,nmN p c.node,nmD p c.dest,Lib.itoa c.limit] w6 rfl (hE.trans hE19) hB (h.ext hE19) (blk_cells (hM20.blk 0 rfl)) (heap_lt (hM20.blk 0 rfl)) (Nat.le_refl _) (by decide) hl)) ?_
     rintro _ w7 ⟨rfl,hB7,hE7,hK7⟩
     refine sgs 2 [] [] [] [] [] trivial ?_
     exact endD (hs := []) (vs := []) (ps := []) (by kernel_rfl) trivial (v := .tuple #[]) rfl (⟨rfl,hB7,hE7⟩)
   · refine sgz 5 [] (kAt (bodyOf Tryz.f33) [1,1,1,0,1,1,1,1,1] []) [(0,pt b 0),(6,sv (nmN p c.node)),(7,sv (nmD p c.dest)),(8,sv (nmN p c.other)),(31,iv c.kind),(49,.bool (decide ((c.kind : Int) = (3 : Int))))] [] trivial ?_
     refine brs (decide ((c.kind : Int) = (3 : Int))) (kAt (bodyOf Tryz.f33) [1,1,1,0,1,1,1,1,1,0] []) (kAt (bodyOf Tryz.f33) [1,1,1,0,1,1,1,1,1,1] []) ((c.kind : Int) = (3 : Int)) (iffDec) (fun h3 => ?_) (fun h3 => ?_)
     · have hck : checkL p c = lineW [wdCheck,wdWaypoint,nmN p c.node,nmD p c.dest,nmN p c.other] := by unfold checkL; rw [if_neg h1,if_neg h2,if_pos h3]
       rw [hck] at hl ⊢
       refine sgz 5 [] (kOp (bodyOf Tryz.f33) [1,1,1,0,1,1,1,1,1,0] 4 []) [(51,pt b 0),(52,sv (nmN p c.node)),(53,sv (nmD p c.dest)),(54,sv (nmN p c.other))] [] trivial ?_
       refine oss [] (.bslice 37 5 [(0,sv ([99,104,101,99,107])),(1,sv ([119,97,121,112,111,105,110,116])),(2,sv (nmN p c.node)),(3,sv (nmD p c.dest)),(4,sv (nmN p c.other))]) (some 55) (kOp (bodyOf Tryz.f33) [1,1,1,0,1,1,1,1,1,0] 5 []) [] trivial (runs_bslice (cs := [sv ([99,104,101,99,107]),sv ([119,97,121,112,111,105,110,116]),sv (nmN p c.node),sv (nmD p c.dest),sv (nmN p c.other)]) (e := 9) (by kernel_rfl)) ?_
       rintro _ w6 ⟨bw,rfl,hN21⟩
       have hE22 := hE11.trans hN21.ext
       have hM23 := hM12.new hN21
       refine oss [] (.call 31 [pt b 0,.slice (some ⟨bw,0,none⟩) 5 5]) (some 56) (kOp (bodyOf Tryz.f33) [1,1,1,0,1,1,1,1,1,0] 6 []) [] trivial (runs_call E31 (line_any B b l bw 5 5 [wdCheck,wdWaypoint,nmN p c.node,nmD p c.dest,nmN p c.other] w6 rfl (hE.trans hE22) hB (h.ext hE22) (blk_cells (hM23.blk 0 rfl)) (heap_lt (hM23.blk 0 rfl)) (Nat.le_refl _) (by decide) hl)) ?_
       rintro _ w7 ⟨rfl,hB7,hE7,hK7⟩
       refine sgs 2 [] [] [] [] [] trivial ?_
       exact endD (hs := []) (vs := []) (ps := []) (by kernel_rfl) trivial (v := .tuple #[]) rfl (⟨rfl,hB7,hE7⟩)
     · refine sgz 5 [] (kAt (bodyOf Tryz.f33) [1,1,1,0,1,1,1,1,1,1,1] []) [(0,pt b 0),(6,sv (nmN p c.node)),(7,sv (nmD p c.dest)),(8,sv (nmN p c.other)),(57,.bool (decide ((c.kind : Int) = (4 : Int))))] [] trivial ?_
       refine brs (decide ((c.kind : Int) = (4 : Int))) (kAt (bodyOf Tryz.f33) [1,1,1,0,1,1,1,1,1,1,1,0] []) (kAt (bodyOf Tryz.f33) [1,1,1,0,1,1,1,1,1,1,1,1] []) ((c.kind : Int) = (4 : Int)) (iffDec) (fun h4 => ?_) (fun h4 => ?_)
       · have hck : checkL p c = lineW [wdCheck,wdEqual,nmN p c.node,nmN p c.other,nmD p c.dest] := by unfold checkL; rw [if_neg h1,if_neg h2,if_neg h3,if_pos h4]
         rw [hck] at hl ⊢
         refine sgz 5 [] (kOp (bodyOf Tryz.f33) [1,1,1,0,1,1,1,1,1,1,1,0] 4 []) [(59,pt b 0),(60,sv (nmN p c.node)),(61,sv (nmN p c.other)),(62,sv (nmD p c.dest))] [] trivial ?_
         refine oss [] (.bslice 37 5 [(0,sv ([99,104,101,99,107])),(1,sv ([101,113,117,97,108])),(2,sv (nmN p c.node)),(3,sv (nmN p c.other)),(4,sv (nmD p c.dest))]) (some 63) (kOp (bodyOf Tryz.f33) [1,1,1,0,1,1,1,1,1,1,1,0] 5 []) [] trivial (runs_bslice (cs := [sv ([99,104,101,99,107]),sv ([101,113,117,97,108]),sv (nmN p c.node),sv (nmN p c.other),sv (nmD p c.dest)]) (e := 9) (by kernel_rfl)) ?_
         rintro _ w6 ⟨bw,rfl,hN24⟩
         have hE25 := hE11.trans hN24.ext
         have hM26 := hM12.new hN24
         refine oss [] (.call 31 [pt b 0,.slice (some ⟨bw,0,none⟩) 5 5]) (some 64) (kOp (bodyOf Tryz.f33) [1,1,1,0,1,1,1,1,1,1,1,0] 6 []) [] trivial (runs_call E31 (line_any B b l bw 5 5 [wdCheck,wdEqual,nmN p c.node,nmN p c.other,nmD p c.dest] w6 rfl (hE.trans hE25) hB (h.ext hE25) (blk_cells (hM26.blk 0 rfl)) (heap_lt (hM26.blk 0 rfl)) (Nat.le_refl _) (by decide) hl)) ?_
         rintro _ w7 ⟨rfl,hB7,hE7,hK7⟩
         refine sgs 2 [] [] [] [] [] trivial ?_
         exact endD (hs := []) (vs := []) (ps := []) (by kernel_rfl) trivial (v := .tuple #[]) rfl (⟨rfl,hB7,hE7⟩)
       · exfalso; omega

end Go.Proofs.YtjhgghpeapmgdaaGreatDoor
