/-
  PLAN: contracts of the printer's line, number, check, and of Print.
-/
import Derived.Test.YtedojnihfnkmmaaDoorPlanH
namespace Go.Proofs.YtedojnihfnkmmaaDoor
open Go.Bk Go.Proofs

theorem E19 : Proofs.Enters Tryd.prog 19 := Proofs.enters_of Tryd.func19 (by kernel_rfl) rfl

theorem E21 : Proofs.Enters Tryd.prog 21 := Proofs.enters_of Tryd.func21 (by kernel_rfl) rfl

theorem E20 : Proofs.Enters Tryd.prog 20 := Proofs.enters_of Tryd.func20 (by kernel_rfl) rfl

theorem E11 : Proofs.Enters Tryd.prog 11 := Proofs.enters_of Tryd.func11 (by kernel_rfl) rfl

set_option maxRecDepth 20000 in
theorem line_any {w0 : World} (B b : Nat) (l : Bytes) (bw n c : Nat) (ws : List Bytes) (w : World) (hn : ws.length = n) (hE : Ext w0 w) (hB : w0.heap.size ≤ B) (h : Bld w B b l) (hc : Cells w (some ⟨bw, 0, none⟩) (ws.flatMap strC)) (hbw : bw < w.heap.size) (hcap : n ≤ c) (hN : n ≤ 140737488355328) (hl : l.length + (lineW ws).length ≤ 140737488355328) :
    Does Tryd.prog 19 [.pointer (some ⟨b, 0, none⟩), .slice (some ⟨bw, 0, none⟩) n c] w (fun r w' => r = .tuple #[] ∧ Bld w' B b (l ++ lineW ws) ∧ Ext w0 w' ∧ KeepT w w' b) := by
 refine startD (c := (bodyOf Tryd.f19)) Tryd.func19 rfl (by kernel_rfl) ?_
 show G _ 11 [] _ (kAt (bodyOf Tryd.f19) [] []) [(0, none, .pointer (some ⟨b, 0, none⟩)), (1, none, .slice (some ⟨bw, 0, none⟩) n c)] w
 have hl2 : (lineW ws).length = (joinW ws).length + 2 := by simp [lineW]
 have hE1 : Ext w w := Ext.refl w
 refine dBegin (k' := []) (id := 0) (m := 7) (ops := opsAt (cAt (bodyOf Tryd.f19) [])) (fun _ _ => True) (by kernel_rfl) (PQ.body _ _ _) (by kernel_rfl) (by kernel_rfl) ?_
 intro w2 hx3
 have hE4 := hE1.trans hx3
 refine dts [0, 1, 2, 3] [] [6, 7] 3 (lb 7 15) [(6, none, .pointer (some ⟨b, 0, none⟩)), (7, none, .slice (some ⟨bw, 0, none⟩) n c)] (fun w' => []) (fun w' hS => trivial) (trivial) ?_
 refine dAll 4 [] (by kernel_rfl) ?_
 refine dos [] (.call 45 [.slice (some ⟨bw, 0, none⟩) n c, .string (bs ([32]))]) (some 8) [] (lb 7 31) trivial (runs_call E45 (join_any bw n c ws hn w2 (hc.ext hx3) (Nat.lt_of_lt_of_le hbw hx3.le) hcap (by omega) hN)) ?_
 rintro _ w2 ⟨rfl, hx2⟩
 have hE5 := hE4.trans hx2
 refine ⟨trivial, ?_⟩
 refine dts [5] [] [6, 9] 1 (lb 7 63) [(6, none, .pointer (some ⟨b, 0, none⟩)), (9, none, .string (bs ((joinW ws) ++ ([59, 10]))))] (fun w' => [(joinW ws).length + ([59, 10]).length ≤ 9223372036854775807]) (fun w' hS => (show (joinW ws).length + ([59, 10]).length ≤ 9223372036854775807 from by simp only [List.length_cons, List.length_nil]; omega)) (trivial) ?_
 refine dAll 6 [] (by kernel_rfl) ?_
 refine dos [] (.call 44 [.pointer (some ⟨b, 0, none⟩), .string (bs ((joinW ws) ++ ([59, 10])))]) (some 10) [] (lb 7 127) trivial (runs_call E44 (by have h := write_any B b l (lineW ws) w2 (hE.trans hE5) hB (h.ext hE5) hl; exact h)) ?_
 rintro _ w3 ⟨rfl, hB3, hE3, hK3⟩
 refine ⟨trivial, ?_⟩
 refine dDone (by kernel_rfl) ?_
 exact endD (hs := []) (vs := []) (ps := []) (by kernel_rfl) trivial (v := .tuple #[]) rfl (⟨rfl, hB3, hE3, (KeepT.ext hE5).trans hK3⟩)

set_option maxRecDepth 20000 in
theorem number_any (n : Int) (w : World) (h0 : -9223372036854775808 ≤ n) (h1 : n ≤ 9223372036854775807) (hG : Glob w) :
    Does Tryd.prog 20 [.int .i64 n] w (fun v w' => v = .string (bs (Lib.itoa n)) ∧ Ext w w') := by
 refine startD (c := (bodyOf Tryd.f20)) Tryd.func20 rfl (by kernel_rfl) ?_
 show G _ 5 [] _ (kAt (bodyOf Tryd.f20) [] []) [(0, none, .int .i64 n)] w
 have hE1 : Ext w w := Ext.refl w
 refine sgs 7 [] [2, 3] (kOp (bodyOf Tryd.f20) [1, 0] 1 []) [(2, none, .string (bs ([]))), (3, none, .int .i64 n)] [] trivial ?_
 refine oss [] (.call 46 [.int .i64 n]) (some 4) (kOp (bodyOf Tryd.f20) [1, 0] 2 []) [] trivial (runs_call E46 (itoa_any n h0 h1 w hG)) ?_
 rintro _ w1 ⟨rfl, hx⟩
 have hE2 := hE1.trans hx
 refine sgs 2 [] [2] (kAt (bodyOf Tryd.f20) [1, 1] []) [(2, none, .string (bs (Lib.itoa n)))] [] trivial ?_
 exact retD (hs := []) (vs := [.string (bs (Lib.itoa n))]) (ps := []) (by kernel_rfl) trivial (v := .string (bs (Lib.itoa n))) rfl (⟨rfl, hE2⟩)

set_option maxRecDepth 20000 in
theorem pcheck_any {w0 : World} (B b : Nat) (l : Bytes) (p : PPlan) (q : PAd) (c : PCheck) (w : World) (hP : PlanAt w p q) (hR : RightP p) (hm : c ∈ p.checks) (hG : Glob w) (hE : Ext w0 w) (hB : w0.heap.size ≤ B) (h : Bld w B b l) (hl : l.length + (checkL p c).length ≤ 140737488355328) :
    Does Tryd.prog 21 [.pointer (some ⟨b, 0, none⟩), .agg #[.int .i64 p.proto, .int .i64 p.cap, .int .i64 p.k, .slice q.a1 p.nodes.length q.c1, .slice q.a2 p.links.length q.c2, .slice q.a3 p.dests.length q.c3, .slice q.a4 p.checks.length q.c4], .agg #[.int .i64 c.kind, .int .i64 c.node, .int .i64 c.dest, .int .i64 c.limit, .int .i64 c.other]] w (fun r w' => r = .tuple #[] ∧ Bld w' B b (l ++ checkL p c) ∧ Ext w0 w') := by
 refine startD (c := (bodyOf Tryd.f21)) Tryd.func21 rfl (by kernel_rfl) ?_
 show G _ 65 [] _ (kAt (bodyOf Tryd.f21) [] []) [(0, none, .pointer (some ⟨b, 0, none⟩)), (1, none, .agg #[.int .i64 p.proto, .int .i64 p.cap, .int .i64 p.k, .slice q.a1 p.nodes.length q.c1, .slice q.a2 p.links.length q.c2, .slice q.a3 p.dests.length q.c3, .slice q.a4 p.checks.length q.c4]), (2, none, .agg #[.int .i64 c.kind, .int .i64 c.node, .int .i64 c.dest, .int .i64 c.limit, .int .i64 c.other])] w
 have hcb := checkN_bounds (n := p.nodes.length) (d := p.dests.length) (by have := hR.n0; omega) (hR.check c hm)
 have hq := hP.dlen
 have hl1 := hP.l1
 have hl3 := hP.l3
 have hn1 : c.node.toNat < p.nodes.length := by omega
 have hn2 : c.other.toNat < p.nodes.length := by omega
 have hn3 : c.dest.toNat < q.ds.length := by omega
 have ha := hP.nodes.addrE nodeC_len (by decide) hn1
 have hb := hP.dests.addrE destC_len (by decide) hn3
 have k1 : w.cell? ⟨slB q.a1, slO q.a1 + c.node.toNat * 2, none⟩ = some (.string (bs (nmN p c.node))) := cellAt nodeC_len d0N hP.nodes hn1 (j := 0) rfl
 have k2 : w.cell? ⟨slB q.a1, slO q.a1 + c.other.toNat * 2, none⟩ = some (.string (bs (nmN p c.other))) := cellAt nodeC_len d0N hP.nodes hn2 (j := 0) rfl
 have k3 : w.cell? ⟨slB q.a3, slO q.a3 + c.dest.toNat * 2, none⟩ = some (.string (bs (nmD p c.dest))) := by have h := cellAt destC_len d0A hP.dests hn3 (j := 0) rfl; rw [hP.dget] at h; exact h
 have hE1 : Ext w w := Ext.refl w
 have hM2 : Hold w w.heap.size [] := Hold.nil hE1.le
 refine sgs 2 [] [0, 1, 2] (kOp (bodyOf Tryd.f21) [0] 0 []) [(0, none, .pointer (some ⟨b, 0, none⟩)), (1, none, .agg #[.int .i64 p.proto, .int .i64 p.cap, .int .i64 p.k, .slice q.a1 p.nodes.length q.c1, .slice q.a2 p.links.length q.c2, .slice q.a3 p.dests.length q.c3, .slice q.a4 p.checks.length q.c4]), (2, none, .agg #[.int .i64 c.kind, .int .i64 c.node, .int .i64 c.dest, .int .i64 c.limit, .int .i64 c.other])] [] trivial ?_
 refine oss [] (.box 29 (.agg #[.int .i64 p.proto, .int .i64 p.cap, .int .i64 p.k, .slice q.a1 p.nodes.length q.c1, .slice q.a2 p.links.length q.c2, .slice q.a3 p.dests.length q.c3, .slice q.a4 p.checks.length q.c4])) (some 4) (kOp (bodyOf Tryd.f21) [0] 1 []) [] trivial (runs_box _ _) ?_
 rintro _ w1 ⟨b4, rfl, hN3⟩
 have hE4 := hE1.trans hN3.ext
 have hM5 := hM2.new hN3
 refine oss [] (.box 47 (.agg #[.int .i64 c.kind, .int .i64 c.node, .int .i64 c.dest, .int .i64 c.limit, .int .i64 c.other])) (some 5) (kOp (bodyOf Tryd.f21) [0] 2 []) [] trivial (runs_box _ _) ?_
 rintro _ w2 ⟨b5, rfl, hN6⟩
 have hE7 := hE4.trans hN6.ext
 have hM8 := hM5.new hN6
 refine sgs 2 [] [0, 4, 5] (kAt (bodyOf Tryd.f21) [1, 0] []) [(0, none, .pointer (some ⟨b, 0, none⟩)), (4, none, .pointer (some ⟨b4, 0, none⟩)), (5, none, .pointer (some ⟨b5, 0, none⟩))] [] trivial ?_
 refine dBegin (k' := (kAt (bodyOf Tryd.f21) [1, 1] [])) (id := 1) (m := 24) (ops := opsAt (cAt (bodyOf Tryd.f21) [1, 0])) (fun w1 => Ext w1) (by kernel_rfl) (PQ.body _ _ _) (by kernel_rfl) (by kernel_rfl) ?_
 intro w9 hx10
 have hE11 := hE7.trans hx10
 have hM12 := hM8.ext hx10
 refine dts [0, 1, 2, 3, 4, 5, 6, 7, 8, 9, 10, 11, 12, 13, 14, 15, 16, 17, 18, 19, 20, 21, 22, 23] [.ld (.slice q.a1 p.nodes.length q.c1), .ld (.int .i64 c.node), .ld (.string (bs (nmN p c.node))), .ld (.slice q.a3 p.dests.length q.c3), .ld (.int .i64 c.dest), .ld (.string (bs (nmD p c.dest))), .ld (.slice q.a1 p.nodes.length q.c1), .ld (.int .i64 c.other), .ld (.string (bs (nmN p c.other)))] [0, 5, 6, 7, 8] 0 (lb 24 16777215) [(0, none, .pointer (some ⟨b, 0, none⟩)), (5, none, .pointer (some ⟨b5, 0, none⟩)), (6, none, .string (bs (nmN p c.node))), (7, none, .string (bs (nmD p c.dest))), (8, none, .string (bs (nmN p c.other)))] (fun w' => [(w').cell? ⟨b4, 3, none⟩ = some (.slice q.a1 p.nodes.length q.c1), (w').cell? ⟨b5, 1, none⟩ = some (.int .i64 c.node), (0 ≤ c.node ∧ c.node < ((p.nodes.length : Nat) : Int)), (q.a1 : Option Addr) = some ⟨(slB q.a1), slO q.a1, none⟩, (w').cell? ⟨(slB q.a1), slO q.a1 + ((c.node).toNat) * 2, none⟩ = some (.string (bs (nmN p c.node))), (w').cell? ⟨b4, 5, none⟩ = some (.slice q.a3 p.dests.length q.c3), (w').cell? ⟨b5, 2, none⟩ = some (.int .i64 c.dest), (0 ≤ c.dest ∧ c.dest < ((p.dests.length : Nat) : Int)), (q.a3 : Option Addr) = some ⟨(slB q.a3), slO q.a3, none⟩, (w').cell? ⟨(slB q.a3), slO q.a3 + ((c.dest).toNat) * 2, none⟩ = some (.string (bs (nmD p c.dest))), (w').cell? ⟨b4, 3, none⟩ = some (.slice q.a1 p.nodes.length q.c1), (w').cell? ⟨b5, 4, none⟩ = some (.int .i64 c.other), (0 ≤ c.other ∧ c.other < ((p.nodes.length : Nat) : Int)), (q.a1 : Option Addr) = some ⟨(slB q.a1), slO q.a1, none⟩, (w').cell? ⟨(slB q.a1), slO q.a1 + ((c.other).toNat) * 2, none⟩ = some (.string (bs (nmN p c.other)))]) (fun w' hS => ⟨(hS.cell (cell_of (hM12.blk 1 rfl) rfl)), (hS.cell (cell_of (hM12.blk 0 rfl) rfl)), (by omega), (by assumption), (hS.cell (hE11.cell k1)), (hS.cell (cell_of (hM12.blk 1 rfl) rfl)), (hS.cell (cell_of (hM12.blk 0 rfl) rfl)), (by omega), (by assumption), (hS.cell (hE11.cell k3)), (hS.cell (cell_of (hM12.blk 1 rfl) rfl)), (hS.cell (cell_of (hM12.blk 0 rfl) rfl)), (by omega), (by assumption), (show (w').cell? ⟨(slB q.a1), slO q.a1 + ((c.other).toNat) * 2, none⟩ = some (.string (bs (nmN p c.other))) from hS.cell (hE11.cell k2))⟩) (Ext.refl _) ?_
 refine dDone (by kernel_rfl) ?_
 refine sgs 11 [.ld (.int .i64 c.kind)] [0, 5, 6, 7, 8, 31, 32] (kAt (bodyOf Tryd.f21) [1, 1, 1, 0, 1] []) [(0, none, .pointer (some ⟨b, 0, none⟩)), (5, none, .pointer (some ⟨b5, 0, none⟩)), (6, none, .string (bs (nmN p c.node))), (7, none, .string (bs (nmD p c.dest))), (8, none, .string (bs (nmN p c.other))), (31, none, .int .i64 c.kind), (32, none, .bool (decide ((c.kind : Int) = (1 : Int))))] [w9.cell? ⟨b5, 0, none⟩ = some (.int .i64 c.kind)] (show w9.cell? ⟨b5, 0, none⟩ = some (.int .i64 c.kind) from cell_of (hM12.blk 0 rfl) rfl) ?_
 refine brs (decide ((c.kind : Int) = (1 : Int))) (kAt (bodyOf Tryd.f21) [1, 1, 1, 0, 1, 0] []) (kAt (bodyOf Tryd.f21) [1, 1, 1, 0, 1, 1] []) ((c.kind : Int) = (1 : Int)) (iffDec) (fun h1 => ?_) (fun h1 => ?_)
 · have hck : checkL p c = lineW [wdCheck, wdReach, nmN p c.node, nmD p c.dest] := by unfold checkL; rw [if_pos h1]
   rw [hck] at hl ⊢
   refine sgs 4 [] [34, 35, 36] (kOp (bodyOf Tryd.f21) [1, 1, 1, 0, 1, 0] 3 []) [(34, none, .pointer (some ⟨b, 0, none⟩)), (35, none, .string (bs (nmN p c.node))), (36, none, .string (bs (nmD p c.dest)))] [] trivial ?_
   refine oss [] (.bslice 56 4 [(0, .string (bs ([99, 104, 101, 99, 107]))), (1, .string (bs ([114, 101, 97, 99, 104]))), (2, .string (bs (nmN p c.node))), (3, .string (bs (nmD p c.dest)))]) (some 37) (kOp (bodyOf Tryd.f21) [1, 1, 1, 0, 1, 0] 4 []) [] trivial (runs_bslice (cs := [.string (bs ([99, 104, 101, 99, 107])), .string (bs ([114, 101, 97, 99, 104])), .string (bs (nmN p c.node)), .string (bs (nmD p c.dest))]) (e := 9) (by kernel_rfl)) ?_
   rintro _ w6 ⟨bw, rfl, hN13⟩
   have hE14 := hE11.trans hN13.ext
   have hM15 := hM12.new hN13
   refine oss [] (.call 19 [.pointer (some ⟨b, 0, none⟩), .slice (some ⟨bw, 0, none⟩) 4 4]) (some 38) (kOp (bodyOf Tryd.f21) [1, 1, 1, 0, 1, 0] 5 []) [] trivial (runs_call E19 (line_any B b l bw 4 4 [wdCheck, wdReach, nmN p c.node, nmD p c.dest] w6 rfl (hE.trans hE14) hB (h.ext hE14) (blk_cells (hM15.blk 0 rfl)) (heap_lt (hM15.blk 0 rfl)) (Nat.le_refl _) (by decide) hl)) ?_
   rintro _ w7 ⟨rfl, hB7, hE7, hK7⟩
   refine sgs 2 [] [] [] [] [] trivial ?_
   exact endD (hs := []) (vs := []) (ps := []) (by kernel_rfl) trivial (v := .tuple #[]) rfl (⟨rfl, hB7, hE7⟩)
 · refine sgs 5 [] [0, 5, 6, 7, 8, 31, 39] (kAt (bodyOf Tryd.f21) [1, 1, 1, 0, 1, 1, 1] []) [(0, none, .pointer (some ⟨b, 0, none⟩)), (5, none, .pointer (some ⟨b5, 0, none⟩)), (6, none, .string (bs (nmN p c.node))), (7, none, .string (bs (nmD p c.dest))), (8, none, .string (bs (nmN p c.other))), (31, none, .int .i64 c.kind), (39, none, .bool (decide ((c.kind : Int) = (2 : Int))))] [] trivial ?_
   refine brs (decide ((c.kind : Int) = (2 : Int))) (kAt (bodyOf Tryd.f21) [1, 1, 1, 0, 1, 1, 1, 0] []) (kAt (bodyOf Tryd.f21) [1, 1, 1, 0, 1, 1, 1, 1] []) ((c.kind : Int) = (2 : Int)) (iffDec) (fun h2 => ?_) (fun h2 => ?_)
   · have hck : checkL p c = lineW [wdCheck, wdWithin, nmN p c.node, nmD p c.dest, Lib.itoa c.limit] := by unfold checkL; rw [if_neg h1, if_pos h2]
     rw [hck] at hl ⊢
     refine sgs 6 [.ld (.int .i64 c.limit)] [41, 42, 43, 45] (kOp (bodyOf Tryd.f21) [1, 1, 1, 0, 1, 1, 1, 0] 5 []) [(41, none, .pointer (some ⟨b, 0, none⟩)), (42, none, .string (bs (nmN p c.node))), (43, none, .string (bs (nmD p c.dest))), (45, none, .int .i64 c.limit)] [w9.cell? ⟨b5, 3, none⟩ = some (.int .i64 c.limit)] (show w9.cell? ⟨b5, 3, none⟩ = some (.int .i64 c.limit) from cell_of (hM12.blk 0 rfl) rfl) ?_
     refine oss [] (.call 20 [.int .i64 c.limit]) (some 46) (kOp (bodyOf Tryd.f21) [1, 1, 1, 0, 1, 1, 1, 0] 6 []) [] trivial (runs_call E20 (number_any c.limit w9 (by omega) (by omega) (hG.ext hE11))) ?_
     rintro _ w5 ⟨rfl, hx5⟩
     have hE16 := hE11.trans hx5
     have hM17 := hM12.ext hx5
     refine oss [] (.bslice 56 5 [(0, .string (bs ([99, 104, 101, 99, 107]))), (1, .string (bs ([119, 105, 116, 104, 105, 110]))), (2, .string (bs (nmN p c.node))), (3, .string (bs (nmD p c.dest))), (4, .string (bs (Lib.itoa c.limit)))]) (some 47) (kOp (bodyOf Tryd.f21) [1, 1, 1, 0, 1, 1, 1, 0] 7 []) [] trivial (runs_bslice (cs := [.string (bs ([99, 104, 101, 99, 107])), .string (bs ([119, 105, 116, 104, 105, 110])), .string (bs (nmN p c.node)), .string (bs (nmD p c.dest)), .string (bs (Lib.itoa c.limit))]) (e := 9) (by kernel_rfl)) ?_
     rintro _ w6 ⟨bw, rfl, hN18⟩
     have hE19 := hE16.trans hN18.ext
     have hM20 := hM17.new hN18
     refine oss [] (.call 19 [.pointer (some ⟨b, 0, none⟩), .slice (some ⟨bw, 0, none⟩) 5 5]) (some 48) (kOp (bodyOf Tryd.f21) [1, 1, 1, 0, 1, 1, 1, 0] 8 []) [] trivial (runs_call E19 (line_any B b l bw 5 5 [wdCheck, wdWithin, nmN p c.node, nmD p c.dest, Lib.itoa c.limit] w6 rfl (hE.trans hE19) hB (h.ext hE19) (blk_cells (hM20.blk 0 rfl)) (heap_lt (hM20.blk 0 rfl)) (Nat.le_refl _) (by decide) hl)) ?_
     rintro _ w7 ⟨rfl, hB7, hE7, hK7⟩
     refine sgs 2 [] [] [] [] [] trivial ?_
     exact endD (hs := []) (vs := []) (ps := []) (by kernel_rfl) trivial (v := .tuple #[]) rfl (⟨rfl, hB7, hE7⟩)
   · refine sgs 5 [] [0, 6, 7, 8, 31, 49] (kAt (bodyOf Tryd.f21) [1, 1, 1, 0, 1, 1, 1, 1, 1] []) [(0, none, .pointer (some ⟨b, 0, none⟩)), (6, none, .string (bs (nmN p c.node))), (7, none, .string (bs (nmD p c.dest))), (8, none, .string (bs (nmN p c.other))), (31, none, .int .i64 c.kind), (49, none, .bool (decide ((c.kind : Int) = (3 : Int))))] [] trivial ?_
     refine brs (decide ((c.kind : Int) = (3 : Int))) (kAt (bodyOf Tryd.f21) [1, 1, 1, 0, 1, 1, 1, 1, 1, 0] []) (kAt (bodyOf Tryd.f21) [1, 1, 1, 0, 1, 1, 1, 1, 1, 1] []) ((c.kind : Int) = (3 : Int)) (iffDec) (fun h3 => ?_) (fun h3 => ?_)
     · have hck : checkL p c = lineW [wdCheck, wdWaypoint, nmN p c.node, nmD p c.dest, nmN p c.other] := by unfold checkL; rw [if_neg h1, if_neg h2, if_pos h3]
       rw [hck] at hl ⊢
       refine sgs 5 [] [51, 52, 53, 54] (kOp (bodyOf Tryd.f21) [1, 1, 1, 0, 1, 1, 1, 1, 1, 0] 4 []) [(51, none, .pointer (some ⟨b, 0, none⟩)), (52, none, .string (bs (nmN p c.node))), (53, none, .string (bs (nmD p c.dest))), (54, none, .string (bs (nmN p c.other)))] [] trivial ?_
       refine oss [] (.bslice 56 5 [(0, .string (bs ([99, 104, 101, 99, 107]))), (1, .string (bs ([119, 97, 121, 112, 111, 105, 110, 116]))), (2, .string (bs (nmN p c.node))), (3, .string (bs (nmD p c.dest))), (4, .string (bs (nmN p c.other)))]) (some 55) (kOp (bodyOf Tryd.f21) [1, 1, 1, 0, 1, 1, 1, 1, 1, 0] 5 []) [] trivial (runs_bslice (cs := [.string (bs ([99, 104, 101, 99, 107])), .string (bs ([119, 97, 121, 112, 111, 105, 110, 116])), .string (bs (nmN p c.node)), .string (bs (nmD p c.dest)), .string (bs (nmN p c.other))]) (e := 9) (by kernel_rfl)) ?_
       rintro _ w6 ⟨bw, rfl, hN21⟩
       have hE22 := hE11.trans hN21.ext
       have hM23 := hM12.new hN21
       refine oss [] (.call 19 [.pointer (some ⟨b, 0, none⟩), .slice (some ⟨bw, 0, none⟩) 5 5]) (some 56) (kOp (bodyOf Tryd.f21) [1, 1, 1, 0, 1, 1, 1, 1, 1, 0] 6 []) [] trivial (runs_call E19 (line_any B b l bw 5 5 [wdCheck, wdWaypoint, nmN p c.node, nmD p c.dest, nmN p c.other] w6 rfl (hE.trans hE22) hB (h.ext hE22) (blk_cells (hM23.blk 0 rfl)) (heap_lt (hM23.blk 0 rfl)) (Nat.le_refl _) (by decide) hl)) ?_
       rintro _ w7 ⟨rfl, hB7, hE7, hK7⟩
       refine sgs 2 [] [] [] [] [] trivial ?_
       exact endD (hs := []) (vs := []) (ps := []) (by kernel_rfl) trivial (v := .tuple #[]) rfl (⟨rfl, hB7, hE7⟩)
     · refine sgs 5 [] [0, 6, 7, 8, 57] (kAt (bodyOf Tryd.f21) [1, 1, 1, 0, 1, 1, 1, 1, 1, 1, 1] []) [(0, none, .pointer (some ⟨b, 0, none⟩)), (6, none, .string (bs (nmN p c.node))), (7, none, .string (bs (nmD p c.dest))), (8, none, .string (bs (nmN p c.other))), (57, none, .bool (decide ((c.kind : Int) = (4 : Int))))] [] trivial ?_
       refine brs (decide ((c.kind : Int) = (4 : Int))) (kAt (bodyOf Tryd.f21) [1, 1, 1, 0, 1, 1, 1, 1, 1, 1, 1, 0] []) (kAt (bodyOf Tryd.f21) [1, 1, 1, 0, 1, 1, 1, 1, 1, 1, 1, 1] []) ((c.kind : Int) = (4 : Int)) (iffDec) (fun h4 => ?_) (fun h4 => ?_)
       · have hck : checkL p c = lineW [wdCheck, wdEqual, nmN p c.node, nmN p c.other, nmD p c.dest] := by unfold checkL; rw [if_neg h1, if_neg h2, if_neg h3, if_pos h4]
         rw [hck] at hl ⊢
         refine sgs 5 [] [59, 60, 61, 62] (kOp (bodyOf Tryd.f21) [1, 1, 1, 0, 1, 1, 1, 1, 1, 1, 1, 0] 4 []) [(59, none, .pointer (some ⟨b, 0, none⟩)), (60, none, .string (bs (nmN p c.node))), (61, none, .string (bs (nmN p c.other))), (62, none, .string (bs (nmD p c.dest)))] [] trivial ?_
         refine oss [] (.bslice 56 5 [(0, .string (bs ([99, 104, 101, 99, 107]))), (1, .string (bs ([101, 113, 117, 97, 108]))), (2, .string (bs (nmN p c.node))), (3, .string (bs (nmN p c.other))), (4, .string (bs (nmD p c.dest)))]) (some 63) (kOp (bodyOf Tryd.f21) [1, 1, 1, 0, 1, 1, 1, 1, 1, 1, 1, 0] 5 []) [] trivial (runs_bslice (cs := [.string (bs ([99, 104, 101, 99, 107])), .string (bs ([101, 113, 117, 97, 108])), .string (bs (nmN p c.node)), .string (bs (nmN p c.other)), .string (bs (nmD p c.dest))]) (e := 9) (by kernel_rfl)) ?_
         rintro _ w6 ⟨bw, rfl, hN24⟩
         have hE25 := hE11.trans hN24.ext
         have hM26 := hM12.new hN24
         refine oss [] (.call 19 [.pointer (some ⟨b, 0, none⟩), .slice (some ⟨bw, 0, none⟩) 5 5]) (some 64) (kOp (bodyOf Tryd.f21) [1, 1, 1, 0, 1, 1, 1, 1, 1, 1, 1, 0] 6 []) [] trivial (runs_call E19 (line_any B b l bw 5 5 [wdCheck, wdEqual, nmN p c.node, nmN p c.other, nmD p c.dest] w6 rfl (hE.trans hE25) hB (h.ext hE25) (blk_cells (hM26.blk 0 rfl)) (heap_lt (hM26.blk 0 rfl)) (Nat.le_refl _) (by decide) hl)) ?_
         rintro _ w7 ⟨rfl, hB7, hE7, hK7⟩
         refine sgs 2 [] [] [] [] [] trivial ?_
         exact endD (hs := []) (vs := []) (ps := []) (by kernel_rfl) trivial (v := .tuple #[]) rfl (⟨rfl, hB7, hE7⟩)
       · exfalso; omega

end Go.Proofs.YtedojnihfnkmmaaDoor
