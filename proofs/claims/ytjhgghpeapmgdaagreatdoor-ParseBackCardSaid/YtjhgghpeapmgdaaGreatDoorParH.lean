/-
  PARSE: contracts of the statements' pick and awake.
-/
import Derived.Test.YtjhgghpeapmgdaaGreatDoorParG
import Derived.Test.YtjhgghpeapmgdaaGreatDoorMg6
import Derived.Test.YtjhgghpeapmgdaaGreatDoorPlanR3
import Derived.Test.YtjhgghpeapmgdaaGreatDoorMg3
namespace Go.Proofs.YtjhgghpeapmgdaaGreatDoor
open Go.Bk Go.Proofs

theorem E25 : Proofs.Enters Tryz.prog 25 := Proofs.enters_of Tryz.func25 (by kernel_rfl) rfl

set_option maxRecDepth 20000 in
theorem awake4  (w : World) (hG : Glob w) :
    Does Tryz.prog 25 [] w (fun v w' => v = .bool true ∧ Ext w w') := by
 refine startD (c := Y25) Tryz.func25 rfl (by kernel_rfl) ?_
 show G _ 42 [] _ (kAt Y25 [] []) [] w
 have hE1 : Ext w w := Ext.refl w
 have hM2 : Hold w w.heap.size [] := Hold.nil hE1.le
 refine sg0 6 (kOp Y25 [1,0] 0 []) [(0,.bool false)] ?_
 have h1 := Parse_any [112,114,111,116,111,99,111,108,32,118,101,99,116,111,114,59,32,102,97,105,108,117,114,101,115,32,48,59,32,110,111,100,101,32,97,32,49,59,32,108,105,110,107,32,97,32,97,32,49,59] w hG
 rw [awp1] at h1
 refine os0 _ (some 10) (kOp Y25 [1,0] 1 []) (runs_call E27 (h1)) ?_
 rintro _ w1 ⟨q1,rfl,hx1,hP1⟩
 have hE3 := hE1.trans hx1
 have hM4 := hM2.ext hx1
 refine sg0 4 (kOp Y25 [1,0] 5 []) [(0,.bool false),(11,(pv noPlan q1)),(12,iv 43),(13,iv 46)] ?_
 refine os0 (.alloc 29) (some 1) (kOp Y25 [1,0] 6 []) (runs_alloc (z := .agg #[iv 0,iv 0,iv 0,.slice none 0 0,.slice none 0 0,.slice none 0 0,.slice none 0 0]) (by kernel_rfl)) ?_
 rintro _ w2 ⟨b1,rfl,hN5⟩
 have hE6 := hE3.trans hN5.ext
 have hM7 := hM4.new hN5
 refine os0 (.store 29 (pt b1 0) (pv noPlan q1)) none (kOp Y25 [1,0] 7 []) (runs_st (hM7.blk 0 rfl) (by kernel_rfl)) ?_
 rintro _ w3 hC8
 have hE9 := hM7.toExt hE6 hC8 0 rfl
 have hM10 := hM7.set 0 rfl hC8
 refine sg0 5 (kOp Y25 [1,1,0] 0 []) [(0,.bool false),(2,iv 43),(3,iv 46)] ?_
 have h2 := Parse_any [112,114,111,116,111,99,111,108,32,112,97,116,104,32,51,59,32,102,97,105,108,117,114,101,115,32,49,59,32,110,111,100,101,32,98,32,55,59,32,110,111,100,101,32,97,32,57,59,32,108,105,110,107,32,97,32,98,32,50,59,32,100,101,115,116,32,120,32,97,116,32,97,32,98,59,32,99,104,101,99,107,32,101,113,117,97,108,32,97,32,98,32,120,59] w3 (hG.ext hE9)
 rw [awp2] at h2
 refine os0 _ (some 15) (kOp Y25 [1,1,0] 1 []) (runs_call E27 (h2)) ?_
 rintro _ w4 ⟨q2,rfl,hx4,hP2⟩
 have hE11 := hE9.trans hx4
 have hM12 := hM10.ext hx4
 have hF4 := Ext.refl w4
 refine sg0 4 (kOp Y25 [1,1,0] 5 []) [(0,.bool false),(2,iv 43),(3,iv 46),(16,(pv awPar q2)),(17,iv 0),(18,iv 0)] ?_
 refine os0 (.alloc 29) (some 4) (kOp Y25 [1,1,0] 6 []) (runs_alloc (z := .agg #[iv 0,iv 0,iv 0,.slice none 0 0,.slice none 0 0,.slice none 0 0,.slice none 0 0]) (by kernel_rfl)) ?_
 rintro _ w5 ⟨b2,rfl,hN13⟩
 have hl16 := Nat.le_trans hF4.le (Nat.le_of_eq hN13.lo.symm)
 have hE14 := hE11.trans hN13.ext
 have hM15 := hM12.new hN13
 have hv17 := Ext.trans hF4 hN13.ext
 refine os0 (.store 29 (pt b2 0) (pv awPar q2)) none (kOp Y25 [1,1,0] 7 []) (runs_st (hM15.blk 0 rfl) (by kernel_rfl)) ?_
 rintro _ w6 hC18
 have hE19 := hM15.toExt hE14 hC18 0 rfl
 have hM20 := hM15.set 0 rfl hC18
 have hv21 := hC18.ext hv17 hl16
 refine sgz 6 [.ld (pv awPar q2)] (kOp Y25 [1,1,1,0] 1 []) [(0,.bool false),(2,iv 43),(3,iv 46),(5,iv 0),(6,iv 0),(20,(pv awPar q2))] [cl w6 b2 0 (iv awPar.proto),cl w6 b2 1 (iv awPar.cap),cl w6 b2 2 (iv awPar.k),cl w6 b2 3 (.slice q2.a1 awPar.nodes.length q2.c1),cl w6 b2 4 (.slice q2.a2 awPar.links.length q2.c2),cl w6 b2 5 (.slice q2.a3 awPar.dests.length q2.c3),cl w6 b2 6 (.slice q2.a4 awPar.checks.length q2.c4)] (AC (cell_of (hM20.blk 0 rfl) rfl) (AC (cell_of (hM20.blk 0 rfl) rfl) (AC (cell_of (hM20.blk 0 rfl) rfl) (AC (cell_of (hM20.blk 0 rfl) rfl) (AC (cell_of (hM20.blk 0 rfl) rfl) (AC (cell_of (hM20.blk 0 rfl) rfl) (A1 (cell_of (hM20.blk 0 rfl) rfl)))))))) ?_
 have h3 := rPrint_any awPar q2 w6 (hP2.ext hv21)
 rw [awp3] at h3
 refine os0 _ (some 21) (kOp Y25 [1,1,1,0] 2 []) (runs_call E16 (h3)) ?_
 rintro _ w7 ⟨rfl,hx7⟩
 have hE22 := hE19.trans hx7
 have hM23 := hM20.ext hx7
 have hv24 := Ext.trans hv21 hx7
 refine sgz 28 [.exec,.exec,.exec,.exec,.exec,.exec,.exec,.exec] (kAt Y25 (ro1 5 []) []) [(0,.bool true)] [true = true,true = true,true = true,true = true,true = true,true = true,true = true,true = true] (AC rfl (AC rfl (AC rfl (AC rfl (AC rfl (AC rfl (AC rfl (A1 rfl)))))))) ?_
 exact ret1 (.bool true) (⟨rfl,hE22⟩)

end Go.Proofs.YtjhgghpeapmgdaaGreatDoor
