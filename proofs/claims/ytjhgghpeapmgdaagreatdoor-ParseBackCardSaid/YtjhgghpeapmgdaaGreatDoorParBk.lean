/-
  PARSE: ParseBack returns true: what is printed is parsed to the same.
-/
import Derived.Test.YtjhgghpeapmgdaaGreatDoorParH
import Derived.Test.YtjhgghpeapmgdaaGreatDoorParLines
import Derived.Test.YtjhgghpeapmgdaaGreatDoorPlanM
import Derived.Test.YtjhgghpeapmgdaaGreatDoorPlanRs
import Derived.Test.YtjhgghpeapmgdaaGreatDoorParStops
import Derived.Test.YtjhgghpeapmgdaaGreatDoorPlanJ
import Derived.Test.YtjhgghpeapmgdaaGreatDoorMg3
namespace Go.Proofs.YtjhgghpeapmgdaaGreatDoor
open Go.Bk Go.Proofs

set_option maxRecDepth 20000 in
theorem ParseBack_any (raw : List Int) (a : Option Addr) (c : Nat) (w : World) (hG : Glob w) (hc : Cells w a (raw.flatMap intCells)) (hs : Small raw) (hcap : raw.length ≤ c) :
    Does Tryz.prog 9 [.slice a raw.length c] w (fun v w' => v = .bool true ∧ Ext w w') := by
 refine startD (c := Y9) Tryz.func9 rfl (by kernel_rfl) ?_
 show G _ 47 [] _ (kAt Y9 [] []) (stz [(0,.slice a raw.length c)]) w
 obtain ⟨P,hPP⟩ : ∃ P,netP raw = P := ⟨_,rfl⟩
 have hR : RightP P := hPP ▸ netP_right raw
 have hE1 : Ext w w := Ext.refl w
 have hM2 : Hold w w.heap.size [] := Hold.nil hE1.le
 refine sg0 6 (kOp Y9 [1,0] 0 []) [(0,.slice a raw.length c),(2,.bool false)] ?_
 refine os0 _ (some 10) (kOp Y9 [1,0] 1 []) (runs_call E25 (awake4 w hG)) ?_
 rintro _ w0 ⟨rfl,hx0⟩
 have hE3 := hE1.trans hx0
 have hM4 := hM2.ext hx0
 refine sg0 5 (kOp Y9 [1,1,0] 1 []) [(2,.bool false),(3,.bool true),(11,.slice a raw.length c)] ?_
 refine os0 (.call 14 [.slice a raw.length c]) (some 12) (kOp Y9 [1,1,0] 2 []) (runs_call E14 (by have h := Net_any raw a c w0 (hc.ext hE3) hs hcap; rw [hPP] at h; exact h)) ?_
 rintro _ w1 ⟨q,rfl,hx1,hN1⟩
 have hE5 := hE3.trans hx1
 have hM6 := hM4.ext hx1
 have hA := hN1.plan hR
 have hr := Ext.refl w1
 refine os0 (.alloc 29) (some 4) (kOp Y9 [1,1,0] 3 []) (runs_alloc (z := .agg #[iv 0,iv 0,iv 0,.slice none 0 0,.slice none 0 0,.slice none 0 0,.slice none 0 0]) (by kernel_rfl)) ?_
 rintro _ wa ⟨b1,rfl,hN7⟩
 have hl10 := Nat.le_trans hr.le (Nat.le_of_eq hN7.lo.symm)
 have hE8 := hE5.trans hN7.ext
 have hM9 := hM6.new hN7
 have hv11 := Ext.trans hr hN7.ext
 refine os0 (.store 29 (pt b1 0) (pv P q)) none (kOp Y9 [1,1,0] 4 []) (runs_st (hM9.blk 0 rfl) (by kernel_rfl)) ?_
 rintro _ wb hC12
 have hE13 := hM9.toExt hE8 hC12 0 rfl
 have hM14 := hM9.set 0 rfl hC12
 have hv15 := hC12.ext hv11 hl10
 refine sgz 4 [.ld (pv P q)] (kOp Y9 [1,1,1,0] 1 []) [(2,.bool false),(3,.bool true),(4,pt b1 0),(14,(pv P q))] [cl wb b1 0 (iv P.proto),cl wb b1 1 (iv P.cap),cl wb b1 2 (iv P.k),cl wb b1 3 (.slice q.a1 P.nodes.length q.c1),cl wb b1 4 (.slice q.a2 P.links.length q.c2),cl wb b1 5 (.slice q.a3 P.dests.length q.c3),cl wb b1 6 (.slice q.a4 P.checks.length q.c4)] (AC (cell_of (hM14.blk 0 rfl) rfl) (AC (cell_of (hM14.blk 0 rfl) rfl) (AC (cell_of (hM14.blk 0 rfl) rfl) (AC (cell_of (hM14.blk 0 rfl) rfl) (AC (cell_of (hM14.blk 0 rfl) rfl) (AC (cell_of (hM14.blk 0 rfl) rfl) (A1 (cell_of (hM14.blk 0 rfl) rfl)))))))) ?_
 refine os0 (.call 15 [(pv P q)]) (some 15) (kOp Y9 [1,1,1,0] 2 []) (runs_call E15 (by have h := Print_any P q wb (hA.ext hv15) (hG.ext hE13); rw [printB_right hR] at h; exact h)) ?_
 rintro _ w2 ⟨rfl,hx2⟩
 have hE16 := hE13.trans hx2
 have hM17 := hM14.ext hx2
 have hv18 := Ext.trans hv15 hx2
 have hpl := print_len hR
 refine sg0 9 (kOp Y9 (ro1 4 [0]) 1 []) [(2,.bool false),(3,.bool true),(4,pt b1 0),(6,iv 0),(19,sv (printT P))] ?_
 refine os0 (.call 27 [sv (printT P)]) (some 20) (kOp Y9 (ro1 4 [0]) 2 []) (runs_call E27 (by have h := Parse_any (printT P) w2 (hG.ext hE16); rw [parse_print hR] at h; exact h)) ?_
 rintro _ w3 ⟨q2,rfl,hx3,hP3⟩
 have hE19 := hE16.trans hx3
 have hM20 := hM17.ext hx3
 have hv21 := Ext.trans hv18 hx3
 have hr3 := Ext.refl w3
 refine sg0 4 (kOp Y9 (ro1 4 [0]) 6 []) [(2,.bool false),(3,.bool true),(4,pt b1 0),(6,iv 0),(21,(pv P q2)),(22,iv 0),(23,iv 0)] ?_
 refine os0 (.alloc 29) (some 7) (kOp Y9 (ro1 4 [0]) 7 []) (runs_alloc (z := .agg #[iv 0,iv 0,iv 0,.slice none 0 0,.slice none 0 0,.slice none 0 0,.slice none 0 0]) (by kernel_rfl)) ?_
 rintro _ wc ⟨b2,rfl,hN22⟩
 have hl25 := Nat.le_trans hv21.le (Nat.le_of_eq hN22.lo.symm)
 have hl26 := Nat.le_trans hr3.le (Nat.le_of_eq hN22.lo.symm)
 have hE23 := hE19.trans hN22.ext
 have hM24 := hM20.new hN22
 have hv27 := Ext.trans hv21 hN22.ext
 have hv28 := Ext.trans hr3 hN22.ext
 refine os0 (.store 29 (pt b2 0) (pv P q2)) none (kOp Y9 (ro1 4 [0]) 8 []) (runs_st (hM24.blk 0 rfl) (by kernel_rfl)) ?_
 rintro _ wd hC29
 have hE30 := hM24.toExt hE23 hC29 0 rfl
 have hM31 := hM24.set 0 rfl hC29
 have hv32 := hC29.ext hv27 hl25
 have hv33 := hC29.ext hv28 hl26
 refine sgz 21 [.exec,.exec,.exec,.exec,.exec,.exec,.exec,.ld (pv P q),.exec,.ld (pv P q2)] (kOp Y9 (ro1 5 [0]) 16 []) [(2,.bool false),(4,pt b1 0),(7,pt b2 0),(37,.bool true),(38,(pv P q)),(39,(pv P q2))] [true = true,true = true,true = true,true = true,true = true,true = true,true = true,cl wd b1 0 (iv P.proto),cl wd b1 1 (iv P.cap),cl wd b1 2 (iv P.k),cl wd b1 3 (.slice q.a1 P.nodes.length q.c1),cl wd b1 4 (.slice q.a2 P.links.length q.c2),cl wd b1 5 (.slice q.a3 P.dests.length q.c3),cl wd b1 6 (.slice q.a4 P.checks.length q.c4),true = true,cl wd b2 0 (iv P.proto),cl wd b2 1 (iv P.cap),cl wd b2 2 (iv P.k),cl wd b2 3 (.slice q2.a1 P.nodes.length q2.c1),cl wd b2 4 (.slice q2.a2 P.links.length q2.c2),cl wd b2 5 (.slice q2.a3 P.dests.length q2.c3),cl wd b2 6 (.slice q2.a4 P.checks.length q2.c4)] (AC rfl (AC rfl (AC rfl (AC rfl (AC rfl (AC rfl (AC rfl (AC (cell_of (hM31.blk 1 rfl) rfl) (AC (cell_of (hM31.blk 1 rfl) rfl) (AC (cell_of (hM31.blk 1 rfl) rfl) (AC (cell_of (hM31.blk 1 rfl) rfl) (AC (cell_of (hM31.blk 1 rfl) rfl) (AC (cell_of (hM31.blk 1 rfl) rfl) (AC (cell_of (hM31.blk 1 rfl) rfl) (AC rfl (AC (cell_of (hM31.blk 0 rfl) rfl) (AC (cell_of (hM31.blk 0 rfl) rfl) (AC (cell_of (hM31.blk 0 rfl) rfl) (AC (cell_of (hM31.blk 0 rfl) rfl) (AC (cell_of (hM31.blk 0 rfl) rfl) (AC (cell_of (hM31.blk 0 rfl) rfl) (A1 (cell_of (hM31.blk 0 rfl) rfl))))))))))))))))))))))) ?_
 refine oss [.exec] (.call 19 [(pv P q),(pv P q2)]) (some 40) (kOp Y9 (ro1 5 [0]) 17 []) [true = true] (A1 rfl) (runs_call E19 (by have h := Same_any P P q q2 wd (hA.ext hv32) (hP3.ext hv33); rw [decide_eq_true (rfl : P = P)] at h; exact h)) ?_
 rintro _ w4 ⟨rfl,hx4⟩
 have hE34 := hE30.trans hx4
 have hM35 := hM31.ext hx4
 have hv36 := Ext.trans hv32 hx4
 have hv37 := Ext.trans hv33 hx4
 refine sgz 4 [.exec,.ld (pv P q),.exec,.ld (pv P q2)] (kOp Y9 (ro1 5 [0]) 21 []) [(2,.bool false),(42,.bool true),(43,(pv P q)),(44,(pv P q2))] [true = true,cl w4 b1 0 (iv P.proto),cl w4 b1 1 (iv P.cap),cl w4 b1 2 (iv P.k),cl w4 b1 3 (.slice q.a1 P.nodes.length q.c1),cl w4 b1 4 (.slice q.a2 P.links.length q.c2),cl w4 b1 5 (.slice q.a3 P.dests.length q.c3),cl w4 b1 6 (.slice q.a4 P.checks.length q.c4),true = true,cl w4 b2 0 (iv P.proto),cl w4 b2 1 (iv P.cap),cl w4 b2 2 (iv P.k),cl w4 b2 3 (.slice q2.a1 P.nodes.length q2.c1),cl w4 b2 4 (.slice q2.a2 P.links.length q2.c2),cl w4 b2 5 (.slice q2.a3 P.dests.length q2.c3),cl w4 b2 6 (.slice q2.a4 P.checks.length q2.c4)] (AC rfl (AC (cell_of (hM35.blk 1 rfl) rfl) (AC (cell_of (hM35.blk 1 rfl) rfl) (AC (cell_of (hM35.blk 1 rfl) rfl) (AC (cell_of (hM35.blk 1 rfl) rfl) (AC (cell_of (hM35.blk 1 rfl) rfl) (AC (cell_of (hM35.blk 1 rfl) rfl) (AC (cell_of (hM35.blk 1 rfl) rfl) (AC rfl (AC (cell_of (hM35.blk 0 rfl) rfl) (AC (cell_of (hM35.blk 0 rfl) rfl) (AC (cell_of (hM35.blk 0 rfl) rfl) (AC (cell_of (hM35.blk 0 rfl) rfl) (AC (cell_of (hM35.blk 0 rfl) rfl) (AC (cell_of (hM35.blk 0 rfl) rfl) (A1 (cell_of (hM35.blk 0 rfl) rfl))))))))))))))))) ?_
 refine oss [.exec] (.call 20 [(pv P q),(pv P q2)]) (some 45) (kOp Y9 (ro1 5 [0]) 22 []) [true = true] (A1 rfl) (runs_call E20 (by have h := rSame_any P P q q2 w4 (hA.ext hv36) (hP3.ext hv37); rw [decide_eq_true (rfl : P = P)] at h; exact h)) ?_
 rintro _ w5 ⟨rfl,hx5⟩
 have hE38 := hE34.trans hx5
 have hM39 := hM35.ext hx5
 have hv40 := Ext.trans hv36 hx5
 have hv41 := Ext.trans hv37 hx5
 refine sg0 3 (kAt Y9 (ro1 6 []) []) [(2,.bool true)] ?_
 exact ret1 (.bool true) (⟨rfl,hE38⟩)

end Go.Proofs.YtjhgghpeapmgdaaGreatDoor
