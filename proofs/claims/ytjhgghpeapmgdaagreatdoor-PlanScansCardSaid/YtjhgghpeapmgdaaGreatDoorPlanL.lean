/-
  PLAN: the contract of the statements' awake.
-/
import Derived.Test.YtjhgghpeapmgdaaGreatDoorPlanJ
import Derived.Test.YtjhgghpeapmgdaaGreatDoorPlanNet
namespace Go.Proofs.YtjhgghpeapmgdaaGreatDoor
open Go.Bk Go.Proofs

def awP (k : Int) : PPlan := ⟨1,0,k,[⟨[97],1⟩,⟨[98],2⟩],[⟨0,1,3⟩],[],[]⟩
def awQ (bn bl : Nat) : PAd := ⟨some ⟨bn,0,none⟩,2,some ⟨bl,0,none⟩,1,none,0,none,0,[]⟩
theorem aw_names (k : Int) : ∀ x ∈ namesL (awP k),x.length ≤ 140737488355328 := by
  intro x hx
  have : x.length ≤ 1 := by
    simp only [namesL,awP,List.map_cons,List.map_nil,List.append_nil,List.mem_cons,List.not_mem_nil,or_false] at hx
    rcases hx with rfl | rfl <;> exact Nat.le_refl _
  omega
theorem aw_at {w : World} {bn bl : Nat} (k : Int) (h1 : w.heap[bn]? = some (.cells #[.string (bs [97]),.int .i64 1,.string (bs [98]),.int .i64 2] 52 (0,0))) (h2 : w.heap[bl]? = some (.cells #[.int .i64 0,.int .i64 1,.int .i64 3] 61 (0,0))) : PlanAt w (awP k) (awQ bn bl) :=
  ⟨blk_cells (cs := [.string (bs [97]),.int .i64 1,.string (bs [98]),.int .i64 2]) h1,blk_cells (cs := [.int .i64 0,.int .i64 1,.int .i64 3]) h2,.inl rfl,rfl,(fun x hx => by cases hx),.inl rfl,⟨Nat.le_refl _,Nat.le_of_ble_eq_true rfl⟩,⟨Nat.le_refl _,Nat.le_of_ble_eq_true rfl⟩,⟨Nat.le_refl _,Nat.le_of_ble_eq_true rfl⟩,⟨Nat.le_refl _,Nat.le_of_ble_eq_true rfl⟩,aw_names k⟩
theorem aw_right : rightB (awP 1) = true := by decide +kernel
theorem aw_wrong : rightB (awP 2) = false := by decide +kernel
theorem aw_text : printB (awP 1) = ([112,114,111,116,111,99,111,108,32,118,101,99,116,111,114,59,10,102,97,105,108,117,114,101,115,32,49,59,10,110,111,100,101,32,97,32,49,59,10,110,111,100,101,32,98,32,50,59,10,108,105,110,107,32,97,32,98,32,51,59,10],0) := by
  unfold printB
  rw [if_pos aw_right]
  have h1 : Lib.itoa 1 = [49] := by rw [itoa_nat (by omega),decC_eq (by decide)]; rfl
  have h2 : Lib.itoa 2 = [50] := by rw [itoa_nat (by omega),decC_eq (by decide)]; rfl
  have h3 : Lib.itoa 3 = [51] := by rw [itoa_nat (by omega),decC_eq (by decide)]; rfl
  have : printT (awP 1) = lineW [wdProtocol,wdVector] ++ lineW [wdFailures,Lib.itoa 1] ++ (lineW [wdNode,[97],Lib.itoa 1] ++ (lineW [wdNode,[98],Lib.itoa 2] ++ [])) ++ (lineW [wdLink,[97],[98],Lib.itoa 3] ++ []) ++ [] ++ [] := rfl
  rw [this,h1,h2,h3]; rfl
theorem aw_none : printB (awP 2) = ([],1) := by
  unfold printB
  rw [if_neg (by rw [aw_wrong]; simp)]
theorem aw_node : idxI (fun x => decide (x.name = [98])) (awP 1).nodes = 1 := by decide +kernel
theorem aw_dest : idxI (fun x => decide (x.name = [98])) (awP 1).dests = -1 := by decide +kernel
theorem aw_same : decide (awP 1 = awP 1) = true := decide_eq_true rfl
theorem aw_other : decide (awP 1 = awP 2) = false := by decide +kernel

set_option maxRecDepth 20000 in
theorem awake_any  (w : World) (hG : Glob w) :
    Does Tryz.prog 12 [] w (fun v w' => v = .bool true ∧ Ext w w') := by
 refine startD (c := (bodyOf Tryz.f12)) Tryz.func12 rfl (by kernel_rfl) ?_
 show G _ 65 [] _ (kAt (bodyOf Tryz.f12) [] []) [] w
 have hE1 : Ext w w := Ext.refl w
 have hM2 : Hold w w.heap.size [] := Hold.nil hE1.le
 refine sgz 8 [] (kOp (bodyOf Tryz.f12) [1,0] 2 []) [(0,.bool false),(7,.agg #[sv ([97]),iv (1 : Int)]),(8,.agg #[sv ([98]),iv (2 : Int)])] [] trivial ?_
 refine oss [] (.bslice 24 2 [(0,.agg #[sv ([97]),iv (1 : Int)]),(1,.agg #[sv ([98]),iv (2 : Int)])]) (some 9) (kOp (bodyOf Tryz.f12) [1,0] 3 []) [] trivial (runs_bslice (cs := [sv ([97]),iv (1 : Int),sv ([98]),iv (2 : Int)]) (e := 52) (by kernel_rfl)) ?_
 rintro _ w1 ⟨bn,rfl,hN3⟩
 have hE4 := hE1.trans hN3.ext
 have hM5 := hM2.new hN3
 refine sgz 1 [] (kOp (bodyOf Tryz.f12) [1,0] 4 []) [(0,.bool false),(9,.slice (some ⟨bn,0,none⟩) 2 2),(10,.agg #[iv (0 : Int),iv (1 : Int),iv (3 : Int)])] [] trivial ?_
 refine oss [] (.bslice 25 1 [(0,.agg #[iv (0 : Int),iv (1 : Int),iv (3 : Int)])]) (some 11) (kOp (bodyOf Tryz.f12) [1,0] 5 []) [] trivial (runs_bslice (cs := [iv (0 : Int),iv (1 : Int),iv (3 : Int)]) (e := 61) (by kernel_rfl)) ?_
 rintro _ w2 ⟨bl,rfl,hN6⟩
 have hE7 := hE4.trans hN6.ext
 have hM8 := hM5.new hN6
 refine sgz 1 [] (kOp (bodyOf Tryz.f12) [1,0] 6 []) [(0,.bool false),(12,.agg #[iv (1 : Int),iv (0 : Int),iv (1 : Int),.slice (some ⟨bn,0,none⟩) 2 2,.slice (some ⟨bl,0,none⟩) 1 1,.slice none 0 0,.slice none 0 0])] [] trivial ?_
 refine oss [] (.alloc 29) (some 1) (kOp (bodyOf Tryz.f12) [1,0] 7 []) [] trivial (runs_alloc (z := .agg #[iv (0 : Int),iv (0 : Int),iv (0 : Int),.slice none 0 0,.slice none 0 0,.slice none 0 0,.slice none 0 0]) (by kernel_rfl)) ?_
 rintro _ w3 ⟨b1,rfl,hN9⟩
 have hE10 := hE7.trans hN9.ext
 have hM11 := hM8.new hN9
 refine oss [] (.store 29 (pt b1 0) (.agg #[iv (1 : Int),iv (0 : Int),iv (1 : Int),.slice (some ⟨bn,0,none⟩) 2 2,.slice (some ⟨bl,0,none⟩) 1 1,.slice none 0 0,.slice none 0 0])) none (kOp (bodyOf Tryz.f12) [1,0] 8 []) [] trivial (runs_st (hM11.blk 0 rfl) (by kernel_rfl)) ?_
 rintro _ w4 hC12
 have hE13 := hM11.toExt hE10 hC12 0 rfl
 have hM14 := hM11.set 0 rfl hC12
 refine sgz 4 [.ld (.agg #[iv (1 : Int),iv (0 : Int),iv (1 : Int),.slice (some ⟨bn,0,none⟩) 2 2,.slice (some ⟨bl,0,none⟩) 1 1,.slice none 0 0,.slice none 0 0])] (kOp (bodyOf Tryz.f12) [1,1,0] 1 []) [(0,.bool false),(1,pt b1 0),(14,.agg #[iv (1 : Int),iv (0 : Int),iv (1 : Int),.slice (some ⟨bn,0,none⟩) 2 2,.slice (some ⟨bl,0,none⟩) 1 1,.slice none 0 0,.slice none 0 0])] [w4.cell? ⟨b1,0,none⟩ = some (iv (1 : Int)),w4.cell? ⟨b1,1,none⟩ = some (iv (0 : Int)),w4.cell? ⟨b1,2,none⟩ = some (iv (1 : Int)),w4.cell? ⟨b1,3,none⟩ = some (.slice (some ⟨bn,0,none⟩) 2 2),w4.cell? ⟨b1,4,none⟩ = some (.slice (some ⟨bl,0,none⟩) 1 1),w4.cell? ⟨b1,5,none⟩ = some (.slice none 0 0),w4.cell? ⟨b1,6,none⟩ = some (.slice none 0 0)] (AC (cell_of (hM14.blk 0 rfl) rfl) (AC (cell_of (hM14.blk 0 rfl) rfl) (AC (cell_of (hM14.blk 0 rfl) rfl) (AC (cell_of (hM14.blk 0 rfl) rfl) (AC (cell_of (hM14.blk 0 rfl) rfl) (AC (cell_of (hM14.blk 0 rfl) rfl) (A1 (cell_of (hM14.blk 0 rfl) rfl)))))))) ?_
 refine oss [] (.call 15 [.agg #[iv (1 : Int),iv (0 : Int),iv (1 : Int),.slice (some ⟨bn,0,none⟩) 2 2,.slice (some ⟨bl,0,none⟩) 1 1,.slice none 0 0,.slice none 0 0]]) (some 15) (kOp (bodyOf Tryz.f12) [1,1,0] 2 []) [] trivial (runs_call E15 (by have h := Print_any (awP 1) (awQ bn bl) w4 (aw_at 1 (hM14.blk 2 rfl) (hM14.blk 1 rfl)) (hG.ext hE13); rw [aw_text] at h; exact h)) ?_
 rintro _ u1 ⟨rfl,hx1⟩
 have hE15 := hE13.trans hx1
 have hM16 := hM14.ext hx1
 refine sgz 9 [.ld (.agg #[iv (1 : Int),iv (0 : Int),iv (1 : Int),.slice (some ⟨bn,0,none⟩) 2 2,.slice (some ⟨bl,0,none⟩) 1 1,.slice none 0 0,.slice none 0 0])] (kOp (bodyOf Tryz.f12) [1,1,1,0] 1 []) [(0,.bool false),(1,pt b1 0),(2,sv ([112,114,111,116,111,99,111,108,32,118,101,99,116,111,114,59,10,102,97,105,108,117,114,101,115,32,49,59,10,110,111,100,101,32,97,32,49,59,10,110,111,100,101,32,98,32,50,59,10,108,105,110,107,32,97,32,98,32,51,59,10])),(3,iv (0 : Int)),(18,.agg #[iv (1 : Int),iv (0 : Int),iv (1 : Int),.slice (some ⟨bn,0,none⟩) 2 2,.slice (some ⟨bl,0,none⟩) 1 1,.slice none 0 0,.slice none 0 0])] [u1.cell? ⟨b1,0,none⟩ = some (iv (1 : Int)),u1.cell? ⟨b1,1,none⟩ = some (iv (0 : Int)),u1.cell? ⟨b1,2,none⟩ = some (iv (1 : Int)),u1.cell? ⟨b1,3,none⟩ = some (.slice (some ⟨bn,0,none⟩) 2 2),u1.cell? ⟨b1,4,none⟩ = some (.slice (some ⟨bl,0,none⟩) 1 1),u1.cell? ⟨b1,5,none⟩ = some (.slice none 0 0),u1.cell? ⟨b1,6,none⟩ = some (.slice none 0 0)] (AC (cell_of (hM16.blk 0 rfl) rfl) (AC (cell_of (hM16.blk 0 rfl) rfl) (AC (cell_of (hM16.blk 0 rfl) rfl) (AC (cell_of (hM16.blk 0 rfl) rfl) (AC (cell_of (hM16.blk 0 rfl) rfl) (AC (cell_of (hM16.blk 0 rfl) rfl) (A1 (cell_of (hM16.blk 0 rfl) rfl)))))))) ?_
 refine oss [] (.alloc 29) (some 4) (kOp (bodyOf Tryz.f12) [1,1,1,0] 2 []) [] trivial (runs_alloc (z := .agg #[iv (0 : Int),iv (0 : Int),iv (0 : Int),.slice none 0 0,.slice none 0 0,.slice none 0 0,.slice none 0 0]) (by kernel_rfl)) ?_
 rintro _ w5 ⟨b4,rfl,hN17⟩
 have hE18 := hE15.trans hN17.ext
 have hM19 := hM16.new hN17
 refine oss [] (.store 29 (pt b4 0) (.agg #[iv (1 : Int),iv (0 : Int),iv (1 : Int),.slice (some ⟨bn,0,none⟩) 2 2,.slice (some ⟨bl,0,none⟩) 1 1,.slice none 0 0,.slice none 0 0])) none (kOp (bodyOf Tryz.f12) [1,1,1,0] 3 []) [] trivial (runs_st (hM19.blk 0 rfl) (by kernel_rfl)) ?_
 rintro _ w6 hC20
 have hE21 := hM19.toExt hE18 hC20 0 rfl
 have hM22 := hM19.set 0 rfl hC20
 refine sgz 4 [] (kOp (bodyOf Tryz.f12) (ro1 4 [0]) 1 []) [(0,.bool false),(1,pt b1 0),(2,sv ([112,114,111,116,111,99,111,108,32,118,101,99,116,111,114,59,10,102,97,105,108,117,114,101,115,32,49,59,10,110,111,100,101,32,97,32,49,59,10,110,111,100,101,32,98,32,50,59,10,108,105,110,107,32,97,32,98,32,51,59,10])),(3,iv (0 : Int)),(4,pt b4 0),(19,pt b4 2)] [] trivial ?_
 refine oss [] (.store 3 (pt b4 2) (iv (2 : Int))) none (kOp (bodyOf Tryz.f12) (ro1 4 [0]) 2 []) [] trivial (runs_st (hM22.blk 0 rfl) (by kernel_rfl)) ?_
 rintro _ w7 hC23
 have hE24 := hM22.toExt hE21 hC23 0 rfl
 have hM25 := hM22.set 0 rfl hC23
 refine sgz 4 [.ld (.agg #[iv (1 : Int),iv (0 : Int),iv (2 : Int),.slice (some ⟨bn,0,none⟩) 2 2,.slice (some ⟨bl,0,none⟩) 1 1,.slice none 0 0,.slice none 0 0])] (kOp (bodyOf Tryz.f12) (ro1 5 [0]) 1 []) [(0,.bool false),(1,pt b1 0),(2,sv ([112,114,111,116,111,99,111,108,32,118,101,99,116,111,114,59,10,102,97,105,108,117,114,101,115,32,49,59,10,110,111,100,101,32,97,32,49,59,10,110,111,100,101,32,98,32,50,59,10,108,105,110,107,32,97,32,98,32,51,59,10])),(3,iv (0 : Int)),(4,pt b4 0),(21,.agg #[iv (1 : Int),iv (0 : Int),iv (2 : Int),.slice (some ⟨bn,0,none⟩) 2 2,.slice (some ⟨bl,0,none⟩) 1 1,.slice none 0 0,.slice none 0 0])] [w7.cell? ⟨b4,0,none⟩ = some (iv (1 : Int)),w7.cell? ⟨b4,1,none⟩ = some (iv (0 : Int)),w7.cell? ⟨b4,2,none⟩ = some (iv (2 : Int)),w7.cell? ⟨b4,3,none⟩ = some (.slice (some ⟨bn,0,none⟩) 2 2),w7.cell? ⟨b4,4,none⟩ = some (.slice (some ⟨bl,0,none⟩) 1 1),w7.cell? ⟨b4,5,none⟩ = some (.slice none 0 0),w7.cell? ⟨b4,6,none⟩ = some (.slice none 0 0)] (AC (cell_of (hM25.blk 0 rfl) rfl) (AC (cell_of (hM25.blk 0 rfl) rfl) (AC (cell_of (hM25.blk 0 rfl) rfl) (AC (cell_of (hM25.blk 0 rfl) rfl) (AC (cell_of (hM25.blk 0 rfl) rfl) (AC (cell_of (hM25.blk 0 rfl) rfl) (A1 (cell_of (hM25.blk 0 rfl) rfl)))))))) ?_
 refine oss [] (.call 15 [.agg #[iv (1 : Int),iv (0 : Int),iv (2 : Int),.slice (some ⟨bn,0,none⟩) 2 2,.slice (some ⟨bl,0,none⟩) 1 1,.slice none 0 0,.slice none 0 0]]) (some 22) (kOp (bodyOf Tryz.f12) (ro1 5 [0]) 2 []) [] trivial (runs_call E15 (by have h := Print_any (awP 2) (awQ bn bl) w7 (aw_at 2 (hM25.blk 3 rfl) (hM25.blk 2 rfl)) (hG.ext hE24); rw [aw_none] at h; exact h)) ?_
 rintro _ u2 ⟨rfl,hx2⟩
 have hE26 := hE24.trans hx2
 have hM27 := hM25.ext hx2
 refine sgz 20 [.exec,.exec,.exec,.exec,.exec,.ld (.agg #[iv (1 : Int),iv (0 : Int),iv (1 : Int),.slice (some ⟨bn,0,none⟩) 2 2,.slice (some ⟨bl,0,none⟩) 1 1,.slice none 0 0,.slice none 0 0])] (kOp (bodyOf Tryz.f12) (ro1 6 [0]) 12 []) [(0,.bool false),(1,pt b1 0),(4,pt b4 0),(35,.bool true),(36,.agg #[iv (1 : Int),iv (0 : Int),iv (1 : Int),.slice (some ⟨bn,0,none⟩) 2 2,.slice (some ⟨bl,0,none⟩) 1 1,.slice none 0 0,.slice none 0 0])] [true = true,true = true,true = true,true = true,true = true,u2.cell? ⟨b1,0,none⟩ = some (iv (1 : Int)),u2.cell? ⟨b1,1,none⟩ = some (iv (0 : Int)),u2.cell? ⟨b1,2,none⟩ = some (iv (1 : Int)),u2.cell? ⟨b1,3,none⟩ = some (.slice (some ⟨bn,0,none⟩) 2 2),u2.cell? ⟨b1,4,none⟩ = some (.slice (some ⟨bl,0,none⟩) 1 1),u2.cell? ⟨b1,5,none⟩ = some (.slice none 0 0),u2.cell? ⟨b1,6,none⟩ = some (.slice none 0 0)] (AC rfl (AC rfl (AC rfl (AC rfl (AC rfl (AC (cell_of (hM27.blk 1 rfl) rfl) (AC (cell_of (hM27.blk 1 rfl) rfl) (AC (cell_of (hM27.blk 1 rfl) rfl) (AC (cell_of (hM27.blk 1 rfl) rfl) (AC (cell_of (hM27.blk 1 rfl) rfl) (AC (cell_of (hM27.blk 1 rfl) rfl) (A1 (cell_of (hM27.blk 1 rfl) rfl))))))))))))) ?_
 refine oss [.exec] (.call 17 [.agg #[iv (1 : Int),iv (0 : Int),iv (1 : Int),.slice (some ⟨bn,0,none⟩) 2 2,.slice (some ⟨bl,0,none⟩) 1 1,.slice none 0 0,.slice none 0 0]]) (some 37) (kOp (bodyOf Tryz.f12) (ro1 6 [0]) 13 []) [true = true] (A1 rfl) (runs_call E17 (by have h := Right_any (awP 1) (awQ bn bl) u2 (aw_at 1 (hM27.blk 3 rfl) (hM27.blk 2 rfl)); rw [aw_right] at h; exact h)) ?_
 rintro _ u3 ⟨rfl,hx3⟩
 have hE28 := hE26.trans hx3
 have hM29 := hM27.ext hx3
 refine sgz 3 [.exec,.ld (.agg #[iv (1 : Int),iv (0 : Int),iv (2 : Int),.slice (some ⟨bn,0,none⟩) 2 2,.slice (some ⟨bl,0,none⟩) 1 1,.slice none 0 0,.slice none 0 0])] (kOp (bodyOf Tryz.f12) (ro1 6 [0]) 16 []) [(0,.bool false),(1,pt b1 0),(4,pt b4 0),(39,.bool true),(40,.agg #[iv (1 : Int),iv (0 : Int),iv (2 : Int),.slice (some ⟨bn,0,none⟩) 2 2,.slice (some ⟨bl,0,none⟩) 1 1,.slice none 0 0,.slice none 0 0])] [true = true,u3.cell? ⟨b4,0,none⟩ = some (iv (1 : Int)),u3.cell? ⟨b4,1,none⟩ = some (iv (0 : Int)),u3.cell? ⟨b4,2,none⟩ = some (iv (2 : Int)),u3.cell? ⟨b4,3,none⟩ = some (.slice (some ⟨bn,0,none⟩) 2 2),u3.cell? ⟨b4,4,none⟩ = some (.slice (some ⟨bl,0,none⟩) 1 1),u3.cell? ⟨b4,5,none⟩ = some (.slice none 0 0),u3.cell? ⟨b4,6,none⟩ = some (.slice none 0 0)] (AC rfl (AC (cell_of (hM29.blk 0 rfl) rfl) (AC (cell_of (hM29.blk 0 rfl) rfl) (AC (cell_of (hM29.blk 0 rfl) rfl) (AC (cell_of (hM29.blk 0 rfl) rfl) (AC (cell_of (hM29.blk 0 rfl) rfl) (AC (cell_of (hM29.blk 0 rfl) rfl) (A1 (cell_of (hM29.blk 0 rfl) rfl))))))))) ?_
 refine oss [.exec] (.call 17 [.agg #[iv (1 : Int),iv (0 : Int),iv (2 : Int),.slice (some ⟨bn,0,none⟩) 2 2,.slice (some ⟨bl,0,none⟩) 1 1,.slice none 0 0,.slice none 0 0]]) (some 41) (kOp (bodyOf Tryz.f12) (ro1 6 [0]) 17 []) [true = true] (A1 rfl) (runs_call E17 (by have h := Right_any (awP 2) (awQ bn bl) u3 (aw_at 2 (hM29.blk 3 rfl) (hM29.blk 2 rfl)); rw [aw_wrong] at h; exact h)) ?_
 rintro _ u4 ⟨rfl,hx4⟩
 have hE30 := hE28.trans hx4
 have hM31 := hM29.ext hx4
 refine sgz 4 [.exec,.exec,.ld (.agg #[iv (1 : Int),iv (0 : Int),iv (1 : Int),.slice (some ⟨bn,0,none⟩) 2 2,.slice (some ⟨bl,0,none⟩) 1 1,.slice none 0 0,.slice none 0 0])] (kOp (bodyOf Tryz.f12) (ro1 6 [0]) 21 []) [(0,.bool false),(1,pt b1 0),(4,pt b4 0),(44,.bool true),(45,.agg #[iv (1 : Int),iv (0 : Int),iv (1 : Int),.slice (some ⟨bn,0,none⟩) 2 2,.slice (some ⟨bl,0,none⟩) 1 1,.slice none 0 0,.slice none 0 0])] [true = true,true = true,u4.cell? ⟨b1,0,none⟩ = some (iv (1 : Int)),u4.cell? ⟨b1,1,none⟩ = some (iv (0 : Int)),u4.cell? ⟨b1,2,none⟩ = some (iv (1 : Int)),u4.cell? ⟨b1,3,none⟩ = some (.slice (some ⟨bn,0,none⟩) 2 2),u4.cell? ⟨b1,4,none⟩ = some (.slice (some ⟨bl,0,none⟩) 1 1),u4.cell? ⟨b1,5,none⟩ = some (.slice none 0 0),u4.cell? ⟨b1,6,none⟩ = some (.slice none 0 0)] (AC rfl (AC rfl (AC (cell_of (hM31.blk 1 rfl) rfl) (AC (cell_of (hM31.blk 1 rfl) rfl) (AC (cell_of (hM31.blk 1 rfl) rfl) (AC (cell_of (hM31.blk 1 rfl) rfl) (AC (cell_of (hM31.blk 1 rfl) rfl) (AC (cell_of (hM31.blk 1 rfl) rfl) (A1 (cell_of (hM31.blk 1 rfl) rfl)))))))))) ?_
 refine oss [.exec] (.call 21 [.agg #[iv (1 : Int),iv (0 : Int),iv (1 : Int),.slice (some ⟨bn,0,none⟩) 2 2,.slice (some ⟨bl,0,none⟩) 1 1,.slice none 0 0,.slice none 0 0],sv ([98])]) (some 46) (kOp (bodyOf Tryz.f12) (ro1 6 [0]) 22 []) [true = true] (A1 rfl) (runs_call E21 (by have h := Node_any (awP 1) (awQ bn bl) [98] u4 (aw_at 1 (hM31.blk 3 rfl) (hM31.blk 2 rfl)); rw [aw_node] at h; exact h)) ?_
 rintro _ u5 ⟨rfl,hx5⟩
 have hE32 := hE30.trans hx5
 have hM33 := hM31.ext hx5
 refine sgz 4 [.exec,.exec,.ld (.agg #[iv (1 : Int),iv (0 : Int),iv (1 : Int),.slice (some ⟨bn,0,none⟩) 2 2,.slice (some ⟨bl,0,none⟩) 1 1,.slice none 0 0,.slice none 0 0])] (kOp (bodyOf Tryz.f12) (ro1 6 [0]) 26 []) [(0,.bool false),(1,pt b1 0),(4,pt b4 0),(49,.bool true),(50,.agg #[iv (1 : Int),iv (0 : Int),iv (1 : Int),.slice (some ⟨bn,0,none⟩) 2 2,.slice (some ⟨bl,0,none⟩) 1 1,.slice none 0 0,.slice none 0 0])] [true = true,true = true,u5.cell? ⟨b1,0,none⟩ = some (iv (1 : Int)),u5.cell? ⟨b1,1,none⟩ = some (iv (0 : Int)),u5.cell? ⟨b1,2,none⟩ = some (iv (1 : Int)),u5.cell? ⟨b1,3,none⟩ = some (.slice (some ⟨bn,0,none⟩) 2 2),u5.cell? ⟨b1,4,none⟩ = some (.slice (some ⟨bl,0,none⟩) 1 1),u5.cell? ⟨b1,5,none⟩ = some (.slice none 0 0),u5.cell? ⟨b1,6,none⟩ = some (.slice none 0 0)] (AC rfl (AC rfl (AC (cell_of (hM33.blk 1 rfl) rfl) (AC (cell_of (hM33.blk 1 rfl) rfl) (AC (cell_of (hM33.blk 1 rfl) rfl) (AC (cell_of (hM33.blk 1 rfl) rfl) (AC (cell_of (hM33.blk 1 rfl) rfl) (AC (cell_of (hM33.blk 1 rfl) rfl) (A1 (cell_of (hM33.blk 1 rfl) rfl)))))))))) ?_
 refine oss [.exec] (.call 23 [.agg #[iv (1 : Int),iv (0 : Int),iv (1 : Int),.slice (some ⟨bn,0,none⟩) 2 2,.slice (some ⟨bl,0,none⟩) 1 1,.slice none 0 0,.slice none 0 0],sv ([98])]) (some 51) (kOp (bodyOf Tryz.f12) (ro1 6 [0]) 27 []) [true = true] (A1 rfl) (runs_call E23 (by have h := Dest_any (awP 1) (awQ bn bl) [98] u5 (aw_at 1 (hM33.blk 3 rfl) (hM33.blk 2 rfl)); rw [aw_dest] at h; exact h)) ?_
 rintro _ u6 ⟨rfl,hx6⟩
 have hE34 := hE32.trans hx6
 have hM35 := hM33.ext hx6
 refine sgz 5 [.exec,.exec,.ld (.agg #[iv (1 : Int),iv (0 : Int),iv (1 : Int),.slice (some ⟨bn,0,none⟩) 2 2,.slice (some ⟨bl,0,none⟩) 1 1,.slice none 0 0,.slice none 0 0]),.exec,.ld (.agg #[iv (1 : Int),iv (0 : Int),iv (1 : Int),.slice (some ⟨bn,0,none⟩) 2 2,.slice (some ⟨bl,0,none⟩) 1 1,.slice none 0 0,.slice none 0 0])] (kOp (bodyOf Tryz.f12) (ro1 6 [0]) 32 []) [(0,.bool false),(1,pt b1 0),(4,pt b4 0),(54,.bool true),(55,.agg #[iv (1 : Int),iv (0 : Int),iv (1 : Int),.slice (some ⟨bn,0,none⟩) 2 2,.slice (some ⟨bl,0,none⟩) 1 1,.slice none 0 0,.slice none 0 0]),(56,.agg #[iv (1 : Int),iv (0 : Int),iv (1 : Int),.slice (some ⟨bn,0,none⟩) 2 2,.slice (some ⟨bl,0,none⟩) 1 1,.slice none 0 0,.slice none 0 0])] [true = true,true = true,u6.cell? ⟨b1,0,none⟩ = some (iv (1 : Int)),u6.cell? ⟨b1,1,none⟩ = some (iv (0 : Int)),u6.cell? ⟨b1,2,none⟩ = some (iv (1 : Int)),u6.cell? ⟨b1,3,none⟩ = some (.slice (some ⟨bn,0,none⟩) 2 2),u6.cell? ⟨b1,4,none⟩ = some (.slice (some ⟨bl,0,none⟩) 1 1),u6.cell? ⟨b1,5,none⟩ = some (.slice none 0 0),u6.cell? ⟨b1,6,none⟩ = some (.slice none 0 0),true = true,u6.cell? ⟨b1,0,none⟩ = some (iv (1 : Int)),u6.cell? ⟨b1,1,none⟩ = some (iv (0 : Int)),u6.cell? ⟨b1,2,none⟩ = some (iv (1 : Int)),u6.cell? ⟨b1,3,none⟩ = some (.slice (some ⟨bn,0,none⟩) 2 2),u6.cell? ⟨b1,4,none⟩ = some (.slice (some ⟨bl,0,none⟩) 1 1),u6.cell? ⟨b1,5,none⟩ = some (.slice none 0 0),u6.cell? ⟨b1,6,none⟩ = some (.slice none 0 0)] (AC rfl (AC rfl (AC (cell_of (hM35.blk 1 rfl) rfl) (AC (cell_of (hM35.blk 1 rfl) rfl) (AC (cell_of (hM35.blk 1 rfl) rfl) (AC (cell_of (hM35.blk 1 rfl) rfl) (AC (cell_of (hM35.blk 1 rfl) rfl) (AC (cell_of (hM35.blk 1 rfl) rfl) (AC (cell_of (hM35.blk 1 rfl) rfl) (AC rfl (AC (cell_of (hM35.blk 1 rfl) rfl) (AC (cell_of (hM35.blk 1 rfl) rfl) (AC (cell_of (hM35.blk 1 rfl) rfl) (AC (cell_of (hM35.blk 1 rfl) rfl) (AC (cell_of (hM35.blk 1 rfl) rfl) (AC (cell_of (hM35.blk 1 rfl) rfl) (A1 (cell_of (hM35.blk 1 rfl) rfl)))))))))))))))))) ?_
 refine oss [.exec] (.call 19 [.agg #[iv (1 : Int),iv (0 : Int),iv (1 : Int),.slice (some ⟨bn,0,none⟩) 2 2,.slice (some ⟨bl,0,none⟩) 1 1,.slice none 0 0,.slice none 0 0],.agg #[iv (1 : Int),iv (0 : Int),iv (1 : Int),.slice (some ⟨bn,0,none⟩) 2 2,.slice (some ⟨bl,0,none⟩) 1 1,.slice none 0 0,.slice none 0 0]]) (some 57) (kOp (bodyOf Tryz.f12) (ro1 6 [0]) 33 []) [true = true] (A1 rfl) (runs_call E19 (by have h := Same_any (awP 1) (awP 1) (awQ bn bl) (awQ bn bl) u6 (aw_at 1 (hM35.blk 3 rfl) (hM35.blk 2 rfl)) (aw_at 1 (hM35.blk 3 rfl) (hM35.blk 2 rfl)); rw [aw_same] at h; exact h)) ?_
 rintro _ u7 ⟨rfl,hx7⟩
 have hE36 := hE34.trans hx7
 have hM37 := hM35.ext hx7
 refine sgz 4 [.exec,.ld (.agg #[iv (1 : Int),iv (0 : Int),iv (1 : Int),.slice (some ⟨bn,0,none⟩) 2 2,.slice (some ⟨bl,0,none⟩) 1 1,.slice none 0 0,.slice none 0 0]),.exec,.ld (.agg #[iv (1 : Int),iv (0 : Int),iv (2 : Int),.slice (some ⟨bn,0,none⟩) 2 2,.slice (some ⟨bl,0,none⟩) 1 1,.slice none 0 0,.slice none 0 0])] (kOp (bodyOf Tryz.f12) (ro1 6 [0]) 37 []) [(0,.bool false),(59,.bool true),(60,.agg #[iv (1 : Int),iv (0 : Int),iv (1 : Int),.slice (some ⟨bn,0,none⟩) 2 2,.slice (some ⟨bl,0,none⟩) 1 1,.slice none 0 0,.slice none 0 0]),(61,.agg #[iv (1 : Int),iv (0 : Int),iv (2 : Int),.slice (some ⟨bn,0,none⟩) 2 2,.slice (some ⟨bl,0,none⟩) 1 1,.slice none 0 0,.slice none 0 0])] [true = true,u7.cell? ⟨b1,0,none⟩ = some (iv (1 : Int)),u7.cell? ⟨b1,1,none⟩ = some (iv (0 : Int)),u7.cell? ⟨b1,2,none⟩ = some (iv (1 : Int)),u7.cell? ⟨b1,3,none⟩ = some (.slice (some ⟨bn,0,none⟩) 2 2),u7.cell? ⟨b1,4,none⟩ = some (.slice (some ⟨bl,0,none⟩) 1 1),u7.cell? ⟨b1,5,none⟩ = some (.slice none 0 0),u7.cell? ⟨b1,6,none⟩ = some (.slice none 0 0),true = true,u7.cell? ⟨b4,0,none⟩ = some (iv (1 : Int)),u7.cell? ⟨b4,1,none⟩ = some (iv (0 : Int)),u7.cell? ⟨b4,2,none⟩ = some (iv (2 : Int)),u7.cell? ⟨b4,3,none⟩ = some (.slice (some ⟨bn,0,none⟩) 2 2),u7.cell? ⟨b4,4,none⟩ = some (.slice (some ⟨bl,0,none⟩) 1 1),u7.cell? ⟨b4,5,none⟩ = some (.slice none 0 0),u7.cell? ⟨b4,6,none⟩ = some (.slice none 0 0)] (AC rfl (AC (cell_of (hM37.blk 1 rfl) rfl) (AC (cell_of (hM37.blk 1 rfl) rfl) (AC (cell_of (hM37.blk 1 rfl) rfl) (AC (cell_of (hM37.blk 1 rfl) rfl) (AC (cell_of (hM37.blk 1 rfl) rfl) (AC (cell_of (hM37.blk 1 rfl) rfl) (AC (cell_of (hM37.blk 1 rfl) rfl) (AC rfl (AC (cell_of (hM37.blk 0 rfl) rfl) (AC (cell_of (hM37.blk 0 rfl) rfl) (AC (cell_of (hM37.blk 0 rfl) rfl) (AC (cell_of (hM37.blk 0 rfl) rfl) (AC (cell_of (hM37.blk 0 rfl) rfl) (AC (cell_of (hM37.blk 0 rfl) rfl) (A1 (cell_of (hM37.blk 0 rfl) rfl))))))))))))))))) ?_
 refine oss [.exec] (.call 19 [.agg #[iv (1 : Int),iv (0 : Int),iv (1 : Int),.slice (some ⟨bn,0,none⟩) 2 2,.slice (some ⟨bl,0,none⟩) 1 1,.slice none 0 0,.slice none 0 0],.agg #[iv (1 : Int),iv (0 : Int),iv (2 : Int),.slice (some ⟨bn,0,none⟩) 2 2,.slice (some ⟨bl,0,none⟩) 1 1,.slice none 0 0,.slice none 0 0]]) (some 62) (kOp (bodyOf Tryz.f12) (ro1 6 [0]) 38 []) [true = true] (A1 rfl) (runs_call E19 (by have h := Same_any (awP 1) (awP 2) (awQ bn bl) (awQ bn bl) u7 (aw_at 1 (hM37.blk 3 rfl) (hM37.blk 2 rfl)) (aw_at 2 (hM37.blk 3 rfl) (hM37.blk 2 rfl)); rw [aw_other] at h; exact h)) ?_
 rintro _ u8 ⟨rfl,hx8⟩
 have hE38 := hE36.trans hx8
 have hM39 := hM37.ext hx8
 refine sgz 4 [.exec] (kAt (bodyOf Tryz.f12) (ro1 7 []) []) [(0,.bool true)] [true = true] (A1 rfl) ?_
 exact retD (hs := []) (vs := [.bool true]) (ps := []) (by kernel_rfl) trivial (v := .bool true) rfl (⟨rfl,hE38⟩)

end Go.Proofs.YtjhgghpeapmgdaaGreatDoor
