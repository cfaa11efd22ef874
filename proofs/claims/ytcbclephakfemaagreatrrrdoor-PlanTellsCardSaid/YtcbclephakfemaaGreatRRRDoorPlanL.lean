/-
  PLAN: the contract of the statements' awake.
-/
import Derived.Test.YtcbclephakfemaaGreatRRRDoorPlanJ
import Derived.Test.YtcbclephakfemaaGreatRRRDoorPlanNet
import Derived.Test.YtcbclephakfemaaGreatRRRDoorLz
import Derived.Test.YtcbclephakfemaaGreatRRRDoorFns
namespace Go.Proofs.YtcbclephakfemaaGreatRRRDoor
open Go.Bk Go.Proofs

def awP (k : Int) : PPlan := ⟨1,0,k,[⟨[97],1⟩,⟨[98],2⟩],[⟨0,1,3⟩],[],[]⟩
def awQ (bn bl : Nat) : PAd := ⟨some ⟨bn,0,none⟩,2,some ⟨bl,0,none⟩,1,none,0,none,0,[]⟩
theorem aw_names (k : Int) : ∀ x ∈ namesL (awP k),x.length ≤ 140737488355328 := by
  intro x hx
  have : x.length ≤ 1 := by
    simp only [namesL,awP,List.map_cons,List.map_nil,List.append_nil,List.mem_cons,List.not_mem_nil,or_false] at hx
    rcases hx with rfl | rfl <;> exact Nat.le_refl _
  omega
theorem aw_at {w : World} {bn bl : Nat} (k : Int) (h1 : w.heap[bn]? = some (.cells #[.string (bs [97]),.int .i64 1,.string (bs [98]),.int .i64 2] 41 (0,0))) (h2 : w.heap[bl]? = some (.cells #[.int .i64 0,.int .i64 1,.int .i64 3] 43 (0,0))) : PlanAt w (awP k) (awQ bn bl) :=
  ⟨blk_cells (cs := [.string (bs [97]),.int .i64 1,.string (bs [98]),.int .i64 2]) h1,blk_cells (cs := [.int .i64 0,.int .i64 1,.int .i64 3]) h2,.inl rfl,rfl,(fun x hx => by cases hx),.inl rfl,⟨Nat.le_refl _,Nat.le_of_ble_eq_true rfl⟩,⟨Nat.le_refl _,Nat.le_of_ble_eq_true rfl⟩,⟨Nat.le_refl _,Nat.le_of_ble_eq_true rfl⟩,⟨Nat.le_refl _,Nat.le_of_ble_eq_true rfl⟩,aw_names k⟩
theorem aw_right : rightB (awP 1) = true := by decide +kernel
theorem aw_wrong : rightB (awP 2) = false := by decide +kernel
theorem aw_text : printB (awP 1) = ([112,114,111,116,111,99,111,108,32,118,101,99,116,111,114,59,10,102,97,105,108,117,114,101,115,32,49,59,10,110,111,100,101,32,97,32,49,59,10,110,111,100,101,32,98,32,50,59,10,108,105,110,107,32,97,32,98,32,51,59,10],0) := by
  unfold printB
  rw [if_pos aw_right]
  have h1 : Lib.itoa 1 = [49] := by rw [itoa_nat (by omega),decC_eq (by decide)]; rfl
  have h2 : Lib.itoa 2 = [50] := by rw [itoa_nat (by omega),decC_eq (by decide)]; rfl
  have h3 : Lib.itoa 3 = [51] := by rw [itoa_nat (by omega),decC_eq (by decide)]; rfl
  have : printT (awP 1) = lineW [wdProtocol,wdVector] ++ lineW [wdFailures,Lib.itoa 1] ++ (lineW [wdNode,[97],Lib.itoa 1] ++ (lineW [wdNode,[98],Lib.itoa 2] ++ [])) ++ (lineW [wdLink,[97],[98],Lib.itoa 3] ++ []) ++ [] ++ [] := rfl
  rw [this,h1,h2,h3]; rfl
theorem aw_none : printB (awP 2) = ([],1) := by
  unfold printB
  rw [if_neg (by rw [aw_wrong]; simp)]
theorem aw_node : idxI (fun x => decide (x.name = [98])) (awP 1).nodes = 1 := by decide +kernel
theorem aw_dest : idxI (fun x => decide (x.name = [98])) (awP 1).dests = -1 := by decide +kernel
theorem aw_same : decide (awP 1 = awP 1) = true := decide_eq_true rfl
theorem aw_other : decide (awP 1 = awP 2) = false := by decide +kernel

set_option maxRecDepth 20000 in
theorem awake_any  (w : World) (hG : Glob w) :
    Does Tryz.prog 4 [] w (fun v w' => v = .bool true ∧ Ext w w') := by
 refine startZ (c := Y4) Tryz.func4 rfl (by kernel_rfl) ?_
 show H _ 65 [] _ (kAt Y4 [] []) [] w
 have hE1 : Ext w w := Ext.refl w
 have hM2 : Hold w w.heap.size [] := Hold.nil hE1.le
 refine Zd 8 2 [sv ([97]),iv 1,sv ([98]),iv 2] 41 hE1 hM2 ?_
 intro bn w1 hE4 hM5
 refine Zd 1 1 [iv 0,iv 1,iv 3] 43 hE4 hM5 ?_
 intro bl w2 hE7 hM8
 refine Za 1 29 [iv 0,iv 0,iv 0,.slice none 0 0,.slice none 0 0,.slice none 0 0,.slice none 0 0] hE7 hM8 ?_
 intro b1 w3 hE10 hM11
 refine Zt 0 0 0 (.agg #[iv 1,iv 0,iv 1,.slice (some ⟨bn,0,none⟩) 2 2,.slice (some ⟨bl,0,none⟩) 1 1,.slice none 0 0,.slice none 0 0]) rfl hE10 hM11 ?_
 intro w4 hE13 hM14
 refine Zh 4 [.a 0 0 7] hM14 trivial ?_
 refine Zl 0 E7 (by have h := Print_any (awP 1) (awQ bn bl) w4 (aw_at 1 (hM14.blk 2 rfl) (hM14.blk 1 rfl)) (hG.ext hE13); rw [aw_text] at h; exact h) ?_
 rintro _ u1 ⟨rfl,hx1⟩
 obtain ⟨hE15,hM16⟩ := Xt hE13 hM14 hx1
 refine Zh 9 [.a 0 0 7] hM16 trivial ?_
 refine Za 0 29 [iv 0,iv 0,iv 0,.slice none 0 0,.slice none 0 0,.slice none 0 0,.slice none 0 0] hE15 hM16 ?_
 intro b4 w5 hE18 hM19
 refine Zt 0 0 0 (.agg #[iv 1,iv 0,iv 1,.slice (some ⟨bn,0,none⟩) 2 2,.slice (some ⟨bl,0,none⟩) 1 1,.slice none 0 0,.slice none 0 0]) rfl hE18 hM19 ?_
 intro w6 hE21 hM22
 refine Zt 4 0 2 (iv 2) rfl hE21 hM22 ?_
 intro w7 hE24 hM25
 refine Zh 4 [.a 0 0 7] hM25 trivial ?_
 refine Zl 0 E7 (by have h := Print_any (awP 2) (awQ bn bl) w7 (aw_at 2 (hM25.blk 3 rfl) (hM25.blk 2 rfl)) (hG.ext hE24); rw [aw_none] at h; exact h) ?_
 rintro _ u2 ⟨rfl,hx2⟩
 obtain ⟨hE26,hM27⟩ := Xt hE24 hM25 hx2
 refine Zh 20 [.xt,.xt,.xt,.xt,.xt,.a 1 0 7] hM27 trivial ?_
 refine Zo 0 [.exec] (.call 9 [.agg #[iv 1,iv 0,iv 1,.slice (some ⟨bn,0,none⟩) 2 2,.slice (some ⟨bl,0,none⟩) 1 1,.slice none 0 0,.slice none 0 0]]) [true = true] (A1 rfl) (runs_call E9 (by have h := Right_any (awP 1) (awQ bn bl) u2 (aw_at 1 (hM27.blk 3 rfl) (hM27.blk 2 rfl)); rw [aw_right] at h; exact h)) ?_
 rintro _ u3 ⟨rfl,hx3⟩
 obtain ⟨hE28,hM29⟩ := Xt hE26 hM27 hx3
 refine Zh 3 [.xt,.a 0 0 7] hM29 trivial ?_
 refine Zo 0 [.exec] (.call 9 [.agg #[iv 1,iv 0,iv 2,.slice (some ⟨bn,0,none⟩) 2 2,.slice (some ⟨bl,0,none⟩) 1 1,.slice none 0 0,.slice none 0 0]]) [true = true] (A1 rfl) (runs_call E9 (by have h := Right_any (awP 2) (awQ bn bl) u3 (aw_at 2 (hM29.blk 3 rfl) (hM29.blk 2 rfl)); rw [aw_wrong] at h; exact h)) ?_
 rintro _ u4 ⟨rfl,hx4⟩
 obtain ⟨hE30,hM31⟩ := Xt hE28 hM29 hx4
 refine Zh 4 [.xt,.xt,.a 1 0 7] hM31 trivial ?_
 refine Zo 0 [.exec] (.call 13 [.agg #[iv 1,iv 0,iv 1,.slice (some ⟨bn,0,none⟩) 2 2,.slice (some ⟨bl,0,none⟩) 1 1,.slice none 0 0,.slice none 0 0],sv ([98])]) [true = true] (A1 rfl) (runs_call E13 (by have h := Node_any (awP 1) (awQ bn bl) [98] u4 (aw_at 1 (hM31.blk 3 rfl) (hM31.blk 2 rfl)); rw [aw_node] at h; exact h)) ?_
 rintro _ u5 ⟨rfl,hx5⟩
 obtain ⟨hE32,hM33⟩ := Xt hE30 hM31 hx5
 refine Zh 4 [.xt,.xt,.a 1 0 7] hM33 trivial ?_
 refine Zo 0 [.exec] (.call 15 [.agg #[iv 1,iv 0,iv 1,.slice (some ⟨bn,0,none⟩) 2 2,.slice (some ⟨bl,0,none⟩) 1 1,.slice none 0 0,.slice none 0 0],sv ([98])]) [true = true] (A1 rfl) (runs_call E15 (by have h := Dest_any (awP 1) (awQ bn bl) [98] u5 (aw_at 1 (hM33.blk 3 rfl) (hM33.blk 2 rfl)); rw [aw_dest] at h; exact h)) ?_
 rintro _ u6 ⟨rfl,hx6⟩
 obtain ⟨hE34,hM35⟩ := Xt hE32 hM33 hx6
 refine Zh 5 [.xt,.xt,.a 1 0 7,.xt,.a 1 0 7] hM35 trivial ?_
 refine Zo 0 [.exec] (.call 11 [.agg #[iv 1,iv 0,iv 1,.slice (some ⟨bn,0,none⟩) 2 2,.slice (some ⟨bl,0,none⟩) 1 1,.slice none 0 0,.slice none 0 0],.agg #[iv 1,iv 0,iv 1,.slice (some ⟨bn,0,none⟩) 2 2,.slice (some ⟨bl,0,none⟩) 1 1,.slice none 0 0,.slice none 0 0]]) [true = true] (A1 rfl) (runs_call E11 (by have h := Same_any (awP 1) (awP 1) (awQ bn bl) (awQ bn bl) u6 (aw_at 1 (hM35.blk 3 rfl) (hM35.blk 2 rfl)) (aw_at 1 (hM35.blk 3 rfl) (hM35.blk 2 rfl)); rw [aw_same] at h; exact h)) ?_
 rintro _ u7 ⟨rfl,hx7⟩
 obtain ⟨hE36,hM37⟩ := Xt hE34 hM35 hx7
 refine Zh 4 [.xt,.a 1 0 7,.xt,.a 0 0 7] hM37 trivial ?_
 refine Zo 0 [.exec] (.call 11 [.agg #[iv 1,iv 0,iv 1,.slice (some ⟨bn,0,none⟩) 2 2,.slice (some ⟨bl,0,none⟩) 1 1,.slice none 0 0,.slice none 0 0],.agg #[iv 1,iv 0,iv 2,.slice (some ⟨bn,0,none⟩) 2 2,.slice (some ⟨bl,0,none⟩) 1 1,.slice none 0 0,.slice none 0 0]]) [true = true] (A1 rfl) (runs_call E11 (by have h := Same_any (awP 1) (awP 2) (awQ bn bl) (awQ bn bl) u7 (aw_at 1 (hM37.blk 3 rfl) (hM37.blk 2 rfl)) (aw_at 2 (hM37.blk 3 rfl) (hM37.blk 2 rfl)); rw [aw_other] at h; exact h)) ?_
 rintro _ u8 ⟨rfl,hx8⟩
 obtain ⟨hE38,hM39⟩ := Xt hE36 hM37 hx8
 refine Zi 4 [.xt] [] trivial [] trivial ?_
 exact Z1 0 (.bool true) (⟨rfl,hE38⟩)

end Go.Proofs.YtcbclephakfemaaGreatRRRDoor
