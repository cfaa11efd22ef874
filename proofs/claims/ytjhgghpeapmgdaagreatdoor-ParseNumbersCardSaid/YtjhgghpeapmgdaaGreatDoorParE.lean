/-
  PARSE: the contract of check.
-/
import Derived.Test.YtjhgghpeapmgdaaGreatDoorParC
import Derived.Test.YtjhgghpeapmgdaaGreatDoorMg2
namespace Go.Proofs.YtjhgghpeapmgdaaGreatDoor
open Go.Bk Go.Proofs

set_option maxRecDepth 20000 in
set_option maxHeartbeats 2000000 in
theorem check_anyP (w0 : World) (bp : Nat) (X : List Res) (s : PSt) (m : PM) (w : World) (hA : ParAt w0 w bp X s m) :
    DoesP Tryz.prog 91 [pt bp 0] w (fun v w' => ∃ s' m',checkS s = .ok s' ∧ v = .tuple #[] ∧ ParAt w0 w' bp X s' m') (PanP (checkS s) w0) := by
 refine startP (c := Y91) Tryz.func91 rfl (by kernel_rfl) ?_
 show G _ 64 [] _ (kAt Y91 [] []) (stz [(0,pt bp 0)]) w
 have hE1 : Ext w0 w := hA.ext
 have hM2 := hA.hold
 have hp3 := hA.inv.pos
 have ha4 := hA.toks.addrE tokCells_len (by decide) hp3
 refine sgz 9 [.ld (.slice m.q.a4 s.p.checks.length m.q.c4)] (kOp Y91 [0] 7 []) [(0,pt bp 0),(5,pt bp 0),(11,iv (s.p.checks.length:Int))] [cl w bp 6 (.slice m.q.a4 s.p.checks.length m.q.c4)] (A1 (cell_of (hM2.blk 0 rfl) rfl)) ?_
 have hA5 : ParAt w0 w bp X s m := ⟨hE1,hM2,hA.deq,hA.toks,hA.cap,hA.inv⟩
 refine ossP [] (.call 113 [pt bp 0,sv ([99,104,101,99,107]),iv 16,iv (s.p.checks.length:Int)]) (some 12) (kOp Y91 [0] 8 []) [] trivial (runs_callP E113 (head_any w0 bp X s m wdCheck 16 (s.p.checks.length : Int) w hA5)) (fun x w' ⟨e,a,he,hx,hE⟩ => ⟨e,a,by simp only [checkS,he,andE_error],hx,hE⟩) ?_
 rintro _ w6 ⟨s7,m8,hs9,rfl,hA10⟩
 have hE11 : Ext w0 w6 := hA10.ext
 have hM12 := hA10.hold
 have hp13 := hA10.inv.pos
 have ha14 := hA10.toks.addrE tokCells_len (by decide) hp13
 have hp1 : s7.p = s.p ∧ s.p.checks.length < 16 := headS_plan hs9
 refine sg0 3 (kOp Y91 [1,0] 0 []) [(0,pt bp 0)] ?_
 refine os0 (.alloc 67) (some 2) (kOp Y91 [1,0] 1 []) (runs_alloc (z := .agg #[iv 0,iv 0,iv 0,iv 0,iv 0]) (by kernel_rfl)) ?_
 rintro _ w15 ⟨b2,rfl,hN16⟩
 have hE17 := hE11.trans hN16.ext
 have hM18 := hM12.new hN16
 refine sg0 3 (kOp Y91 [1,1,0] 0 []) [(0,pt bp 0),(2,pt b2 0)] ?_
 refine os0 (.bslice 37 5 [(1,sv ([114,101,97,99,104])),(2,sv ([119,105,116,104,105,110])),(3,sv ([119,97,121,112,111,105,110,116])),(4,sv ([101,113,117,97,108]))]) (some 13) (kOp Y91 [1,1,0] 1 []) (runs_bslice (cs := [sv ([]),sv ([114,101,97,99,104]),sv ([119,105,116,104,105,110]),sv ([119,97,121,112,111,105,110,116]),sv ([101,113,117,97,108])]) (e := 9) (by kernel_rfl)) ?_
 rintro _ w19 ⟨b3,rfl,hN20⟩
 have hE21 := hE17.trans hN20.ext
 have hM22 := hM18.new hN20
 refine sg0 5 (kOp Y91 [1,1,1,0] 1 []) [(0,pt bp 0),(2,pt b2 0),(3,.slice (some ⟨b3,0,none⟩) 5 5),(14,pt bp 0)] ?_
 have hA23 : ParAt w0 w19 bp ([.blk b3 ([sv ([]),sv ([114,101,97,99,104]),sv ([119,105,116,104,105,110]),sv ([119,97,121,112,111,105,110,116]),sv ([101,113,117,97,108])]) 9,.blk b2 ([iv 0,iv 0,iv 0,iv 0,iv 0]) 67] ++ X) s7 m8 := ⟨hE21,(hM22.pick 7 [2,3,4,5,6,0,1] (by kernel_rfl) (by kernel_rfl)),hA10.deq,hA10.toks,hA10.cap,hA10.inv⟩
 refine ossP [] (.call 92 [pt bp 0,iv 1]) (some 15) (kOp Y91 [1,1,1,0] 2 []) [] trivial (runs_callP E92 (take_any w0 bp ([.blk b3 ([sv ([]),sv ([114,101,97,99,104]),sv ([119,105,116,104,105,110]),sv ([119,97,121,112,111,105,110,116]),sv ([101,113,117,97,108])]) 9,.blk b2 ([iv 0,iv 0,iv 0,iv 0,iv 0]) 67] ++ X) s7 m8 1 w19 hA23)) (fun x w' ⟨e,a,he,hx,hE⟩ => ⟨e,a,by simp only [checkS,hs9,kindS,he,andE_ok,andE_error],hx,hE⟩) ?_
 rintro _ w24 ⟨t,s25,m26,hs27,rfl,hA28⟩
 have hE29 : Ext w0 w24 := hA28.ext
 have hM30 := hA28.hold
 have hp31 := hA28.inv.pos
 have ha32 := hA28.toks.addrE tokCells_len (by decide) hp31
 refine os0 (.alloc 49) (some 4) (kOp Y91 [1,1,1,0] 3 []) (runs_alloc (z := .agg #[iv 0,sv ([]),iv 0,iv 0]) (by kernel_rfl)) ?_
 rintro _ w33 ⟨b4,rfl,hN34⟩
 have hE35 := hE29.trans hN34.ext
 have hM36 := hM30.new hN34
 refine os0 (.store 49 (pt b4 0) (vT t)) none (kOp Y91 [1,1,1,0] 4 []) (runs_st (hM36.blk 0 rfl) (by kernel_rfl)) ?_
 rintro _ w37 hC38
 have hE39 := hM36.toExt hE35 hC38 0 rfl
 have hM40 := hM36.set 0 rfl hC38
 refine sgz 6 [.ld (sv t.text)] (kOp Y91 (ro1 4 [0]) 3 []) [(0,pt bp 0),(2,pt b2 0),(4,pt b4 0),(16,.slice (some ⟨b3,0,none⟩) 5 5),(18,sv t.text)] [cl w37 b4 1 (sv t.text)] (A1 (cell_of (hM40.blk 0 rfl) rfl)) ?_
 refine os0 _ (some 19) (kOp Y91 (ro1 4 [0]) 4 []) (runs_call E121 (idxStr kindWords (some ⟨b3,0,none⟩) 5 t.text w37 (blk_cells (hM40.blk 6 rfl)) (by decide))) ?_
 rintro _ w41 ⟨rfl,hxi⟩
 have hE42 := hE39.trans hxi
 have hM43 := hM40.ext hxi
 refine sg0 1 (kOp Y91 (ro1 4 [0]) 5 []) [(0,pt bp 0),(2,pt b2 0),(4,pt b4 0),(19,iv (kindIx t.text)),(20,pt b2 0)] ?_
 refine os0 (.store 3 (pt b2 0) (iv (kindIx t.text))) none (kOp Y91 (ro1 4 [0]) 6 []) (runs_st (hM43.blk 7 rfl) (by kernel_rfl)) ?_
 rintro _ w44 hC45
 have hE46 := hM43.toExt hE42 hC45 7 rfl
 have hM47 := hM43.set 7 rfl hC45
 refine sgz 8 [.ld (iv (kindIx t.text))] (kAt Y91 (ro1 5 [0,1]) []) [(0,pt bp 0),(2,pt b2 0),(4,pt b4 0),(23,.bool (decide ((kindIx t.text : Int) < (0 : Int))))] [cl w44 b2 0 (iv (kindIx t.text))] (A1 (cell_of (hM47.blk 7 rfl) rfl)) ?_
 refine brd ((kindIx t.text : Int) < (0 : Int)) (fun h1 => ?_) (fun h1 => ?_)
 ·refine sgz 2 [.ld (vT t)] (kOp Y91 (ro1 5 [0,1,0]) 1 []) [(0,pt bp 0),(2,pt b2 0),(24,(vT t))] [cl w44 b4 0 (iv t.kind),cl w44 b4 1 (sv t.text),cl w44 b4 2 (iv t.n),cl w44 b4 3 (iv (t.at'))] (AC (cell_of (hM47.blk 0 rfl) rfl) (AC (cell_of (hM47.blk 0 rfl) rfl) (AC (cell_of (hM47.blk 0 rfl) rfl) (A1 (cell_of (hM47.blk 0 rfl) rfl))))) ?_
  refine ossP [] (.call 93 [(vT t),iv 40]) (some 25) (kOp Y91 (ro1 5 [0,1,0]) 2 []) [] trivial (runs_callP E93 (fail_any t 40 w44)) (fun x w' ⟨hx,hE⟩ => ⟨40,t.at',by simp only [checkS,hs9,andE_ok,kindS,hs27,if_pos h1,andE_error],hx,hE46.trans hE⟩) ?_
  rintro _ _ ⟨⟩
 have hk : kindS s7 = .ok (kindIx t.text,s25) := by simp only [kindS,hs27,andE_ok,if_neg h1]
 have hkp : s25.p = s.p := (kindS_plan hk).trans hp1.1
 refine sg0 4 (kOp Y91 (ro1 6 [0]) 1 []) [(0,pt bp 0),(2,pt b2 0),(26,pt bp 0)] ?_
 have hsk := hk
 have hA48 : ParAt w0 w44 bp ([.blk b4 ([iv t.kind,sv t.text,iv t.n,iv (t.at')]) 49,.blk b3 ([sv ([]),sv ([114,101,97,99,104]),sv ([119,105,116,104,105,110]),sv ([119,97,121,112,111,105,110,116]),sv ([101,113,117,97,108])]) 9,.blk b2 ([iv (kindIx t.text),iv 0,iv 0,iv 0,iv 0]) 67] ++ X) s25 m26 := ⟨hE46,(hM47.pick 8 [1,2,3,4,5,0,6,7] (by kernel_rfl) (by kernel_rfl)),hA28.deq,hA28.toks,hA28.cap,hA28.inv⟩
 refine ossP [] (.call 115 [pt bp 0]) (some 27) (kOp Y91 (ro1 6 [0]) 2 []) [] trivial (runs_callP E115 (aNode_any w0 bp ([.blk b4 ([iv t.kind,sv t.text,iv t.n,iv (t.at')]) 49,.blk b3 ([sv ([]),sv ([114,101,97,99,104]),sv ([119,105,116,104,105,110]),sv ([119,97,121,112,111,105,110,116]),sv ([101,113,117,97,108])]) 9,.blk b2 ([iv (kindIx t.text),iv 0,iv 0,iv 0,iv 0]) 67] ++ X) s25 m26  w44 hA48)) (fun x w' ⟨e,a,he,hx,hE⟩ => ⟨e,a,by simp only [checkS,hs9,hsk,he,andE_ok,andE_error],hx,hE⟩) ?_
 rintro _ w49 ⟨rn,s50,m51,hs52,rfl,hA53⟩
 have hE54 : Ext w0 w49 := hA53.ext
 have hM55 := hA53.hold
 have hp56 := hA53.inv.pos
 have ha57 := hA53.toks.addrE tokCells_len (by decide) hp56
 refine sg0 1 (kOp Y91 (ro1 6 [0]) 3 []) [(0,pt bp 0),(2,pt b2 0),(27,iv rn),(28,pt b2 1)] ?_
 refine os0 (.store 3 (pt b2 1) (iv rn)) none (kOp Y91 (ro1 6 [0]) 4 []) (runs_st (hM55.blk 7 rfl) (by kernel_rfl)) ?_
 rintro _ w58 hC59
 have hE60 := hM55.toExt hE54 hC59 7 rfl
 have hM61 := hM55.set 7 rfl hC59
 refine sgz 8 [.ld (iv (kindIx t.text))] (kAt Y91 (ro1 7 [0,1]) []) [(0,pt bp 0),(2,pt b2 0),(31,.bool (decide ((kindIx t.text : Int) = (4 : Int))))] [cl w58 b2 0 (iv (kindIx t.text))] (A1 (cell_of (hM61.blk 7 rfl) rfl)) ?_
 refine brd ((kindIx t.text : Int) = (4 : Int)) (fun h4 => ?_) (fun h4 => ?_)
 ·refine sg0 2 (kOp Y91 (ro1 7 [0,1,0]) 1 []) [(0,pt bp 0),(2,pt b2 0),(32,pt bp 0)] ?_
  have hA62 : ParAt w0 w58 bp ([.blk b4 ([iv t.kind,sv t.text,iv t.n,iv (t.at')]) 49,.blk b3 ([sv ([]),sv ([114,101,97,99,104]),sv ([119,105,116,104,105,110]),sv ([119,97,121,112,111,105,110,116]),sv ([101,113,117,97,108])]) 9,.blk b2 ([iv (kindIx t.text),iv rn,iv 0,iv 0,iv 0]) 67] ++ X) s50 m51 := ⟨hE60,hM61,hA53.deq,hA53.toks,hA53.cap,hA53.inv⟩
  refine ossP [] (.call 115 [pt bp 0]) (some 33) (kOp Y91 (ro1 7 [0,1,0]) 2 []) [] trivial (runs_callP E115 (aNode_any w0 bp ([.blk b4 ([iv t.kind,sv t.text,iv t.n,iv (t.at')]) 49,.blk b3 ([sv ([]),sv ([114,101,97,99,104]),sv ([119,105,116,104,105,110]),sv ([119,97,121,112,111,105,110,116]),sv ([101,113,117,97,108])]) 9,.blk b2 ([iv (kindIx t.text),iv rn,iv 0,iv 0,iv 0]) 67] ++ X) s50 m51  w58 hA62)) (fun x w' ⟨e,a,he,hx,hE⟩ => ⟨e,a,by simp only [checkS,hs9,hsk,hs52,otherS,if_pos h4,he,andE_ok,andE_error],hx,hE⟩) ?_
  rintro _ w63 ⟨ro,s64,m65,hs66,rfl,hA67⟩
  have hE68 : Ext w0 w63 := hA67.ext
  have hM69 := hA67.hold
  have hp70 := hA67.inv.pos
  have ha71 := hA67.toks.addrE tokCells_len (by decide) hp70
  refine sg0 1 (kOp Y91 (ro1 7 [0,1,0]) 3 []) [(0,pt bp 0),(2,pt b2 0),(33,iv ro),(34,pt b2 4)] ?_
  refine os0 (.store 3 (pt b2 4) (iv ro)) none (kOp Y91 (ro1 7 [0,1,0]) 4 []) (runs_st (hM69.blk 7 rfl) (by kernel_rfl)) ?_
  rintro _ w72 hC73
  have hE74 := hM69.toExt hE68 hC73 7 rfl
  have hM75 := hM69.set 7 rfl hC73
  refine sg0 4 (kOp Y91 (ro1 8 [0]) 1 []) [(0,pt bp 0),(2,pt b2 0),(35,pt bp 0)] ?_
  have hA76 : ParAt w0 w72 bp ([.blk b4 ([iv t.kind,sv t.text,iv t.n,iv (t.at')]) 49,.blk b3 ([sv ([]),sv ([114,101,97,99,104]),sv ([119,105,116,104,105,110]),sv ([119,97,121,112,111,105,110,116]),sv ([101,113,117,97,108])]) 9,.blk b2 ([iv (kindIx t.text),iv rn,iv 0,iv 0,iv ro]) 67] ++ X) s64 m65 := ⟨hE74,hM75,hA67.deq,hA67.toks,hA67.cap,hA67.inv⟩
  refine ossP [] (.call 122 [pt bp 0]) (some 36) (kOp Y91 (ro1 8 [0]) 2 []) [] trivial (runs_callP E122 (aDest_any w0 bp ([.blk b4 ([iv t.kind,sv t.text,iv t.n,iv (t.at')]) 49,.blk b3 ([sv ([]),sv ([114,101,97,99,104]),sv ([119,105,116,104,105,110]),sv ([119,97,121,112,111,105,110,116]),sv ([101,113,117,97,108])]) 9,.blk b2 ([iv (kindIx t.text),iv rn,iv 0,iv 0,iv ro]) 67] ++ X) s64 m65  w72 hA76)) (fun x w' ⟨e,a,he,hx,hE⟩ => ⟨e,a,by simp only [checkS,hs9,hsk,hs52,otherS,if_pos h4,hs66,he,andE_ok,andE_error],hx,hE⟩) ?_
  rintro _ w77 ⟨rd,s78,m79,hs80,rfl,hA81⟩
  have hE82 : Ext w0 w77 := hA81.ext
  have hM83 := hA81.hold
  have hp84 := hA81.inv.pos
  have ha85 := hA81.toks.addrE tokCells_len (by decide) hp84
  refine sg0 1 (kOp Y91 (ro1 8 [0]) 3 []) [(0,pt bp 0),(2,pt b2 0),(36,iv rd),(37,pt b2 2)] ?_
  refine os0 (.store 3 (pt b2 2) (iv rd)) none (kOp Y91 (ro1 8 [0]) 4 []) (runs_st (hM83.blk 7 rfl) (by kernel_rfl)) ?_
  rintro _ w86 hC87
  have hE88 := hM83.toExt hE82 hC87 7 rfl
  have hM89 := hM83.set 7 rfl hC87
  refine sgz 13 [.ld (iv (kindIx t.text))] (kAt Y91 (ro1 9 [0,1,0,1]) []) [(0,pt bp 0),(2,pt b2 0),(39,iv (kindIx t.text)),(40,.bool (decide ((kindIx t.text : Int) = (2 : Int))))] [cl w86 b2 0 (iv (kindIx t.text))] (A1 (cell_of (hM89.blk 7 rfl) rfl)) ?_
  have h42 : ¬ (kindIx t.text = 2) := by omega
  have h43 : ¬ (kindIx t.text = 3) := by omega
  refine sgz 12 [.skip,.skip] (kOp Y91 (ro1 10 [0]) 1 []) [(0,pt bp 0),(2,pt b2 0),(50,pt bp 0)] [(decide ((kindIx t.text : Int) = (2 : Int))) = false,(decide ((kindIx t.text : Int) = (3 : Int))) = false] (AC (decide_eq_false h42) (A1 (decide_eq_false h43))) ?_
  have hA90 : ParAt w0 w86 bp ([.blk b4 ([iv t.kind,sv t.text,iv t.n,iv (t.at')]) 49,.blk b3 ([sv ([]),sv ([114,101,97,99,104]),sv ([119,105,116,104,105,110]),sv ([119,97,121,112,111,105,110,116]),sv ([101,113,117,97,108])]) 9,.blk b2 ([iv (kindIx t.text),iv rn,iv rd,iv 0,iv ro]) 67] ++ X) s78 m79 := ⟨hE88,hM89,hA81.deq,hA81.toks,hA81.cap,hA81.inv⟩
  refine ossP [] (.call 112 [pt bp 0]) (some 51) (kOp Y91 (ro1 10 [0]) 2 []) [] trivial (runs_callP E112 (stop_any w0 bp ([.blk b4 ([iv t.kind,sv t.text,iv t.n,iv (t.at')]) 49,.blk b3 ([sv ([]),sv ([114,101,97,99,104]),sv ([119,105,116,104,105,110]),sv ([119,97,121,112,111,105,110,116]),sv ([101,113,117,97,108])]) 9,.blk b2 ([iv (kindIx t.text),iv rn,iv rd,iv 0,iv ro]) 67] ++ X) s78 m79  w86 hA90)) (fun x w' ⟨e,a,he,hx,hE⟩ => ⟨e,a,by simp only [checkS,hs9,hsk,hs52,otherS,if_pos h4,hs66,hs80,restS,if_neg h42,if_neg h43,he,andE_ok,andE_error],hx,hE⟩) ?_
  rintro _ w91 ⟨s92,m93,hs94,rfl,hA95⟩
  have hE96 : Ext w0 w91 := hA95.ext
  have hM97 := hA95.hold
  have hp98 := hA95.inv.pos
  have ha99 := hA95.toks.addrE tokCells_len (by decide) hp98
  have hp7 : s92.p.checks.length < 16 := by rw [stopS_plan hs94,aDestS_plan hs80,aNodeS_plan hs66,aNodeS_plan hs52,hkp]; exact hp1.2
  refine sg0 1 (kAt Y91 (ro1 11 []) []) [(0,pt bp 0),(2,pt b2 0)] ?_
  refine dBegin (k' := []) (id := 17) (m := 13) (ops := opsAt (cAt Y91 (ro1 11 []))) (fun _ w' => w'.heap[b2]? = some (.cells #[iv (kindIx t.text),iv rn,iv rd,iv 0,iv ro] 67 (0,0))) (by kernel_rfl) (PQ.body _ _ _) (by kernel_rfl) (by kernel_rfl) ?_
  intro w100 hx101
  have hE102 := hE96.trans hx101
  have hM103 := hM97.ext hx101
  refine dtz [0,1,2,3,4,6] [.ld (.agg #[iv (kindIx t.text),iv rn,iv rd,iv 0,iv ro])] 7 (lb 13 95) [(52,pt bp 0),(56,pt bp 6),(58,.agg #[iv (kindIx t.text),iv rn,iv rd,iv 0,iv ro])] (fun w' => [cl w' b2 0 (iv (kindIx t.text)),cl w' b2 1 (iv rn),cl w' b2 2 (iv rd),cl w' b2 3 (iv 0),cl w' b2 4 (iv ro)]) (fun w' hS => (AC (cell_of hS rfl) (AC (cell_of hS rfl) (AC (cell_of hS rfl) (AC (cell_of hS rfl) (A1 (cell_of hS rfl))))))) ((hM103.blk 7 rfl)) ?_
  refine dAll 5 [7] (by kernel_rfl) ?_
  refine ⟨?_,?_⟩
  ·refine dos [] (.load 27 (pt bp 6)) (some 57) [] (lb 13 127) trivial (runs_load (v := .slice m93.q.a4 s92.p.checks.length m93.q.c4) (ps := [cl w100 bp 6 (.slice m93.q.a4 s92.p.checks.length m93.q.c4)]) (by kernel_rfl) (A1 (cell_of (hM103.blk 0 rfl) rfl))) ?_
   rintro _ _ ⟨rfl,rfl⟩
   refine ⟨(hM103.blk 7 rfl),?_⟩
   refine dAll 7 [] (by kernel_rfl) ?_
   refine dos [] (.bslice 27 1 [(0,.agg #[iv (kindIx t.text),iv rn,iv rd,iv 0,iv ro])]) (some 59) [] (lb 13 255) trivial (runs_bslice (cs := [iv (kindIx t.text),iv rn,iv rd,iv 0,iv ro]) (e := 67) (by kernel_rfl)) ?_
   rintro _ w104 ⟨be,rfl,hN105⟩
   have hE106 := hE102.trans hN105.ext
   have hM107 := hM103.new hN105
   refine ⟨(hM107.blk 8 rfl),?_⟩
   refine dAll 8 [] (by kernel_rfl) ?_
   refine dos [] (.builtin .append #[27,27] 27 #[false,false] [.slice m93.q.a4 s92.p.checks.length m93.q.c4,.slice (some ⟨be,0,none⟩) 1 1]) (some 60) [] (lb 13 511) trivial (runs_appH (e := 67) (size := 5) (bytes := 40) (by kernel_rfl) (hM107.row 5 rfl) (m := 1) (news := [iv (kindIx t.text),iv rn,iv rd,iv 0,iv ro]) (hM107.blk 0 rfl) rfl (by simp [Value.oneCell']) (by omega) (by omega) hM107.base) ?_
   rintro vs109 w108 ⟨hr110,hg111,ho112⟩
   have hr113 : w108.ownsRow w0.heap.size 67 5 vs109 ((s92.p.checks ++ [(⟨kindIx t.text,rn,rd,0,ro⟩ : PCheck)]).length) ((s92.p.checks ++ [(⟨kindIx t.text,rn,rd,0,ro⟩ : PCheck)]).flatMap checkC) := by simpa [checkC] using hr110
   have hE114 := hM107.toExtApp hE106 5 rfl hg111
   have hM115 := hM107.app 5 rfl hr113 hg111 ho112
   obtain ⟨av,ac,hvsvs109⟩ := row_slice (hM115.row 5 rfl)
   subst hvsvs109
   refine ⟨(hM115.blk 8 rfl),?_⟩
   refine dtz [9,10,11] [] 1 (lb 13 4095) [(60,.slice av ((s92.p.checks ++ [(⟨kindIx t.text,rn,rd,0,ro⟩ : PCheck)]).length) ac),(63,pt bp 6)] (fun w' => []) (fun w' hS => trivial) ((hM115.blk 8 rfl)) ?_
   refine dAll 12 [] (by kernel_rfl) ?_
   refine dos [] (.store 27 (pt bp 6) (.slice av ((s92.p.checks ++ [(⟨kindIx t.text,rn,rd,0,ro⟩ : PCheck)]).length) ac)) none [] (lb 13 8191) trivial (runs_st (hM115.blk 1 rfl) (by kernel_rfl)) ?_
   rintro _ w116 hC117
   have hE118 := hM115.toExt hE114 hC117 1 rfl
   have hM119 := hM115.set 1 rfl hC117
   refine ⟨(hM119.blk 8 rfl),?_⟩
   refine dDone (by kernel_rfl) ?_
   exact endP (hs := []) (vs := []) (ps := []) (by kernel_rfl) trivial (v := .tuple #[]) rfl (⟨⟨addCheck s92.p (⟨kindIx t.text,rn,rd,0,ro⟩ : PCheck),s92.ts⟩,⟨{ m93.q with a4 := av,c4 := ac },m93.ta,m93.tc⟩,by simp only [checkS,hs9,hsk,hs52,otherS,if_pos h4,hs66,hs80,restS,if_neg h42,if_neg h43,hs94,andE_ok],rfl,⟨hE118,(hM119.pick 9 [1,2,3,4,5] (by kernel_rfl) (by kernel_rfl)),hA95.deq,hA95.toks,hA95.cap,(hA95.inv.check hp7)⟩⟩)
  refine dos [] (.bslice 27 1 [(0,.agg #[iv (kindIx t.text),iv rn,iv rd,iv 0,iv ro])]) (some 59) [] (lb 13 223) trivial (runs_bslice (cs := [iv (kindIx t.text),iv rn,iv rd,iv 0,iv ro]) (e := 67) (by kernel_rfl)) ?_
  rintro _ w120 ⟨be,rfl,hN121⟩
  have hE122 := hE102.trans hN121.ext
  have hM123 := hM103.new hN121
  refine ⟨(hM123.blk 8 rfl),?_⟩
  refine dAll 5 [] (by kernel_rfl) ?_
  refine dos [] (.load 27 (pt bp 6)) (some 57) [] (lb 13 255) trivial (runs_load (v := .slice m93.q.a4 s92.p.checks.length m93.q.c4) (ps := [cl w120 bp 6 (.slice m93.q.a4 s92.p.checks.length m93.q.c4)]) (by kernel_rfl) (A1 (cell_of (hM123.blk 1 rfl) rfl))) ?_
  rintro _ _ ⟨rfl,rfl⟩
  refine ⟨(hM123.blk 8 rfl),?_⟩
  refine dAll 8 [] (by kernel_rfl) ?_
  refine dos [] (.builtin .append #[27,27] 27 #[false,false] [.slice m93.q.a4 s92.p.checks.length m93.q.c4,.slice (some ⟨be,0,none⟩) 1 1]) (some 60) [] (lb 13 511) trivial (runs_appH (e := 67) (size := 5) (bytes := 40) (by kernel_rfl) (hM123.row 5 rfl) (m := 1) (news := [iv (kindIx t.text),iv rn,iv rd,iv 0,iv ro]) (hM123.blk 0 rfl) rfl (by simp [Value.oneCell']) (by omega) (by omega) hM123.base) ?_
  rintro vs125 w124 ⟨hr126,hg127,ho128⟩
  have hr129 : w124.ownsRow w0.heap.size 67 5 vs125 ((s92.p.checks ++ [(⟨kindIx t.text,rn,rd,0,ro⟩ : PCheck)]).length) ((s92.p.checks ++ [(⟨kindIx t.text,rn,rd,0,ro⟩ : PCheck)]).flatMap checkC) := by simpa [checkC] using hr126
  have hE130 := hM123.toExtApp hE122 5 rfl hg127
  have hM131 := hM123.app 5 rfl hr129 hg127 ho128
  obtain ⟨av,ac,hvsvs125⟩ := row_slice (hM131.row 5 rfl)
  subst hvsvs125
  refine ⟨(hM131.blk 8 rfl),?_⟩
  refine dtz [9,10,11] [] 1 (lb 13 4095) [(60,.slice av ((s92.p.checks ++ [(⟨kindIx t.text,rn,rd,0,ro⟩ : PCheck)]).length) ac),(63,pt bp 6)] (fun w' => []) (fun w' hS => trivial) ((hM131.blk 8 rfl)) ?_
  refine dAll 12 [] (by kernel_rfl) ?_
  refine dos [] (.store 27 (pt bp 6) (.slice av ((s92.p.checks ++ [(⟨kindIx t.text,rn,rd,0,ro⟩ : PCheck)]).length) ac)) none [] (lb 13 8191) trivial (runs_st (hM131.blk 1 rfl) (by kernel_rfl)) ?_
  rintro _ w132 hC133
  have hE134 := hM131.toExt hE130 hC133 1 rfl
  have hM135 := hM131.set 1 rfl hC133
  refine ⟨(hM135.blk 8 rfl),?_⟩
  refine dDone (by kernel_rfl) ?_
  exact endP (hs := []) (vs := []) (ps := []) (by kernel_rfl) trivial (v := .tuple #[]) rfl (⟨⟨addCheck s92.p (⟨kindIx t.text,rn,rd,0,ro⟩ : PCheck),s92.ts⟩,⟨{ m93.q with a4 := av,c4 := ac },m93.ta,m93.tc⟩,by simp only [checkS,hs9,hsk,hs52,otherS,if_pos h4,hs66,hs80,restS,if_neg h42,if_neg h43,hs94,andE_ok],rfl,⟨hE134,(hM135.pick 9 [1,2,3,4,5] (by kernel_rfl) (by kernel_rfl)),hA95.deq,hA95.toks,hA95.cap,(hA95.inv.check hp7)⟩⟩)
 refine sg0 4 (kOp Y91 (ro1 8 [0]) 1 []) [(0,pt bp 0),(2,pt b2 0),(35,pt bp 0)] ?_
 have hA136 : ParAt w0 w58 bp ([.blk b4 ([iv t.kind,sv t.text,iv t.n,iv (t.at')]) 49,.blk b3 ([sv ([]),sv ([114,101,97,99,104]),sv ([119,105,116,104,105,110]),sv ([119,97,121,112,111,105,110,116]),sv ([101,113,117,97,108])]) 9,.blk b2 ([iv (kindIx t.text),iv rn,iv 0,iv 0,iv 0]) 67] ++ X) s50 m51 := ⟨hE60,hM61,hA53.deq,hA53.toks,hA53.cap,hA53.inv⟩
 refine ossP [] (.call 122 [pt bp 0]) (some 36) (kOp Y91 (ro1 8 [0]) 2 []) [] trivial (runs_callP E122 (aDest_any w0 bp ([.blk b4 ([iv t.kind,sv t.text,iv t.n,iv (t.at')]) 49,.blk b3 ([sv ([]),sv ([114,101,97,99,104]),sv ([119,105,116,104,105,110]),sv ([119,97,121,112,111,105,110,116]),sv ([101,113,117,97,108])]) 9,.blk b2 ([iv (kindIx t.text),iv rn,iv 0,iv 0,iv 0]) 67] ++ X) s50 m51  w58 hA136)) (fun x w' ⟨e,a,he,hx,hE⟩ => ⟨e,a,by simp only [checkS,hs9,hsk,hs52,otherS,if_neg h4,he,andE_ok,andE_error],hx,hE⟩) ?_
 rintro _ w137 ⟨rd,s138,m139,hs140,rfl,hA141⟩
 have hE142 : Ext w0 w137 := hA141.ext
 have hM143 := hA141.hold
 have hp144 := hA141.inv.pos
 have ha145 := hA141.toks.addrE tokCells_len (by decide) hp144
 refine sg0 1 (kOp Y91 (ro1 8 [0]) 3 []) [(0,pt bp 0),(2,pt b2 0),(36,iv rd),(37,pt b2 2)] ?_
 refine os0 (.store 3 (pt b2 2) (iv rd)) none (kOp Y91 (ro1 8 [0]) 4 []) (runs_st (hM143.blk 7 rfl) (by kernel_rfl)) ?_
 rintro _ w146 hC147
 have hE148 := hM143.toExt hE142 hC147 7 rfl
 have hM149 := hM143.set 7 rfl hC147
 refine sgz 13 [.ld (iv (kindIx t.text))] (kAt Y91 (ro1 9 [0,1,0,1]) []) [(0,pt bp 0),(2,pt b2 0),(39,iv (kindIx t.text)),(40,.bool (decide ((kindIx t.text : Int) = (2 : Int))))] [cl w146 b2 0 (iv (kindIx t.text))] (A1 (cell_of (hM149.blk 7 rfl) rfl)) ?_
 refine brd ((kindIx t.text : Int) = (2 : Int)) (fun h42 => ?_) (fun h42 => ?_)
 ·refine sg0 2 (kOp Y91 (ro1 9 [0,1,0,1,0]) 1 []) [(0,pt bp 0),(2,pt b2 0),(42,pt bp 0)] ?_
  have hA150 : ParAt w0 w146 bp ([.blk b4 ([iv t.kind,sv t.text,iv t.n,iv (t.at')]) 49,.blk b3 ([sv ([]),sv ([114,101,97,99,104]),sv ([119,105,116,104,105,110]),sv ([119,97,121,112,111,105,110,116]),sv ([101,113,117,97,108])]) 9,.blk b2 ([iv (kindIx t.text),iv rn,iv rd,iv 0,iv 0]) 67] ++ X) s138 m139 := ⟨hE148,hM149,hA141.deq,hA141.toks,hA141.cap,hA141.inv⟩
  refine ossP [] (.call 111 [pt bp 0,iv 0,iv 65535]) (some 43) (kOp Y91 (ro1 9 [0,1,0,1,0]) 2 []) [] trivial (runs_callP E111 (number_anyP w0 bp ([.blk b4 ([iv t.kind,sv t.text,iv t.n,iv (t.at')]) 49,.blk b3 ([sv ([]),sv ([114,101,97,99,104]),sv ([119,105,116,104,105,110]),sv ([119,97,121,112,111,105,110,116]),sv ([101,113,117,97,108])]) 9,.blk b2 ([iv (kindIx t.text),iv rn,iv rd,iv 0,iv 0]) 67] ++ X) s138 m139 0 65535 w146 hA150)) (fun x w' ⟨e,a,he,hx,hE⟩ => ⟨e,a,by simp only [checkS,hs9,hsk,hs52,otherS,if_neg h4,hs140,restS,if_pos h42,he,andE_ok,andE_error],hx,hE⟩) ?_
  rintro _ w151 ⟨rl,s152,m153,hs154,rfl,hA155⟩
  have hE156 : Ext w0 w151 := hA155.ext
  have hM157 := hA155.hold
  have hp158 := hA155.inv.pos
  have ha159 := hA155.toks.addrE tokCells_len (by decide) hp158
  refine sg0 1 (kOp Y91 (ro1 9 [0,1,0,1,0]) 3 []) [(0,pt bp 0),(2,pt b2 0),(43,iv rl),(44,pt b2 3)] ?_
  refine os0 (.store 3 (pt b2 3) (iv rl)) none (kOp Y91 (ro1 9 [0,1,0,1,0]) 4 []) (runs_st (hM157.blk 7 rfl) (by kernel_rfl)) ?_
  rintro _ w160 hC161
  have hE162 := hM157.toExt hE156 hC161 7 rfl
  have hM163 := hM157.set 7 rfl hC161
  refine sg0 5 (kOp Y91 (ro1 10 [0]) 1 []) [(0,pt bp 0),(2,pt b2 0),(50,pt bp 0)] ?_
  have hA164 : ParAt w0 w160 bp ([.blk b4 ([iv t.kind,sv t.text,iv t.n,iv (t.at')]) 49,.blk b3 ([sv ([]),sv ([114,101,97,99,104]),sv ([119,105,116,104,105,110]),sv ([119,97,121,112,111,105,110,116]),sv ([101,113,117,97,108])]) 9,.blk b2 ([iv (kindIx t.text),iv rn,iv rd,iv rl,iv 0]) 67] ++ X) s152 m153 := ⟨hE162,hM163,hA155.deq,hA155.toks,hA155.cap,hA155.inv⟩
  refine ossP [] (.call 112 [pt bp 0]) (some 51) (kOp Y91 (ro1 10 [0]) 2 []) [] trivial (runs_callP E112 (stop_any w0 bp ([.blk b4 ([iv t.kind,sv t.text,iv t.n,iv (t.at')]) 49,.blk b3 ([sv ([]),sv ([114,101,97,99,104]),sv ([119,105,116,104,105,110]),sv ([119,97,121,112,111,105,110,116]),sv ([101,113,117,97,108])]) 9,.blk b2 ([iv (kindIx t.text),iv rn,iv rd,iv rl,iv 0]) 67] ++ X) s152 m153  w160 hA164)) (fun x w' ⟨e,a,he,hx,hE⟩ => ⟨e,a,by simp only [checkS,hs9,hsk,hs52,otherS,if_neg h4,hs140,restS,if_pos h42,hs154,he,andE_ok,andE_error],hx,hE⟩) ?_
  rintro _ w165 ⟨s166,m167,hs168,rfl,hA169⟩
  have hE170 : Ext w0 w165 := hA169.ext
  have hM171 := hA169.hold
  have hp172 := hA169.inv.pos
  have ha173 := hA169.toks.addrE tokCells_len (by decide) hp172
  have hp7 : s166.p.checks.length < 16 := by rw [stopS_plan hs168,numberS_plan hs154,aDestS_plan hs140,aNodeS_plan hs52,hkp]; exact hp1.2
  refine sg0 1 (kAt Y91 (ro1 11 []) []) [(0,pt bp 0),(2,pt b2 0)] ?_
  refine dBegin (k' := []) (id := 17) (m := 13) (ops := opsAt (cAt Y91 (ro1 11 []))) (fun _ w' => w'.heap[b2]? = some (.cells #[iv (kindIx t.text),iv rn,iv rd,iv rl,iv 0] 67 (0,0))) (by kernel_rfl) (PQ.body _ _ _) (by kernel_rfl) (by kernel_rfl) ?_
  intro w174 hx175
  have hE176 := hE170.trans hx175
  have hM177 := hM171.ext hx175
  refine dtz [0,1,2,3,4,6] [.ld (.agg #[iv (kindIx t.text),iv rn,iv rd,iv rl,iv 0])] 7 (lb 13 95) [(52,pt bp 0),(56,pt bp 6),(58,.agg #[iv (kindIx t.text),iv rn,iv rd,iv rl,iv 0])] (fun w' => [cl w' b2 0 (iv (kindIx t.text)),cl w' b2 1 (iv rn),cl w' b2 2 (iv rd),cl w' b2 3 (iv rl),cl w' b2 4 (iv 0)]) (fun w' hS => (AC (cell_of hS rfl) (AC (cell_of hS rfl) (AC (cell_of hS rfl) (AC (cell_of hS rfl) (A1 (cell_of hS rfl))))))) ((hM177.blk 7 rfl)) ?_
  refine dAll 5 [7] (by kernel_rfl) ?_
  refine ⟨?_,?_⟩
  ·refine dos [] (.load 27 (pt bp 6)) (some 57) [] (lb 13 127) trivial (runs_load (v := .slice m167.q.a4 s166.p.checks.length m167.q.c4) (ps := [cl w174 bp 6 (.slice m167.q.a4 s166.p.checks.length m167.q.c4)]) (by kernel_rfl) (A1 (cell_of (hM177.blk 0 rfl) rfl))) ?_
   rintro _ _ ⟨rfl,rfl⟩
   refine ⟨(hM177.blk 7 rfl),?_⟩
   refine dAll 7 [] (by kernel_rfl) ?_
   refine dos [] (.bslice 27 1 [(0,.agg #[iv (kindIx t.text),iv rn,iv rd,iv rl,iv 0])]) (some 59) [] (lb 13 255) trivial (runs_bslice (cs := [iv (kindIx t.text),iv rn,iv rd,iv rl,iv 0]) (e := 67) (by kernel_rfl)) ?_
   rintro _ w178 ⟨be,rfl,hN179⟩
   have hE180 := hE176.trans hN179.ext
   have hM181 := hM177.new hN179
   refine ⟨(hM181.blk 8 rfl),?_⟩
   refine dAll 8 [] (by kernel_rfl) ?_
   refine dos [] (.builtin .append #[27,27] 27 #[false,false] [.slice m167.q.a4 s166.p.checks.length m167.q.c4,.slice (some ⟨be,0,none⟩) 1 1]) (some 60) [] (lb 13 511) trivial (runs_appH (e := 67) (size := 5) (bytes := 40) (by kernel_rfl) (hM181.row 5 rfl) (m := 1) (news := [iv (kindIx t.text),iv rn,iv rd,iv rl,iv 0]) (hM181.blk 0 rfl) rfl (by simp [Value.oneCell']) (by omega) (by omega) hM181.base) ?_
   rintro vs183 w182 ⟨hr184,hg185,ho186⟩
   have hr187 : w182.ownsRow w0.heap.size 67 5 vs183 ((s166.p.checks ++ [(⟨kindIx t.text,rn,rd,rl,0⟩ : PCheck)]).length) ((s166.p.checks ++ [(⟨kindIx t.text,rn,rd,rl,0⟩ : PCheck)]).flatMap checkC) := by simpa [checkC] using hr184
   have hE188 := hM181.toExtApp hE180 5 rfl hg185
   have hM189 := hM181.app 5 rfl hr187 hg185 ho186
   obtain ⟨av,ac,hvsvs183⟩ := row_slice (hM189.row 5 rfl)
   subst hvsvs183
   refine ⟨(hM189.blk 8 rfl),?_⟩
   refine dtz [9,10,11] [] 1 (lb 13 4095) [(60,.slice av ((s166.p.checks ++ [(⟨kindIx t.text,rn,rd,rl,0⟩ : PCheck)]).length) ac),(63,pt bp 6)] (fun w' => []) (fun w' hS => trivial) ((hM189.blk 8 rfl)) ?_
   refine dAll 12 [] (by kernel_rfl) ?_
   refine dos [] (.store 27 (pt bp 6) (.slice av ((s166.p.checks ++ [(⟨kindIx t.text,rn,rd,rl,0⟩ : PCheck)]).length) ac)) none [] (lb 13 8191) trivial (runs_st (hM189.blk 1 rfl) (by kernel_rfl)) ?_
   rintro _ w190 hC191
   have hE192 := hM189.toExt hE188 hC191 1 rfl
   have hM193 := hM189.set 1 rfl hC191
   refine ⟨(hM193.blk 8 rfl),?_⟩
   refine dDone (by kernel_rfl) ?_
   exact endP (hs := []) (vs := []) (ps := []) (by kernel_rfl) trivial (v := .tuple #[]) rfl (⟨⟨addCheck s166.p (⟨kindIx t.text,rn,rd,rl,0⟩ : PCheck),s166.ts⟩,⟨{ m167.q with a4 := av,c4 := ac },m167.ta,m167.tc⟩,by simp only [checkS,hs9,hsk,hs52,otherS,if_neg h4,hs140,restS,if_pos h42,hs154,hs168,andE_ok],rfl,⟨hE192,(hM193.pick 9 [1,2,3,4,5] (by kernel_rfl) (by kernel_rfl)),hA169.deq,hA169.toks,hA169.cap,(hA169.inv.check hp7)⟩⟩)
  refine dos [] (.bslice 27 1 [(0,.agg #[iv (kindIx t.text),iv rn,iv rd,iv rl,iv 0])]) (some 59) [] (lb 13 223) trivial (runs_bslice (cs := [iv (kindIx t.text),iv rn,iv rd,iv rl,iv 0]) (e := 67) (by kernel_rfl)) ?_
  rintro _ w194 ⟨be,rfl,hN195⟩
  have hE196 := hE176.trans hN195.ext
  have hM197 := hM177.new hN195
  refine ⟨(hM197.blk 8 rfl),?_⟩
  refine dAll 5 [] (by kernel_rfl) ?_
  refine dos [] (.load 27 (pt bp 6)) (some 57) [] (lb 13 255) trivial (runs_load (v := .slice m167.q.a4 s166.p.checks.length m167.q.c4) (ps := [cl w194 bp 6 (.slice m167.q.a4 s166.p.checks.length m167.q.c4)]) (by kernel_rfl) (A1 (cell_of (hM197.blk 1 rfl) rfl))) ?_
  rintro _ _ ⟨rfl,rfl⟩
  refine ⟨(hM197.blk 8 rfl),?_⟩
  refine dAll 8 [] (by kernel_rfl) ?_
  refine dos [] (.builtin .append #[27,27] 27 #[false,false] [.slice m167.q.a4 s166.p.checks.length m167.q.c4,.slice (some ⟨be,0,none⟩) 1 1]) (some 60) [] (lb 13 511) trivial (runs_appH (e := 67) (size := 5) (bytes := 40) (by kernel_rfl) (hM197.row 5 rfl) (m := 1) (news := [iv (kindIx t.text),iv rn,iv rd,iv rl,iv 0]) (hM197.blk 0 rfl) rfl (by simp [Value.oneCell']) (by omega) (by omega) hM197.base) ?_
  rintro vs199 w198 ⟨hr200,hg201,ho202⟩
  have hr203 : w198.ownsRow w0.heap.size 67 5 vs199 ((s166.p.checks ++ [(⟨kindIx t.text,rn,rd,rl,0⟩ : PCheck)]).length) ((s166.p.checks ++ [(⟨kindIx t.text,rn,rd,rl,0⟩ : PCheck)]).flatMap checkC) := by simpa [checkC] using hr200
  have hE204 := hM197.toExtApp hE196 5 rfl hg201
  have hM205 := hM197.app 5 rfl hr203 hg201 ho202
  obtain ⟨av,ac,hvsvs199⟩ := row_slice (hM205.row 5 rfl)
  subst hvsvs199
  refine ⟨(hM205.blk 8 rfl),?_⟩
  refine dtz [9,10,11] [] 1 (lb 13 4095) [(60,.slice av ((s166.p.checks ++ [(⟨kindIx t.text,rn,rd,rl,0⟩ : PCheck)]).length) ac),(63,pt bp 6)] (fun w' => []) (fun w' hS => trivial) ((hM205.blk 8 rfl)) ?_
  refine dAll 12 [] (by kernel_rfl) ?_
  refine dos [] (.store 27 (pt bp 6) (.slice av ((s166.p.checks ++ [(⟨kindIx t.text,rn,rd,rl,0⟩ : PCheck)]).length) ac)) none [] (lb 13 8191) trivial (runs_st (hM205.blk 1 rfl) (by kernel_rfl)) ?_
  rintro _ w206 hC207
  have hE208 := hM205.toExt hE204 hC207 1 rfl
  have hM209 := hM205.set 1 rfl hC207
  refine ⟨(hM209.blk 8 rfl),?_⟩
  refine dDone (by kernel_rfl) ?_
  exact endP (hs := []) (vs := []) (ps := []) (by kernel_rfl) trivial (v := .tuple #[]) rfl (⟨⟨addCheck s166.p (⟨kindIx t.text,rn,rd,rl,0⟩ : PCheck),s166.ts⟩,⟨{ m167.q with a4 := av,c4 := ac },m167.ta,m167.tc⟩,by simp only [checkS,hs9,hsk,hs52,otherS,if_neg h4,hs140,restS,if_pos h42,hs154,hs168,andE_ok],rfl,⟨hE208,(hM209.pick 9 [1,2,3,4,5] (by kernel_rfl) (by kernel_rfl)),hA169.deq,hA169.toks,hA169.cap,(hA169.inv.check hp7)⟩⟩)
 refine sg0 5 (kAt Y91 (ro1 9 [0,1,0,1,1,1]) []) [(0,pt bp 0),(2,pt b2 0),(45,.bool (decide ((kindIx t.text : Int) = (3 : Int))))] ?_
 refine brd ((kindIx t.text : Int) = (3 : Int)) (fun h43 => ?_) (fun h43 => ?_)
 ·refine sg0 2 (kOp Y91 (ro1 9 [0,1,0,1,1,1,0]) 1 []) [(0,pt bp 0),(2,pt b2 0),(47,pt bp 0)] ?_
  have hA210 : ParAt w0 w146 bp ([.blk b4 ([iv t.kind,sv t.text,iv t.n,iv (t.at')]) 49,.blk b3 ([sv ([]),sv ([114,101,97,99,104]),sv ([119,105,116,104,105,110]),sv ([119,97,121,112,111,105,110,116]),sv ([101,113,117,97,108])]) 9,.blk b2 ([iv (kindIx t.text),iv rn,iv rd,iv 0,iv 0]) 67] ++ X) s138 m139 := ⟨hE148,hM149,hA141.deq,hA141.toks,hA141.cap,hA141.inv⟩
  refine ossP [] (.call 115 [pt bp 0]) (some 48) (kOp Y91 (ro1 9 [0,1,0,1,1,1,0]) 2 []) [] trivial (runs_callP E115 (aNode_any w0 bp ([.blk b4 ([iv t.kind,sv t.text,iv t.n,iv (t.at')]) 49,.blk b3 ([sv ([]),sv ([114,101,97,99,104]),sv ([119,105,116,104,105,110]),sv ([119,97,121,112,111,105,110,116]),sv ([101,113,117,97,108])]) 9,.blk b2 ([iv (kindIx t.text),iv rn,iv rd,iv 0,iv 0]) 67] ++ X) s138 m139  w146 hA210)) (fun x w' ⟨e,a,he,hx,hE⟩ => ⟨e,a,by simp only [checkS,hs9,hsk,hs52,otherS,if_neg h4,hs140,restS,if_neg h42,if_pos h43,he,andE_ok,andE_error],hx,hE⟩) ?_
  rintro _ w211 ⟨ro2,s212,m213,hs214,rfl,hA215⟩
  have hE216 : Ext w0 w211 := hA215.ext
  have hM217 := hA215.hold
  have hp218 := hA215.inv.pos
  have ha219 := hA215.toks.addrE tokCells_len (by decide) hp218
  refine sg0 1 (kOp Y91 (ro1 9 [0,1,0,1,1,1,0]) 3 []) [(0,pt bp 0),(2,pt b2 0),(48,iv ro2),(49,pt b2 4)] ?_
  refine os0 (.store 3 (pt b2 4) (iv ro2)) none (kOp Y91 (ro1 9 [0,1,0,1,1,1,0]) 4 []) (runs_st (hM217.blk 7 rfl) (by kernel_rfl)) ?_
  rintro _ w220 hC221
  have hE222 := hM217.toExt hE216 hC221 7 rfl
  have hM223 := hM217.set 7 rfl hC221
  refine sg0 5 (kOp Y91 (ro1 10 [0]) 1 []) [(0,pt bp 0),(2,pt b2 0),(50,pt bp 0)] ?_
  have hA224 : ParAt w0 w220 bp ([.blk b4 ([iv t.kind,sv t.text,iv t.n,iv (t.at')]) 49,.blk b3 ([sv ([]),sv ([114,101,97,99,104]),sv ([119,105,116,104,105,110]),sv ([119,97,121,112,111,105,110,116]),sv ([101,113,117,97,108])]) 9,.blk b2 ([iv (kindIx t.text),iv rn,iv rd,iv 0,iv ro2]) 67] ++ X) s212 m213 := ⟨hE222,hM223,hA215.deq,hA215.toks,hA215.cap,hA215.inv⟩
  refine ossP [] (.call 112 [pt bp 0]) (some 51) (kOp Y91 (ro1 10 [0]) 2 []) [] trivial (runs_callP E112 (stop_any w0 bp ([.blk b4 ([iv t.kind,sv t.text,iv t.n,iv (t.at')]) 49,.blk b3 ([sv ([]),sv ([114,101,97,99,104]),sv ([119,105,116,104,105,110]),sv ([119,97,121,112,111,105,110,116]),sv ([101,113,117,97,108])]) 9,.blk b2 ([iv (kindIx t.text),iv rn,iv rd,iv 0,iv ro2]) 67] ++ X) s212 m213  w220 hA224)) (fun x w' ⟨e,a,he,hx,hE⟩ => ⟨e,a,by simp only [checkS,hs9,hsk,hs52,otherS,if_neg h4,hs140,restS,if_neg h42,if_pos h43,hs214,he,andE_ok,andE_error],hx,hE⟩) ?_
  rintro _ w225 ⟨s226,m227,hs228,rfl,hA229⟩
  have hE230 : Ext w0 w225 := hA229.ext
  have hM231 := hA229.hold
  have hp232 := hA229.inv.pos
  have ha233 := hA229.toks.addrE tokCells_len (by decide) hp232
  have hp7 : s226.p.checks.length < 16 := by rw [stopS_plan hs228,aNodeS_plan hs214,aDestS_plan hs140,aNodeS_plan hs52,hkp]; exact hp1.2
  refine sg0 1 (kAt Y91 (ro1 11 []) []) [(0,pt bp 0),(2,pt b2 0)] ?_
  refine dBegin (k' := []) (id := 17) (m := 13) (ops := opsAt (cAt Y91 (ro1 11 []))) (fun _ w' => w'.heap[b2]? = some (.cells #[iv (kindIx t.text),iv rn,iv rd,iv 0,iv ro2] 67 (0,0))) (by kernel_rfl) (PQ.body _ _ _) (by kernel_rfl) (by kernel_rfl) ?_
  intro w234 hx235
  have hE236 := hE230.trans hx235
  have hM237 := hM231.ext hx235
  refine dtz [0,1,2,3,4,6] [.ld (.agg #[iv (kindIx t.text),iv rn,iv rd,iv 0,iv ro2])] 7 (lb 13 95) [(52,pt bp 0),(56,pt bp 6),(58,.agg #[iv (kindIx t.text),iv rn,iv rd,iv 0,iv ro2])] (fun w' => [cl w' b2 0 (iv (kindIx t.text)),cl w' b2 1 (iv rn),cl w' b2 2 (iv rd),cl w' b2 3 (iv 0),cl w' b2 4 (iv ro2)]) (fun w' hS => (AC (cell_of hS rfl) (AC (cell_of hS rfl) (AC (cell_of hS rfl) (AC (cell_of hS rfl) (A1 (cell_of hS rfl))))))) ((hM237.blk 7 rfl)) ?_
  refine dAll 5 [7] (by kernel_rfl) ?_
  refine ⟨?_,?_⟩
  ·refine dos [] (.load 27 (pt bp 6)) (some 57) [] (lb 13 127) trivial (runs_load (v := .slice m227.q.a4 s226.p.checks.length m227.q.c4) (ps := [cl w234 bp 6 (.slice m227.q.a4 s226.p.checks.length m227.q.c4)]) (by kernel_rfl) (A1 (cell_of (hM237.blk 0 rfl) rfl))) ?_
   rintro _ _ ⟨rfl,rfl⟩
   refine ⟨(hM237.blk 7 rfl),?_⟩
   refine dAll 7 [] (by kernel_rfl) ?_
   refine dos [] (.bslice 27 1 [(0,.agg #[iv (kindIx t.text),iv rn,iv rd,iv 0,iv ro2])]) (some 59) [] (lb 13 255) trivial (runs_bslice (cs := [iv (kindIx t.text),iv rn,iv rd,iv 0,iv ro2]) (e := 67) (by kernel_rfl)) ?_
   rintro _ w238 ⟨be,rfl,hN239⟩
   have hE240 := hE236.trans hN239.ext
   have hM241 := hM237.new hN239
   refine ⟨(hM241.blk 8 rfl),?_⟩
   refine dAll 8 [] (by kernel_rfl) ?_
   refine dos [] (.builtin .append #[27,27] 27 #[false,false] [.slice m227.q.a4 s226.p.checks.length m227.q.c4,.slice (some ⟨be,0,none⟩) 1 1]) (some 60) [] (lb 13 511) trivial (runs_appH (e := 67) (size := 5) (bytes := 40) (by kernel_rfl) (hM241.row 5 rfl) (m := 1) (news := [iv (kindIx t.text),iv rn,iv rd,iv 0,iv ro2]) (hM241.blk 0 rfl) rfl (by simp [Value.oneCell']) (by omega) (by omega) hM241.base) ?_
   rintro vs243 w242 ⟨hr244,hg245,ho246⟩
   have hr247 : w242.ownsRow w0.heap.size 67 5 vs243 ((s226.p.checks ++ [(⟨kindIx t.text,rn,rd,0,ro2⟩ : PCheck)]).length) ((s226.p.checks ++ [(⟨kindIx t.text,rn,rd,0,ro2⟩ : PCheck)]).flatMap checkC) := by simpa [checkC] using hr244
   have hE248 := hM241.toExtApp hE240 5 rfl hg245
   have hM249 := hM241.app 5 rfl hr247 hg245 ho246
   obtain ⟨av,ac,hvsvs243⟩ := row_slice (hM249.row 5 rfl)
   subst hvsvs243
   refine ⟨(hM249.blk 8 rfl),?_⟩
   refine dtz [9,10,11] [] 1 (lb 13 4095) [(60,.slice av ((s226.p.checks ++ [(⟨kindIx t.text,rn,rd,0,ro2⟩ : PCheck)]).length) ac),(63,pt bp 6)] (fun w' => []) (fun w' hS => trivial) ((hM249.blk 8 rfl)) ?_
   refine dAll 12 [] (by kernel_rfl) ?_
   refine dos [] (.store 27 (pt bp 6) (.slice av ((s226.p.checks ++ [(⟨kindIx t.text,rn,rd,0,ro2⟩ : PCheck)]).length) ac)) none [] (lb 13 8191) trivial (runs_st (hM249.blk 1 rfl) (by kernel_rfl)) ?_
   rintro _ w250 hC251
   have hE252 := hM249.toExt hE248 hC251 1 rfl
   have hM253 := hM249.set 1 rfl hC251
   refine ⟨(hM253.blk 8 rfl),?_⟩
   refine dDone (by kernel_rfl) ?_
   exact endP (hs := []) (vs := []) (ps := []) (by kernel_rfl) trivial (v := .tuple #[]) rfl (⟨⟨addCheck s226.p (⟨kindIx t.text,rn,rd,0,ro2⟩ : PCheck),s226.ts⟩,⟨{ m227.q with a4 := av,c4 := ac },m227.ta,m227.tc⟩,by simp only [checkS,hs9,hsk,hs52,otherS,if_neg h4,hs140,restS,if_neg h42,if_pos h43,hs214,hs228,andE_ok],rfl,⟨hE252,(hM253.pick 9 [1,2,3,4,5] (by kernel_rfl) (by kernel_rfl)),hA229.deq,hA229.toks,hA229.cap,(hA229.inv.check hp7)⟩⟩)
  refine dos [] (.bslice 27 1 [(0,.agg #[iv (kindIx t.text),iv rn,iv rd,iv 0,iv ro2])]) (some 59) [] (lb 13 223) trivial (runs_bslice (cs := [iv (kindIx t.text),iv rn,iv rd,iv 0,iv ro2]) (e := 67) (by kernel_rfl)) ?_
  rintro _ w254 ⟨be,rfl,hN255⟩
  have hE256 := hE236.trans hN255.ext
  have hM257 := hM237.new hN255
  refine ⟨(hM257.blk 8 rfl),?_⟩
  refine dAll 5 [] (by kernel_rfl) ?_
  refine dos [] (.load 27 (pt bp 6)) (some 57) [] (lb 13 255) trivial (runs_load (v := .slice m227.q.a4 s226.p.checks.length m227.q.c4) (ps := [cl w254 bp 6 (.slice m227.q.a4 s226.p.checks.length m227.q.c4)]) (by kernel_rfl) (A1 (cell_of (hM257.blk 1 rfl) rfl))) ?_
  rintro _ _ ⟨rfl,rfl⟩
  refine ⟨(hM257.blk 8 rfl),?_⟩
  refine dAll 8 [] (by kernel_rfl) ?_
  refine dos [] (.builtin .append #[27,27] 27 #[false,false] [.slice m227.q.a4 s226.p.checks.length m227.q.c4,.slice (some ⟨be,0,none⟩) 1 1]) (some 60) [] (lb 13 511) trivial (runs_appH (e := 67) (size := 5) (bytes := 40) (by kernel_rfl) (hM257.row 5 rfl) (m := 1) (news := [iv (kindIx t.text),iv rn,iv rd,iv 0,iv ro2]) (hM257.blk 0 rfl) rfl (by simp [Value.oneCell']) (by omega) (by omega) hM257.base) ?_
  rintro vs259 w258 ⟨hr260,hg261,ho262⟩
  have hr263 : w258.ownsRow w0.heap.size 67 5 vs259 ((s226.p.checks ++ [(⟨kindIx t.text,rn,rd,0,ro2⟩ : PCheck)]).length) ((s226.p.checks ++ [(⟨kindIx t.text,rn,rd,0,ro2⟩ : PCheck)]).flatMap checkC) := by simpa [checkC] using hr260
  have hE264 := hM257.toExtApp hE256 5 rfl hg261
  have hM265 := hM257.app 5 rfl hr263 hg261 ho262
  obtain ⟨av,ac,hvsvs259⟩ := row_slice (hM265.row 5 rfl)
  subst hvsvs259
  refine ⟨(hM265.blk 8 rfl),?_⟩
  refine dtz [9,10,11] [] 1 (lb 13 4095) [(60,.slice av ((s226.p.checks ++ [(⟨kindIx t.text,rn,rd,0,ro2⟩ : PCheck)]).length) ac),(63,pt bp 6)] (fun w' => []) (fun w' hS => trivial) ((hM265.blk 8 rfl)) ?_
  refine dAll 12 [] (by kernel_rfl) ?_
  refine dos [] (.store 27 (pt bp 6) (.slice av ((s226.p.checks ++ [(⟨kindIx t.text,rn,rd,0,ro2⟩ : PCheck)]).length) ac)) none [] (lb 13 8191) trivial (runs_st (hM265.blk 1 rfl) (by kernel_rfl)) ?_
  rintro _ w266 hC267
  have hE268 := hM265.toExt hE264 hC267 1 rfl
  have hM269 := hM265.set 1 rfl hC267
  refine ⟨(hM269.blk 8 rfl),?_⟩
  refine dDone (by kernel_rfl) ?_
  exact endP (hs := []) (vs := []) (ps := []) (by kernel_rfl) trivial (v := .tuple #[]) rfl (⟨⟨addCheck s226.p (⟨kindIx t.text,rn,rd,0,ro2⟩ : PCheck),s226.ts⟩,⟨{ m227.q with a4 := av,c4 := ac },m227.ta,m227.tc⟩,by simp only [checkS,hs9,hsk,hs52,otherS,if_neg h4,hs140,restS,if_neg h42,if_pos h43,hs214,hs228,andE_ok],rfl,⟨hE268,(hM269.pick 9 [1,2,3,4,5] (by kernel_rfl) (by kernel_rfl)),hA229.deq,hA229.toks,hA229.cap,(hA229.inv.check hp7)⟩⟩)
 refine sg0 5 (kOp Y91 (ro1 10 [0]) 1 []) [(0,pt bp 0),(2,pt b2 0),(50,pt bp 0)] ?_
 have hA270 : ParAt w0 w146 bp ([.blk b4 ([iv t.kind,sv t.text,iv t.n,iv (t.at')]) 49,.blk b3 ([sv ([]),sv ([114,101,97,99,104]),sv ([119,105,116,104,105,110]),sv ([119,97,121,112,111,105,110,116]),sv ([101,113,117,97,108])]) 9,.blk b2 ([iv (kindIx t.text),iv rn,iv rd,iv 0,iv 0]) 67] ++ X) s138 m139 := ⟨hE148,hM149,hA141.deq,hA141.toks,hA141.cap,hA141.inv⟩
 refine ossP [] (.call 112 [pt bp 0]) (some 51) (kOp Y91 (ro1 10 [0]) 2 []) [] trivial (runs_callP E112 (stop_any w0 bp ([.blk b4 ([iv t.kind,sv t.text,iv t.n,iv (t.at')]) 49,.blk b3 ([sv ([]),sv ([114,101,97,99,104]),sv ([119,105,116,104,105,110]),sv ([119,97,121,112,111,105,110,116]),sv ([101,113,117,97,108])]) 9,.blk b2 ([iv (kindIx t.text),iv rn,iv rd,iv 0,iv 0]) 67] ++ X) s138 m139  w146 hA270)) (fun x w' ⟨e,a,he,hx,hE⟩ => ⟨e,a,by simp only [checkS,hs9,hsk,hs52,otherS,if_neg h4,hs140,restS,if_neg h42,if_neg h43,he,andE_ok,andE_error],hx,hE⟩) ?_
 rintro _ w271 ⟨s272,m273,hs274,rfl,hA275⟩
 have hE276 : Ext w0 w271 := hA275.ext
 have hM277 := hA275.hold
 have hp278 := hA275.inv.pos
 have ha279 := hA275.toks.addrE tokCells_len (by decide) hp278
 have hp7 : s272.p.checks.length < 16 := by rw [stopS_plan hs274,aDestS_plan hs140,aNodeS_plan hs52,hkp]; exact hp1.2
 refine sg0 1 (kAt Y91 (ro1 11 []) []) [(0,pt bp 0),(2,pt b2 0)] ?_
 refine dBegin (k' := []) (id := 17) (m := 13) (ops := opsAt (cAt Y91 (ro1 11 []))) (fun _ w' => w'.heap[b2]? = some (.cells #[iv (kindIx t.text),iv rn,iv rd,iv 0,iv 0] 67 (0,0))) (by kernel_rfl) (PQ.body _ _ _) (by kernel_rfl) (by kernel_rfl) ?_
 intro w280 hx281
 have hE282 := hE276.trans hx281
 have hM283 := hM277.ext hx281
 refine dtz [0,1,2,3,4,6] [.ld (.agg #[iv (kindIx t.text),iv rn,iv rd,iv 0,iv 0])] 7 (lb 13 95) [(52,pt bp 0),(56,pt bp 6),(58,.agg #[iv (kindIx t.text),iv rn,iv rd,iv 0,iv 0])] (fun w' => [cl w' b2 0 (iv (kindIx t.text)),cl w' b2 1 (iv rn),cl w' b2 2 (iv rd),cl w' b2 3 (iv 0),cl w' b2 4 (iv 0)]) (fun w' hS => (AC (cell_of hS rfl) (AC (cell_of hS rfl) (AC (cell_of hS rfl) (AC (cell_of hS rfl) (A1 (cell_of hS rfl))))))) ((hM283.blk 7 rfl)) ?_
 refine dAll 5 [7] (by kernel_rfl) ?_
 refine ⟨?_,?_⟩
 ·refine dos [] (.load 27 (pt bp 6)) (some 57) [] (lb 13 127) trivial (runs_load (v := .slice m273.q.a4 s272.p.checks.length m273.q.c4) (ps := [cl w280 bp 6 (.slice m273.q.a4 s272.p.checks.length m273.q.c4)]) (by kernel_rfl) (A1 (cell_of (hM283.blk 0 rfl) rfl))) ?_
  rintro _ _ ⟨rfl,rfl⟩
  refine ⟨(hM283.blk 7 rfl),?_⟩
  refine dAll 7 [] (by kernel_rfl) ?_
  refine dos [] (.bslice 27 1 [(0,.agg #[iv (kindIx t.text),iv rn,iv rd,iv 0,iv 0])]) (some 59) [] (lb 13 255) trivial (runs_bslice (cs := [iv (kindIx t.text),iv rn,iv rd,iv 0,iv 0]) (e := 67) (by kernel_rfl)) ?_
  rintro _ w284 ⟨be,rfl,hN285⟩
  have hE286 := hE282.trans hN285.ext
  have hM287 := hM283.new hN285
  refine ⟨(hM287.blk 8 rfl),?_⟩
  refine dAll 8 [] (by kernel_rfl) ?_
  refine dos [] (.builtin .append #[27,27] 27 #[false,false] [.slice m273.q.a4 s272.p.checks.length m273.q.c4,.slice (some ⟨be,0,none⟩) 1 1]) (some 60) [] (lb 13 511) trivial (runs_appH (e := 67) (size := 5) (bytes := 40) (by kernel_rfl) (hM287.row 5 rfl) (m := 1) (news := [iv (kindIx t.text),iv rn,iv rd,iv 0,iv 0]) (hM287.blk 0 rfl) rfl (by simp [Value.oneCell']) (by omega) (by omega) hM287.base) ?_
  rintro vs289 w288 ⟨hr290,hg291,ho292⟩
  have hr293 : w288.ownsRow w0.heap.size 67 5 vs289 ((s272.p.checks ++ [(⟨kindIx t.text,rn,rd,0,0⟩ : PCheck)]).length) ((s272.p.checks ++ [(⟨kindIx t.text,rn,rd,0,0⟩ : PCheck)]).flatMap checkC) := by simpa [checkC] using hr290
  have hE294 := hM287.toExtApp hE286 5 rfl hg291
  have hM295 := hM287.app 5 rfl hr293 hg291 ho292
  obtain ⟨av,ac,hvsvs289⟩ := row_slice (hM295.row 5 rfl)
  subst hvsvs289
  refine ⟨(hM295.blk 8 rfl),?_⟩
  refine dtz [9,10,11] [] 1 (lb 13 4095) [(60,.slice av ((s272.p.checks ++ [(⟨kindIx t.text,rn,rd,0,0⟩ : PCheck)]).length) ac),(63,pt bp 6)] (fun w' => []) (fun w' hS => trivial) ((hM295.blk 8 rfl)) ?_
  refine dAll 12 [] (by kernel_rfl) ?_
  refine dos [] (.store 27 (pt bp 6) (.slice av ((s272.p.checks ++ [(⟨kindIx t.text,rn,rd,0,0⟩ : PCheck)]).length) ac)) none [] (lb 13 8191) trivial (runs_st (hM295.blk 1 rfl) (by kernel_rfl)) ?_
  rintro _ w296 hC297
  have hE298 := hM295.toExt hE294 hC297 1 rfl
  have hM299 := hM295.set 1 rfl hC297
  refine ⟨(hM299.blk 8 rfl),?_⟩
  refine dDone (by kernel_rfl) ?_
  exact endP (hs := []) (vs := []) (ps := []) (by kernel_rfl) trivial (v := .tuple #[]) rfl (⟨⟨addCheck s272.p (⟨kindIx t.text,rn,rd,0,0⟩ : PCheck),s272.ts⟩,⟨{ m273.q with a4 := av,c4 := ac },m273.ta,m273.tc⟩,by simp only [checkS,hs9,hsk,hs52,otherS,if_neg h4,hs140,restS,if_neg h42,if_neg h43,hs274,andE_ok],rfl,⟨hE298,(hM299.pick 9 [1,2,3,4,5] (by kernel_rfl) (by kernel_rfl)),hA275.deq,hA275.toks,hA275.cap,(hA275.inv.check hp7)⟩⟩)
 refine dos [] (.bslice 27 1 [(0,.agg #[iv (kindIx t.text),iv rn,iv rd,iv 0,iv 0])]) (some 59) [] (lb 13 223) trivial (runs_bslice (cs := [iv (kindIx t.text),iv rn,iv rd,iv 0,iv 0]) (e := 67) (by kernel_rfl)) ?_
 rintro _ w300 ⟨be,rfl,hN301⟩
 have hE302 := hE282.trans hN301.ext
 have hM303 := hM283.new hN301
 refine ⟨(hM303.blk 8 rfl),?_⟩
 refine dAll 5 [] (by kernel_rfl) ?_
 refine dos [] (.load 27 (pt bp 6)) (some 57) [] (lb 13 255) trivial (runs_load (v := .slice m273.q.a4 s272.p.checks.length m273.q.c4) (ps := [cl w300 bp 6 (.slice m273.q.a4 s272.p.checks.length m273.q.c4)]) (by kernel_rfl) (A1 (cell_of (hM303.blk 1 rfl) rfl))) ?_
 rintro _ _ ⟨rfl,rfl⟩
 refine ⟨(hM303.blk 8 rfl),?_⟩
 refine dAll 8 [] (by kernel_rfl) ?_
 refine dos [] (.builtin .append #[27,27] 27 #[false,false] [.slice m273.q.a4 s272.p.checks.length m273.q.c4,.slice (some ⟨be,0,none⟩) 1 1]) (some 60) [] (lb 13 511) trivial (runs_appH (e := 67) (size := 5) (bytes := 40) (by kernel_rfl) (hM303.row 5 rfl) (m := 1) (news := [iv (kindIx t.text),iv rn,iv rd,iv 0,iv 0]) (hM303.blk 0 rfl) rfl (by simp [Value.oneCell']) (by omega) (by omega) hM303.base) ?_
 rintro vs305 w304 ⟨hr306,hg307,ho308⟩
 have hr309 : w304.ownsRow w0.heap.size 67 5 vs305 ((s272.p.checks ++ [(⟨kindIx t.text,rn,rd,0,0⟩ : PCheck)]).length) ((s272.p.checks ++ [(⟨kindIx t.text,rn,rd,0,0⟩ : PCheck)]).flatMap checkC) := by simpa [checkC] using hr306
 have hE310 := hM303.toExtApp hE302 5 rfl hg307
 have hM311 := hM303.app 5 rfl hr309 hg307 ho308
 obtain ⟨av,ac,hvsvs305⟩ := row_slice (hM311.row 5 rfl)
 subst hvsvs305
 refine ⟨(hM311.blk 8 rfl),?_⟩
 refine dtz [9,10,11] [] 1 (lb 13 4095) [(60,.slice av ((s272.p.checks ++ [(⟨kindIx t.text,rn,rd,0,0⟩ : PCheck)]).length) ac),(63,pt bp 6)] (fun w' => []) (fun w' hS => trivial) ((hM311.blk 8 rfl)) ?_
 refine dAll 12 [] (by kernel_rfl) ?_
 refine dos [] (.store 27 (pt bp 6) (.slice av ((s272.p.checks ++ [(⟨kindIx t.text,rn,rd,0,0⟩ : PCheck)]).length) ac)) none [] (lb 13 8191) trivial (runs_st (hM311.blk 1 rfl) (by kernel_rfl)) ?_
 rintro _ w312 hC313
 have hE314 := hM311.toExt hE310 hC313 1 rfl
 have hM315 := hM311.set 1 rfl hC313
 refine ⟨(hM315.blk 8 rfl),?_⟩
 refine dDone (by kernel_rfl) ?_
 exact endP (hs := []) (vs := []) (ps := []) (by kernel_rfl) trivial (v := .tuple #[]) rfl (⟨⟨addCheck s272.p (⟨kindIx t.text,rn,rd,0,0⟩ : PCheck),s272.ts⟩,⟨{ m273.q with a4 := av,c4 := ac },m273.ta,m273.tc⟩,by simp only [checkS,hs9,hsk,hs52,otherS,if_neg h4,hs140,restS,if_neg h42,if_neg h43,hs274,andE_ok],rfl,⟨hE314,(hM315.pick 9 [1,2,3,4,5] (by kernel_rfl) (by kernel_rfl)),hA275.deq,hA275.toks,hA275.cap,(hA275.inv.check hp7)⟩⟩)

end Go.Proofs.YtjhgghpeapmgdaaGreatDoor
