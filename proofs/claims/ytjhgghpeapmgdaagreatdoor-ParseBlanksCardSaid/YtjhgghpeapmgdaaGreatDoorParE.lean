/-
  PARSE: the contract of check.
-/
import Derived.Test.YtjhgghpeapmgdaaGreatDoorParC
import Derived.Test.YtjhgghpeapmgdaaGreatDoorLz
import Derived.Test.YtjhgghpeapmgdaaGreatDoorMg2
namespace Go.Proofs.YtjhgghpeapmgdaaGreatDoor
open Go.Bk Go.Proofs

set_option maxRecDepth 20000 in
set_option maxHeartbeats 2000000 in
theorem check_anyP (w0 : World) (bp : Nat) (X : List Res) (s : PSt) (m : PM) (w : World) (hA : ParAt w0 w bp X s m) :
    DoesP Tryz.prog 91 [pt bp 0] w (fun v w' => ∃ s' m',checkS s = .ok s' ∧ v = .tuple #[] ∧ ParAt w0 w' bp X s' m') (PanP (checkS s) w0) := by
 refine startZP (c := Y91) Tryz.func91 rfl (by kernel_rfl) ?_
 show H _ 64 [] _ (kAt Y91 [] []) (stz [(0,pt bp 0)]) w
 have hE1 : Ext w0 w := hA.ext
 have hM2 := hA.hold
 have hp3 := hA.inv.pos
 have ha4 := hA.toks.addrE tokCells_len (by decide) hp3
 refine Zh 9 [.c 0 6] hM2 trivial ?_
 have hA5 : ParAt w0 w bp X s m := ⟨hE1,hM2,hA.deq,hA.toks,hA.cap,hA.inv⟩
 refine ZlP 0 E113 (head_any w0 bp X s m wdCheck 16 (s.p.checks.length : Int) w hA5) (fun x w' ⟨e,a,he,hx,hE⟩ => ⟨e,a,by simp only [checkS,he,andE_error],hx,hE⟩) ?_
 rintro _ w6 ⟨s7,m8,hs9,rfl,hA10⟩
 have hE11 : Ext w0 w6 := hA10.ext
 have hM12 := hA10.hold
 have hp13 := hA10.inv.pos
 have ha14 := hA10.toks.addrE tokCells_len (by decide) hp13
 have hp1 : s7.p = s.p ∧ s.p.checks.length < 16 := headS_plan hs9
 refine Za 3 67 [iv 0,iv 0,iv 0,iv 0,iv 0] hE11 hM12 ?_
 intro b2 w15 hE17 hM18
 refine Zd 3 5 [sv ([]),sv ([114,101,97,99,104]),sv ([119,105,116,104,105,110]),sv ([119,97,121,112,111,105,110,116]),sv ([101,113,117,97,108])] 9 hE17 hM18 ?_
 intro b3 w19 hE21 hM22
 have hA23 : ParAt w0 w19 bp ([.blk b3 ([sv ([]),sv ([114,101,97,99,104]),sv ([119,105,116,104,105,110]),sv ([119,97,121,112,111,105,110,116]),sv ([101,113,117,97,108])]) 9,.blk b2 ([iv 0,iv 0,iv 0,iv 0,iv 0]) 67] ++ X) s7 m8 := ⟨hE21,(hM22.pick 7 [2,3,4,5,6,0,1] (by kernel_rfl) (by kernel_rfl)),hA10.deq,hA10.toks,hA10.cap,hA10.inv⟩
 refine ZlP 5 E92 (take_any w0 bp ([.blk b3 ([sv ([]),sv ([114,101,97,99,104]),sv ([119,105,116,104,105,110]),sv ([119,97,121,112,111,105,110,116]),sv ([101,113,117,97,108])]) 9,.blk b2 ([iv 0,iv 0,iv 0,iv 0,iv 0]) 67] ++ X) s7 m8 1 w19 hA23) (fun x w' ⟨e,a,he,hx,hE⟩ => ⟨e,a,by simp only [checkS,hs9,kindS,he,andE_ok,andE_error],hx,hE⟩) ?_
 rintro _ w24 ⟨t,s25,m26,hs27,rfl,hA28⟩
 have hE29 : Ext w0 w24 := hA28.ext
 have hM30 := hA28.hold
 have hp31 := hA28.inv.pos
 have ha32 := hA28.toks.addrE tokCells_len (by decide) hp31
 refine Za 0 49 [iv 0,sv ([]),iv 0,iv 0] hE29 hM30 ?_
 intro b4 w33 hE35 hM36
 refine Zt 0 0 0 (vT t) rfl hE35 hM36 ?_
 intro w37 hE39 hM40
 refine Zh 6 [.c 0 1] hM40 trivial ?_
 refine Zl 0 E121 (idxStr kindWords (some ⟨b3,0,none⟩) 5 t.text w37 (blk_cells (hM40.blk 6 rfl)) (by decide)) ?_
 rintro _ w41 ⟨rfl,hxi⟩
 obtain ⟨hE42,hM43⟩ := Xt hE39 hM40 hxi
 refine Zt 1 7 0 (iv (kindIx t.text)) rfl hE42 hM43 ?_
 intro w44 hE46 hM47
 refine Zh 8 [.c 7 0] hM47 trivial ?_
 refine Zq 0 ((kindIx t.text : Int) < (0 : Int)) (fun h1 => ?_) (fun h1 => ?_)
 ·refine Zh 2 [.a 0 0 4] hM47 trivial ?_
  refine ZlP 0 E93 (fail_any t 40 w44) (fun x w' ⟨hx,hE⟩ => ⟨40,t.at',by simp only [checkS,hs9,andE_ok,kindS,hs27,if_pos h1,andE_error],hx,hE46.trans hE⟩) ?_
  rintro _ _ ⟨⟩
 have hk : kindS s7 = .ok (kindIx t.text,s25) := by simp only [kindS,hs27,andE_ok,if_neg h1]
 have hkp : s25.p = s.p := (kindS_plan hk).trans hp1.1
 have hsk := hk
 have hA48 : ParAt w0 w44 bp ([.blk b4 ([iv t.kind,sv t.text,iv t.n,iv (t.at')]) 49,.blk b3 ([sv ([]),sv ([114,101,97,99,104]),sv ([119,105,116,104,105,110]),sv ([119,97,121,112,111,105,110,116]),sv ([101,113,117,97,108])]) 9,.blk b2 ([iv (kindIx t.text),iv 0,iv 0,iv 0,iv 0]) 67] ++ X) s25 m26 := ⟨hE46,(hM47.pick 8 [1,2,3,4,5,0,6,7] (by kernel_rfl) (by kernel_rfl)),hA28.deq,hA28.toks,hA28.cap,hA28.inv⟩
 refine ZlP 4 E115 (aNode_any w0 bp ([.blk b4 ([iv t.kind,sv t.text,iv t.n,iv (t.at')]) 49,.blk b3 ([sv ([]),sv ([114,101,97,99,104]),sv ([119,105,116,104,105,110]),sv ([119,97,121,112,111,105,110,116]),sv ([101,113,117,97,108])]) 9,.blk b2 ([iv (kindIx t.text),iv 0,iv 0,iv 0,iv 0]) 67] ++ X) s25 m26  w44 hA48) (fun x w' ⟨e,a,he,hx,hE⟩ => ⟨e,a,by simp only [checkS,hs9,hsk,he,andE_ok,andE_error],hx,hE⟩) ?_
 rintro _ w49 ⟨rn,s50,m51,hs52,rfl,hA53⟩
 have hE54 : Ext w0 w49 := hA53.ext
 have hM55 := hA53.hold
 have hp56 := hA53.inv.pos
 have ha57 := hA53.toks.addrE tokCells_len (by decide) hp56
 refine Zt 1 7 1 (iv rn) rfl hE54 hM55 ?_
 intro w58 hE60 hM61
 refine Zh 8 [.c 7 0] hM61 trivial ?_
 refine Zq 0 ((kindIx t.text : Int) = (4 : Int)) (fun h4 => ?_) (fun h4 => ?_)
 ·have hA62 : ParAt w0 w58 bp ([.blk b4 ([iv t.kind,sv t.text,iv t.n,iv (t.at')]) 49,.blk b3 ([sv ([]),sv ([114,101,97,99,104]),sv ([119,105,116,104,105,110]),sv ([119,97,121,112,111,105,110,116]),sv ([101,113,117,97,108])]) 9,.blk b2 ([iv (kindIx t.text),iv rn,iv 0,iv 0,iv 0]) 67] ++ X) s50 m51 := ⟨hE60,hM61,hA53.deq,hA53.toks,hA53.cap,hA53.inv⟩
  refine ZlP 2 E115 (aNode_any w0 bp ([.blk b4 ([iv t.kind,sv t.text,iv t.n,iv (t.at')]) 49,.blk b3 ([sv ([]),sv ([114,101,97,99,104]),sv ([119,105,116,104,105,110]),sv ([119,97,121,112,111,105,110,116]),sv ([101,113,117,97,108])]) 9,.blk b2 ([iv (kindIx t.text),iv rn,iv 0,iv 0,iv 0]) 67] ++ X) s50 m51  w58 hA62) (fun x w' ⟨e,a,he,hx,hE⟩ => ⟨e,a,by simp only [checkS,hs9,hsk,hs52,otherS,if_pos h4,he,andE_ok,andE_error],hx,hE⟩) ?_
  rintro _ w63 ⟨ro,s64,m65,hs66,rfl,hA67⟩
  have hE68 : Ext w0 w63 := hA67.ext
  have hM69 := hA67.hold
  have hp70 := hA67.inv.pos
  have ha71 := hA67.toks.addrE tokCells_len (by decide) hp70
  refine Zt 1 7 4 (iv ro) rfl hE68 hM69 ?_
  intro w72 hE74 hM75
  have hA76 : ParAt w0 w72 bp ([.blk b4 ([iv t.kind,sv t.text,iv t.n,iv (t.at')]) 49,.blk b3 ([sv ([]),sv ([114,101,97,99,104]),sv ([119,105,116,104,105,110]),sv ([119,97,121,112,111,105,110,116]),sv ([101,113,117,97,108])]) 9,.blk b2 ([iv (kindIx t.text),iv rn,iv 0,iv 0,iv ro]) 67] ++ X) s64 m65 := ⟨hE74,hM75,hA67.deq,hA67.toks,hA67.cap,hA67.inv⟩
  refine ZlP 4 E122 (aDest_any w0 bp ([.blk b4 ([iv t.kind,sv t.text,iv t.n,iv (t.at')]) 49,.blk b3 ([sv ([]),sv ([114,101,97,99,104]),sv ([119,105,116,104,105,110]),sv ([119,97,121,112,111,105,110,116]),sv ([101,113,117,97,108])]) 9,.blk b2 ([iv (kindIx t.text),iv rn,iv 0,iv 0,iv ro]) 67] ++ X) s64 m65  w72 hA76) (fun x w' ⟨e,a,he,hx,hE⟩ => ⟨e,a,by simp only [checkS,hs9,hsk,hs52,otherS,if_pos h4,hs66,he,andE_ok,andE_error],hx,hE⟩) ?_
  rintro _ w77 ⟨rd,s78,m79,hs80,rfl,hA81⟩
  have hE82 : Ext w0 w77 := hA81.ext
  have hM83 := hA81.hold
  have hp84 := hA81.inv.pos
  have ha85 := hA81.toks.addrE tokCells_len (by decide) hp84
  refine Zt 1 7 2 (iv rd) rfl hE82 hM83 ?_
  intro w86 hE88 hM89
  refine Zh 13 [.c 7 0] hM89 trivial ?_
  have h42 : ¬ (kindIx t.text = 2) := by omega
  have h43 : ¬ (kindIx t.text = 3) := by omega
  refine Zs 12 [.skip,.skip] [(decide ((kindIx t.text : Int) = (2 : Int))) = false,(decide ((kindIx t.text : Int) = (3 : Int))) = false] (AC (decide_eq_false h42) (A1 (decide_eq_false h43))) ?_
  have hA90 : ParAt w0 w86 bp ([.blk b4 ([iv t.kind,sv t.text,iv t.n,iv (t.at')]) 49,.blk b3 ([sv ([]),sv ([114,101,97,99,104]),sv ([119,105,116,104,105,110]),sv ([119,97,121,112,111,105,110,116]),sv ([101,113,117,97,108])]) 9,.blk b2 ([iv (kindIx t.text),iv rn,iv rd,iv 0,iv ro]) 67] ++ X) s78 m79 := ⟨hE88,hM89,hA81.deq,hA81.toks,hA81.cap,hA81.inv⟩
  refine ZlP 0 E112 (stop_any w0 bp ([.blk b4 ([iv t.kind,sv t.text,iv t.n,iv (t.at')]) 49,.blk b3 ([sv ([]),sv ([114,101,97,99,104]),sv ([119,105,116,104,105,110]),sv ([119,97,121,112,111,105,110,116]),sv ([101,113,117,97,108])]) 9,.blk b2 ([iv (kindIx t.text),iv rn,iv rd,iv 0,iv ro]) 67] ++ X) s78 m79  w86 hA90) (fun x w' ⟨e,a,he,hx,hE⟩ => ⟨e,a,by simp only [checkS,hs9,hsk,hs52,otherS,if_pos h4,hs66,hs80,restS,if_neg h42,if_neg h43,he,andE_ok,andE_error],hx,hE⟩) ?_
  rintro _ w91 ⟨s92,m93,hs94,rfl,hA95⟩
  have hE96 : Ext w0 w91 := hA95.ext
  have hM97 := hA95.hold
  have hp98 := hA95.inv.pos
  have ha99 := hA95.toks.addrE tokCells_len (by decide) hp98
  have hp7 : s92.p.checks.length < 16 := by rw [stopS_plan hs94,aDestS_plan hs80,aNodeS_plan hs66,aNodeS_plan hs52,hkp]; exact hp1.2
  refine Zs 1 [] [] trivial ?_
  refine ZB 13 [] 17 (opsAt (cAt Y91 (ro1 11 []))) (fun _ w' => w'.heap[b2]? = some (.cells #[iv (kindIx t.text),iv rn,iv rd,iv 0,iv ro] 67 (0,0))) ?_
  intro w100 hx101
  obtain ⟨hE102,hM103⟩ := Xt hE96 hM97 hx101
  refine dx [0,1,2,3,4,6] [.ld (.agg #[iv (kindIx t.text),iv rn,iv rd,iv 0,iv ro])] 7 (lb 13 95) (fun w' => [cl w' b2 0 (iv (kindIx t.text)),cl w' b2 1 (iv rn),cl w' b2 2 (iv rd),cl w' b2 3 (iv 0),cl w' b2 4 (iv ro)]) (fun w' hS => (AC (cell_of hS rfl) (AC (cell_of hS rfl) (AC (cell_of hS rfl) (AC (cell_of hS rfl) (A1 (cell_of hS rfl))))))) ((hM103.blk 7 rfl)) ?_
  refine dAll 5 [7] (by kernel_rfl) ?_
  refine ⟨?_,?_⟩
  ·refine Wo [] (.load 27 (pt bp 6)) [] trivial (runs_load (v := .slice m93.q.a4 s92.p.checks.length m93.q.c4) (ps := [cl w100 bp 6 (.slice m93.q.a4 s92.p.checks.length m93.q.c4)]) (by kernel_rfl) (A1 (cell_of (hM103.blk 0 rfl) rfl))) ?_
   rintro _ _ ⟨rfl,rfl⟩
   refine ⟨(hM103.blk 7 rfl),?_⟩
   refine d1 7 ?_
   refine Wd 1 [iv (kindIx t.text),iv rn,iv rd,iv 0,iv ro] 67 hE102 hM103 ?_
   intro be w104 hx108 hE106 hM107
   refine ⟨(hM107.blk 8 rfl),?_⟩
   refine d1 8 ?_
   refine Wp 5 0 1 40 ((s92.p.checks ++ [(⟨kindIx t.text,rn,rd,0,ro⟩ : PCheck)]).length) ((s92.p.checks ++ [(⟨kindIx t.text,rn,rd,0,ro⟩ : PCheck)]).flatMap checkC) rfl rfl ⟨by omega,by omega⟩ (fun _ _ h => by simpa [checkC] using h) hE106 hM107 ?_
   intro av ac w109 hE110 hM111
   refine ⟨(hM111.blk 8 rfl),?_⟩
   refine dx0 [9,10,11] [] 1 (lb 13 4095) ((hM111.blk 8 rfl)) ?_
   refine d1 12 ?_
   refine Wt 1 6 (.slice av ((s92.p.checks ++ [(⟨kindIx t.text,rn,rd,0,ro⟩ : PCheck)]).length) ac) rfl hE110 hM111 ?_
   intro w112 hE114 hM115
   refine ⟨(hM115.blk 8 rfl),?_⟩
   refine ZD ?_
   exact ZeP 0 [] [] [] trivial (v := .tuple #[]) rfl (⟨⟨addCheck s92.p (⟨kindIx t.text,rn,rd,0,ro⟩ : PCheck),s92.ts⟩,⟨{ m93.q with a4 := av,c4 := ac },m93.ta,m93.tc⟩,by simp only [checkS,hs9,hsk,hs52,otherS,if_pos h4,hs66,hs80,restS,if_neg h42,if_neg h43,hs94,andE_ok],rfl,⟨hE114,(hM115.pick 9 [1,2,3,4,5] (by kernel_rfl) (by kernel_rfl)),hA95.deq,hA95.toks,hA95.cap,(hA95.inv.check hp7)⟩⟩)
  refine Wd 1 [iv (kindIx t.text),iv rn,iv rd,iv 0,iv ro] 67 hE102 hM103 ?_
  intro be w116 hx120 hE118 hM119
  refine ⟨(hM119.blk 8 rfl),?_⟩
  refine d1 5 ?_
  refine Wo [] (.load 27 (pt bp 6)) [] trivial (runs_load (v := .slice m93.q.a4 s92.p.checks.length m93.q.c4) (ps := [cl w116 bp 6 (.slice m93.q.a4 s92.p.checks.length m93.q.c4)]) (by kernel_rfl) (A1 (cell_of (hM119.blk 1 rfl) rfl))) ?_
  rintro _ _ ⟨rfl,rfl⟩
  refine ⟨(hM119.blk 8 rfl),?_⟩
  refine d1 8 ?_
  refine Wp 5 0 1 40 ((s92.p.checks ++ [(⟨kindIx t.text,rn,rd,0,ro⟩ : PCheck)]).length) ((s92.p.checks ++ [(⟨kindIx t.text,rn,rd,0,ro⟩ : PCheck)]).flatMap checkC) rfl rfl ⟨by omega,by omega⟩ (fun _ _ h => by simpa [checkC] using h) hE118 hM119 ?_
  intro av ac w121 hE122 hM123
  refine ⟨(hM123.blk 8 rfl),?_⟩
  refine dx0 [9,10,11] [] 1 (lb 13 4095) ((hM123.blk 8 rfl)) ?_
  refine d1 12 ?_
  refine Wt 1 6 (.slice av ((s92.p.checks ++ [(⟨kindIx t.text,rn,rd,0,ro⟩ : PCheck)]).length) ac) rfl hE122 hM123 ?_
  intro w124 hE126 hM127
  refine ⟨(hM127.blk 8 rfl),?_⟩
  refine ZD ?_
  exact ZeP 0 [] [] [] trivial (v := .tuple #[]) rfl (⟨⟨addCheck s92.p (⟨kindIx t.text,rn,rd,0,ro⟩ : PCheck),s92.ts⟩,⟨{ m93.q with a4 := av,c4 := ac },m93.ta,m93.tc⟩,by simp only [checkS,hs9,hsk,hs52,otherS,if_pos h4,hs66,hs80,restS,if_neg h42,if_neg h43,hs94,andE_ok],rfl,⟨hE126,(hM127.pick 9 [1,2,3,4,5] (by kernel_rfl) (by kernel_rfl)),hA95.deq,hA95.toks,hA95.cap,(hA95.inv.check hp7)⟩⟩)
 have hA128 : ParAt w0 w58 bp ([.blk b4 ([iv t.kind,sv t.text,iv t.n,iv (t.at')]) 49,.blk b3 ([sv ([]),sv ([114,101,97,99,104]),sv ([119,105,116,104,105,110]),sv ([119,97,121,112,111,105,110,116]),sv ([101,113,117,97,108])]) 9,.blk b2 ([iv (kindIx t.text),iv rn,iv 0,iv 0,iv 0]) 67] ++ X) s50 m51 := ⟨hE60,hM61,hA53.deq,hA53.toks,hA53.cap,hA53.inv⟩
 refine ZlP 4 E122 (aDest_any w0 bp ([.blk b4 ([iv t.kind,sv t.text,iv t.n,iv (t.at')]) 49,.blk b3 ([sv ([]),sv ([114,101,97,99,104]),sv ([119,105,116,104,105,110]),sv ([119,97,121,112,111,105,110,116]),sv ([101,113,117,97,108])]) 9,.blk b2 ([iv (kindIx t.text),iv rn,iv 0,iv 0,iv 0]) 67] ++ X) s50 m51  w58 hA128) (fun x w' ⟨e,a,he,hx,hE⟩ => ⟨e,a,by simp only [checkS,hs9,hsk,hs52,otherS,if_neg h4,he,andE_ok,andE_error],hx,hE⟩) ?_
 rintro _ w129 ⟨rd,s130,m131,hs132,rfl,hA133⟩
 have hE134 : Ext w0 w129 := hA133.ext
 have hM135 := hA133.hold
 have hp136 := hA133.inv.pos
 have ha137 := hA133.toks.addrE tokCells_len (by decide) hp136
 refine Zt 1 7 2 (iv rd) rfl hE134 hM135 ?_
 intro w138 hE140 hM141
 refine Zh 13 [.c 7 0] hM141 trivial ?_
 refine Zq 0 ((kindIx t.text : Int) = (2 : Int)) (fun h42 => ?_) (fun h42 => ?_)
 ·have hA142 : ParAt w0 w138 bp ([.blk b4 ([iv t.kind,sv t.text,iv t.n,iv (t.at')]) 49,.blk b3 ([sv ([]),sv ([114,101,97,99,104]),sv ([119,105,116,104,105,110]),sv ([119,97,121,112,111,105,110,116]),sv ([101,113,117,97,108])]) 9,.blk b2 ([iv (kindIx t.text),iv rn,iv rd,iv 0,iv 0]) 67] ++ X) s130 m131 := ⟨hE140,hM141,hA133.deq,hA133.toks,hA133.cap,hA133.inv⟩
  refine ZlP 2 E111 (number_anyP w0 bp ([.blk b4 ([iv t.kind,sv t.text,iv t.n,iv (t.at')]) 49,.blk b3 ([sv ([]),sv ([114,101,97,99,104]),sv ([119,105,116,104,105,110]),sv ([119,97,121,112,111,105,110,116]),sv ([101,113,117,97,108])]) 9,.blk b2 ([iv (kindIx t.text),iv rn,iv rd,iv 0,iv 0]) 67] ++ X) s130 m131 0 65535 w138 hA142) (fun x w' ⟨e,a,he,hx,hE⟩ => ⟨e,a,by simp only [checkS,hs9,hsk,hs52,otherS,if_neg h4,hs132,restS,if_pos h42,he,andE_ok,andE_error],hx,hE⟩) ?_
  rintro _ w143 ⟨rl,s144,m145,hs146,rfl,hA147⟩
  have hE148 : Ext w0 w143 := hA147.ext
  have hM149 := hA147.hold
  have hp150 := hA147.inv.pos
  have ha151 := hA147.toks.addrE tokCells_len (by decide) hp150
  refine Zt 1 7 3 (iv rl) rfl hE148 hM149 ?_
  intro w152 hE154 hM155
  have hA156 : ParAt w0 w152 bp ([.blk b4 ([iv t.kind,sv t.text,iv t.n,iv (t.at')]) 49,.blk b3 ([sv ([]),sv ([114,101,97,99,104]),sv ([119,105,116,104,105,110]),sv ([119,97,121,112,111,105,110,116]),sv ([101,113,117,97,108])]) 9,.blk b2 ([iv (kindIx t.text),iv rn,iv rd,iv rl,iv 0]) 67] ++ X) s144 m145 := ⟨hE154,hM155,hA147.deq,hA147.toks,hA147.cap,hA147.inv⟩
  refine ZlP 5 E112 (stop_any w0 bp ([.blk b4 ([iv t.kind,sv t.text,iv t.n,iv (t.at')]) 49,.blk b3 ([sv ([]),sv ([114,101,97,99,104]),sv ([119,105,116,104,105,110]),sv ([119,97,121,112,111,105,110,116]),sv ([101,113,117,97,108])]) 9,.blk b2 ([iv (kindIx t.text),iv rn,iv rd,iv rl,iv 0]) 67] ++ X) s144 m145  w152 hA156) (fun x w' ⟨e,a,he,hx,hE⟩ => ⟨e,a,by simp only [checkS,hs9,hsk,hs52,otherS,if_neg h4,hs132,restS,if_pos h42,hs146,he,andE_ok,andE_error],hx,hE⟩) ?_
  rintro _ w157 ⟨s158,m159,hs160,rfl,hA161⟩
  have hE162 : Ext w0 w157 := hA161.ext
  have hM163 := hA161.hold
  have hp164 := hA161.inv.pos
  have ha165 := hA161.toks.addrE tokCells_len (by decide) hp164
  have hp7 : s158.p.checks.length < 16 := by rw [stopS_plan hs160,numberS_plan hs146,aDestS_plan hs132,aNodeS_plan hs52,hkp]; exact hp1.2
  refine Zs 1 [] [] trivial ?_
  refine ZB 13 [] 17 (opsAt (cAt Y91 (ro1 11 []))) (fun _ w' => w'.heap[b2]? = some (.cells #[iv (kindIx t.text),iv rn,iv rd,iv rl,iv 0] 67 (0,0))) ?_
  intro w166 hx167
  obtain ⟨hE168,hM169⟩ := Xt hE162 hM163 hx167
  refine dx [0,1,2,3,4,6] [.ld (.agg #[iv (kindIx t.text),iv rn,iv rd,iv rl,iv 0])] 7 (lb 13 95) (fun w' => [cl w' b2 0 (iv (kindIx t.text)),cl w' b2 1 (iv rn),cl w' b2 2 (iv rd),cl w' b2 3 (iv rl),cl w' b2 4 (iv 0)]) (fun w' hS => (AC (cell_of hS rfl) (AC (cell_of hS rfl) (AC (cell_of hS rfl) (AC (cell_of hS rfl) (A1 (cell_of hS rfl))))))) ((hM169.blk 7 rfl)) ?_
  refine dAll 5 [7] (by kernel_rfl) ?_
  refine ⟨?_,?_⟩
  ·refine Wo [] (.load 27 (pt bp 6)) [] trivial (runs_load (v := .slice m159.q.a4 s158.p.checks.length m159.q.c4) (ps := [cl w166 bp 6 (.slice m159.q.a4 s158.p.checks.length m159.q.c4)]) (by kernel_rfl) (A1 (cell_of (hM169.blk 0 rfl) rfl))) ?_
   rintro _ _ ⟨rfl,rfl⟩
   refine ⟨(hM169.blk 7 rfl),?_⟩
   refine d1 7 ?_
   refine Wd 1 [iv (kindIx t.text),iv rn,iv rd,iv rl,iv 0] 67 hE168 hM169 ?_
   intro be w170 hx174 hE172 hM173
   refine ⟨(hM173.blk 8 rfl),?_⟩
   refine d1 8 ?_
   refine Wp 5 0 1 40 ((s158.p.checks ++ [(⟨kindIx t.text,rn,rd,rl,0⟩ : PCheck)]).length) ((s158.p.checks ++ [(⟨kindIx t.text,rn,rd,rl,0⟩ : PCheck)]).flatMap checkC) rfl rfl ⟨by omega,by omega⟩ (fun _ _ h => by simpa [checkC] using h) hE172 hM173 ?_
   intro av ac w175 hE176 hM177
   refine ⟨(hM177.blk 8 rfl),?_⟩
   refine dx0 [9,10,11] [] 1 (lb 13 4095) ((hM177.blk 8 rfl)) ?_
   refine d1 12 ?_
   refine Wt 1 6 (.slice av ((s158.p.checks ++ [(⟨kindIx t.text,rn,rd,rl,0⟩ : PCheck)]).length) ac) rfl hE176 hM177 ?_
   intro w178 hE180 hM181
   refine ⟨(hM181.blk 8 rfl),?_⟩
   refine ZD ?_
   exact ZeP 0 [] [] [] trivial (v := .tuple #[]) rfl (⟨⟨addCheck s158.p (⟨kindIx t.text,rn,rd,rl,0⟩ : PCheck),s158.ts⟩,⟨{ m159.q with a4 := av,c4 := ac },m159.ta,m159.tc⟩,by simp only [checkS,hs9,hsk,hs52,otherS,if_neg h4,hs132,restS,if_pos h42,hs146,hs160,andE_ok],rfl,⟨hE180,(hM181.pick 9 [1,2,3,4,5] (by kernel_rfl) (by kernel_rfl)),hA161.deq,hA161.toks,hA161.cap,(hA161.inv.check hp7)⟩⟩)
  refine Wd 1 [iv (kindIx t.text),iv rn,iv rd,iv rl,iv 0] 67 hE168 hM169 ?_
  intro be w182 hx186 hE184 hM185
  refine ⟨(hM185.blk 8 rfl),?_⟩
  refine d1 5 ?_
  refine Wo [] (.load 27 (pt bp 6)) [] trivial (runs_load (v := .slice m159.q.a4 s158.p.checks.length m159.q.c4) (ps := [cl w182 bp 6 (.slice m159.q.a4 s158.p.checks.length m159.q.c4)]) (by kernel_rfl) (A1 (cell_of (hM185.blk 1 rfl) rfl))) ?_
  rintro _ _ ⟨rfl,rfl⟩
  refine ⟨(hM185.blk 8 rfl),?_⟩
  refine d1 8 ?_
  refine Wp 5 0 1 40 ((s158.p.checks ++ [(⟨kindIx t.text,rn,rd,rl,0⟩ : PCheck)]).length) ((s158.p.checks ++ [(⟨kindIx t.text,rn,rd,rl,0⟩ : PCheck)]).flatMap checkC) rfl rfl ⟨by omega,by omega⟩ (fun _ _ h => by simpa [checkC] using h) hE184 hM185 ?_
  intro av ac w187 hE188 hM189
  refine ⟨(hM189.blk 8 rfl),?_⟩
  refine dx0 [9,10,11] [] 1 (lb 13 4095) ((hM189.blk 8 rfl)) ?_
  refine d1 12 ?_
  refine Wt 1 6 (.slice av ((s158.p.checks ++ [(⟨kindIx t.text,rn,rd,rl,0⟩ : PCheck)]).length) ac) rfl hE188 hM189 ?_
  intro w190 hE192 hM193
  refine ⟨(hM193.blk 8 rfl),?_⟩
  refine ZD ?_
  exact ZeP 0 [] [] [] trivial (v := .tuple #[]) rfl (⟨⟨addCheck s158.p (⟨kindIx t.text,rn,rd,rl,0⟩ : PCheck),s158.ts⟩,⟨{ m159.q with a4 := av,c4 := ac },m159.ta,m159.tc⟩,by simp only [checkS,hs9,hsk,hs52,otherS,if_neg h4,hs132,restS,if_pos h42,hs146,hs160,andE_ok],rfl,⟨hE192,(hM193.pick 9 [1,2,3,4,5] (by kernel_rfl) (by kernel_rfl)),hA161.deq,hA161.toks,hA161.cap,(hA161.inv.check hp7)⟩⟩)
 refine Zq 5 ((kindIx t.text : Int) = (3 : Int)) (fun h43 => ?_) (fun h43 => ?_)
 ·have hA194 : ParAt w0 w138 bp ([.blk b4 ([iv t.kind,sv t.text,iv t.n,iv (t.at')]) 49,.blk b3 ([sv ([]),sv ([114,101,97,99,104]),sv ([119,105,116,104,105,110]),sv ([119,97,121,112,111,105,110,116]),sv ([101,113,117,97,108])]) 9,.blk b2 ([iv (kindIx t.text),iv rn,iv rd,iv 0,iv 0]) 67] ++ X) s130 m131 := ⟨hE140,hM141,hA133.deq,hA133.toks,hA133.cap,hA133.inv⟩
  refine ZlP 2 E115 (aNode_any w0 bp ([.blk b4 ([iv t.kind,sv t.text,iv t.n,iv (t.at')]) 49,.blk b3 ([sv ([]),sv ([114,101,97,99,104]),sv ([119,105,116,104,105,110]),sv ([119,97,121,112,111,105,110,116]),sv ([101,113,117,97,108])]) 9,.blk b2 ([iv (kindIx t.text),iv rn,iv rd,iv 0,iv 0]) 67] ++ X) s130 m131  w138 hA194) (fun x w' ⟨e,a,he,hx,hE⟩ => ⟨e,a,by simp only [checkS,hs9,hsk,hs52,otherS,if_neg h4,hs132,restS,if_neg h42,if_pos h43,he,andE_ok,andE_error],hx,hE⟩) ?_
  rintro _ w195 ⟨ro2,s196,m197,hs198,rfl,hA199⟩
  have hE200 : Ext w0 w195 := hA199.ext
  have hM201 := hA199.hold
  have hp202 := hA199.inv.pos
  have ha203 := hA199.toks.addrE tokCells_len (by decide) hp202
  refine Zt 1 7 4 (iv ro2) rfl hE200 hM201 ?_
  intro w204 hE206 hM207
  have hA208 : ParAt w0 w204 bp ([.blk b4 ([iv t.kind,sv t.text,iv t.n,iv (t.at')]) 49,.blk b3 ([sv ([]),sv ([114,101,97,99,104]),sv ([119,105,116,104,105,110]),sv ([119,97,121,112,111,105,110,116]),sv ([101,113,117,97,108])]) 9,.blk b2 ([iv (kindIx t.text),iv rn,iv rd,iv 0,iv ro2]) 67] ++ X) s196 m197 := ⟨hE206,hM207,hA199.deq,hA199.toks,hA199.cap,hA199.inv⟩
  refine ZlP 5 E112 (stop_any w0 bp ([.blk b4 ([iv t.kind,sv t.text,iv t.n,iv (t.at')]) 49,.blk b3 ([sv ([]),sv ([114,101,97,99,104]),sv ([119,105,116,104,105,110]),sv ([119,97,121,112,111,105,110,116]),sv ([101,113,117,97,108])]) 9,.blk b2 ([iv (kindIx t.text),iv rn,iv rd,iv 0,iv ro2]) 67] ++ X) s196 m197  w204 hA208) (fun x w' ⟨e,a,he,hx,hE⟩ => ⟨e,a,by simp only [checkS,hs9,hsk,hs52,otherS,if_neg h4,hs132,restS,if_neg h42,if_pos h43,hs198,he,andE_ok,andE_error],hx,hE⟩) ?_
  rintro _ w209 ⟨s210,m211,hs212,rfl,hA213⟩
  have hE214 : Ext w0 w209 := hA213.ext
  have hM215 := hA213.hold
  have hp216 := hA213.inv.pos
  have ha217 := hA213.toks.addrE tokCells_len (by decide) hp216
  have hp7 : s210.p.checks.length < 16 := by rw [stopS_plan hs212,aNodeS_plan hs198,aDestS_plan hs132,aNodeS_plan hs52,hkp]; exact hp1.2
  refine Zs 1 [] [] trivial ?_
  refine ZB 13 [] 17 (opsAt (cAt Y91 (ro1 11 []))) (fun _ w' => w'.heap[b2]? = some (.cells #[iv (kindIx t.text),iv rn,iv rd,iv 0,iv ro2] 67 (0,0))) ?_
  intro w218 hx219
  obtain ⟨hE220,hM221⟩ := Xt hE214 hM215 hx219
  refine dx [0,1,2,3,4,6] [.ld (.agg #[iv (kindIx t.text),iv rn,iv rd,iv 0,iv ro2])] 7 (lb 13 95) (fun w' => [cl w' b2 0 (iv (kindIx t.text)),cl w' b2 1 (iv rn),cl w' b2 2 (iv rd),cl w' b2 3 (iv 0),cl w' b2 4 (iv ro2)]) (fun w' hS => (AC (cell_of hS rfl) (AC (cell_of hS rfl) (AC (cell_of hS rfl) (AC (cell_of hS rfl) (A1 (cell_of hS rfl))))))) ((hM221.blk 7 rfl)) ?_
  refine dAll 5 [7] (by kernel_rfl) ?_
  refine ⟨?_,?_⟩
  ·refine Wo [] (.load 27 (pt bp 6)) [] trivial (runs_load (v := .slice m211.q.a4 s210.p.checks.length m211.q.c4) (ps := [cl w218 bp 6 (.slice m211.q.a4 s210.p.checks.length m211.q.c4)]) (by kernel_rfl) (A1 (cell_of (hM221.blk 0 rfl) rfl))) ?_
   rintro _ _ ⟨rfl,rfl⟩
   refine ⟨(hM221.blk 7 rfl),?_⟩
   refine d1 7 ?_
   refine Wd 1 [iv (kindIx t.text),iv rn,iv rd,iv 0,iv ro2] 67 hE220 hM221 ?_
   intro be w222 hx226 hE224 hM225
   refine ⟨(hM225.blk 8 rfl),?_⟩
   refine d1 8 ?_
   refine Wp 5 0 1 40 ((s210.p.checks ++ [(⟨kindIx t.text,rn,rd,0,ro2⟩ : PCheck)]).length) ((s210.p.checks ++ [(⟨kindIx t.text,rn,rd,0,ro2⟩ : PCheck)]).flatMap checkC) rfl rfl ⟨by omega,by omega⟩ (fun _ _ h => by simpa [checkC] using h) hE224 hM225 ?_
   intro av ac w227 hE228 hM229
   refine ⟨(hM229.blk 8 rfl),?_⟩
   refine dx0 [9,10,11] [] 1 (lb 13 4095) ((hM229.blk 8 rfl)) ?_
   refine d1 12 ?_
   refine Wt 1 6 (.slice av ((s210.p.checks ++ [(⟨kindIx t.text,rn,rd,0,ro2⟩ : PCheck)]).length) ac) rfl hE228 hM229 ?_
   intro w230 hE232 hM233
   refine ⟨(hM233.blk 8 rfl),?_⟩
   refine ZD ?_
   exact ZeP 0 [] [] [] trivial (v := .tuple #[]) rfl (⟨⟨addCheck s210.p (⟨kindIx t.text,rn,rd,0,ro2⟩ : PCheck),s210.ts⟩,⟨{ m211.q with a4 := av,c4 := ac },m211.ta,m211.tc⟩,by simp only [checkS,hs9,hsk,hs52,otherS,if_neg h4,hs132,restS,if_neg h42,if_pos h43,hs198,hs212,andE_ok],rfl,⟨hE232,(hM233.pick 9 [1,2,3,4,5] (by kernel_rfl) (by kernel_rfl)),hA213.deq,hA213.toks,hA213.cap,(hA213.inv.check hp7)⟩⟩)
  refine Wd 1 [iv (kindIx t.text),iv rn,iv rd,iv 0,iv ro2] 67 hE220 hM221 ?_
  intro be w234 hx238 hE236 hM237
  refine ⟨(hM237.blk 8 rfl),?_⟩
  refine d1 5 ?_
  refine Wo [] (.load 27 (pt bp 6)) [] trivial (runs_load (v := .slice m211.q.a4 s210.p.checks.length m211.q.c4) (ps := [cl w234 bp 6 (.slice m211.q.a4 s210.p.checks.length m211.q.c4)]) (by kernel_rfl) (A1 (cell_of (hM237.blk 1 rfl) rfl))) ?_
  rintro _ _ ⟨rfl,rfl⟩
  refine ⟨(hM237.blk 8 rfl),?_⟩
  refine d1 8 ?_
  refine Wp 5 0 1 40 ((s210.p.checks ++ [(⟨kindIx t.text,rn,rd,0,ro2⟩ : PCheck)]).length) ((s210.p.checks ++ [(⟨kindIx t.text,rn,rd,0,ro2⟩ : PCheck)]).flatMap checkC) rfl rfl ⟨by omega,by omega⟩ (fun _ _ h => by simpa [checkC] using h) hE236 hM237 ?_
  intro av ac w239 hE240 hM241
  refine ⟨(hM241.blk 8 rfl),?_⟩
  refine dx0 [9,10,11] [] 1 (lb 13 4095) ((hM241.blk 8 rfl)) ?_
  refine d1 12 ?_
  refine Wt 1 6 (.slice av ((s210.p.checks ++ [(⟨kindIx t.text,rn,rd,0,ro2⟩ : PCheck)]).length) ac) rfl hE240 hM241 ?_
  intro w242 hE244 hM245
  refine ⟨(hM245.blk 8 rfl),?_⟩
  refine ZD ?_
  exact ZeP 0 [] [] [] trivial (v := .tuple #[]) rfl (⟨⟨addCheck s210.p (⟨kindIx t.text,rn,rd,0,ro2⟩ : PCheck),s210.ts⟩,⟨{ m211.q with a4 := av,c4 := ac },m211.ta,m211.tc⟩,by simp only [checkS,hs9,hsk,hs52,otherS,if_neg h4,hs132,restS,if_neg h42,if_pos h43,hs198,hs212,andE_ok],rfl,⟨hE244,(hM245.pick 9 [1,2,3,4,5] (by kernel_rfl) (by kernel_rfl)),hA213.deq,hA213.toks,hA213.cap,(hA213.inv.check hp7)⟩⟩)
 have hA246 : ParAt w0 w138 bp ([.blk b4 ([iv t.kind,sv t.text,iv t.n,iv (t.at')]) 49,.blk b3 ([sv ([]),sv ([114,101,97,99,104]),sv ([119,105,116,104,105,110]),sv ([119,97,121,112,111,105,110,116]),sv ([101,113,117,97,108])]) 9,.blk b2 ([iv (kindIx t.text),iv rn,iv rd,iv 0,iv 0]) 67] ++ X) s130 m131 := ⟨hE140,hM141,hA133.deq,hA133.toks,hA133.cap,hA133.inv⟩
 refine ZlP 5 E112 (stop_any w0 bp ([.blk b4 ([iv t.kind,sv t.text,iv t.n,iv (t.at')]) 49,.blk b3 ([sv ([]),sv ([114,101,97,99,104]),sv ([119,105,116,104,105,110]),sv ([119,97,121,112,111,105,110,116]),sv ([101,113,117,97,108])]) 9,.blk b2 ([iv (kindIx t.text),iv rn,iv rd,iv 0,iv 0]) 67] ++ X) s130 m131  w138 hA246) (fun x w' ⟨e,a,he,hx,hE⟩ => ⟨e,a,by simp only [checkS,hs9,hsk,hs52,otherS,if_neg h4,hs132,restS,if_neg h42,if_neg h43,he,andE_ok,andE_error],hx,hE⟩) ?_
 rintro _ w247 ⟨s248,m249,hs250,rfl,hA251⟩
 have hE252 : Ext w0 w247 := hA251.ext
 have hM253 := hA251.hold
 have hp254 := hA251.inv.pos
 have ha255 := hA251.toks.addrE tokCells_len (by decide) hp254
 have hp7 : s248.p.checks.length < 16 := by rw [stopS_plan hs250,aDestS_plan hs132,aNodeS_plan hs52,hkp]; exact hp1.2
 refine Zs 1 [] [] trivial ?_
 refine ZB 13 [] 17 (opsAt (cAt Y91 (ro1 11 []))) (fun _ w' => w'.heap[b2]? = some (.cells #[iv (kindIx t.text),iv rn,iv rd,iv 0,iv 0] 67 (0,0))) ?_
 intro w256 hx257
 obtain ⟨hE258,hM259⟩ := Xt hE252 hM253 hx257
 refine dx [0,1,2,3,4,6] [.ld (.agg #[iv (kindIx t.text),iv rn,iv rd,iv 0,iv 0])] 7 (lb 13 95) (fun w' => [cl w' b2 0 (iv (kindIx t.text)),cl w' b2 1 (iv rn),cl w' b2 2 (iv rd),cl w' b2 3 (iv 0),cl w' b2 4 (iv 0)]) (fun w' hS => (AC (cell_of hS rfl) (AC (cell_of hS rfl) (AC (cell_of hS rfl) (AC (cell_of hS rfl) (A1 (cell_of hS rfl))))))) ((hM259.blk 7 rfl)) ?_
 refine dAll 5 [7] (by kernel_rfl) ?_
 refine ⟨?_,?_⟩
 ·refine Wo [] (.load 27 (pt bp 6)) [] trivial (runs_load (v := .slice m249.q.a4 s248.p.checks.length m249.q.c4) (ps := [cl w256 bp 6 (.slice m249.q.a4 s248.p.checks.length m249.q.c4)]) (by kernel_rfl) (A1 (cell_of (hM259.blk 0 rfl) rfl))) ?_
  rintro _ _ ⟨rfl,rfl⟩
  refine ⟨(hM259.blk 7 rfl),?_⟩
  refine d1 7 ?_
  refine Wd 1 [iv (kindIx t.text),iv rn,iv rd,iv 0,iv 0] 67 hE258 hM259 ?_
  intro be w260 hx264 hE262 hM263
  refine ⟨(hM263.blk 8 rfl),?_⟩
  refine d1 8 ?_
  refine Wp 5 0 1 40 ((s248.p.checks ++ [(⟨kindIx t.text,rn,rd,0,0⟩ : PCheck)]).length) ((s248.p.checks ++ [(⟨kindIx t.text,rn,rd,0,0⟩ : PCheck)]).flatMap checkC) rfl rfl ⟨by omega,by omega⟩ (fun _ _ h => by simpa [checkC] using h) hE262 hM263 ?_
  intro av ac w265 hE266 hM267
  refine ⟨(hM267.blk 8 rfl),?_⟩
  refine dx0 [9,10,11] [] 1 (lb 13 4095) ((hM267.blk 8 rfl)) ?_
  refine d1 12 ?_
  refine Wt 1 6 (.slice av ((s248.p.checks ++ [(⟨kindIx t.text,rn,rd,0,0⟩ : PCheck)]).length) ac) rfl hE266 hM267 ?_
  intro w268 hE270 hM271
  refine ⟨(hM271.blk 8 rfl),?_⟩
  refine ZD ?_
  exact ZeP 0 [] [] [] trivial (v := .tuple #[]) rfl (⟨⟨addCheck s248.p (⟨kindIx t.text,rn,rd,0,0⟩ : PCheck),s248.ts⟩,⟨{ m249.q with a4 := av,c4 := ac },m249.ta,m249.tc⟩,by simp only [checkS,hs9,hsk,hs52,otherS,if_neg h4,hs132,restS,if_neg h42,if_neg h43,hs250,andE_ok],rfl,⟨hE270,(hM271.pick 9 [1,2,3,4,5] (by kernel_rfl) (by kernel_rfl)),hA251.deq,hA251.toks,hA251.cap,(hA251.inv.check hp7)⟩⟩)
 refine Wd 1 [iv (kindIx t.text),iv rn,iv rd,iv 0,iv 0] 67 hE258 hM259 ?_
 intro be w272 hx276 hE274 hM275
 refine ⟨(hM275.blk 8 rfl),?_⟩
 refine d1 5 ?_
 refine Wo [] (.load 27 (pt bp 6)) [] trivial (runs_load (v := .slice m249.q.a4 s248.p.checks.length m249.q.c4) (ps := [cl w272 bp 6 (.slice m249.q.a4 s248.p.checks.length m249.q.c4)]) (by kernel_rfl) (A1 (cell_of (hM275.blk 1 rfl) rfl))) ?_
 rintro _ _ ⟨rfl,rfl⟩
 refine ⟨(hM275.blk 8 rfl),?_⟩
 refine d1 8 ?_
 refine Wp 5 0 1 40 ((s248.p.checks ++ [(⟨kindIx t.text,rn,rd,0,0⟩ : PCheck)]).length) ((s248.p.checks ++ [(⟨kindIx t.text,rn,rd,0,0⟩ : PCheck)]).flatMap checkC) rfl rfl ⟨by omega,by omega⟩ (fun _ _ h => by simpa [checkC] using h) hE274 hM275 ?_
 intro av ac w277 hE278 hM279
 refine ⟨(hM279.blk 8 rfl),?_⟩
 refine dx0 [9,10,11] [] 1 (lb 13 4095) ((hM279.blk 8 rfl)) ?_
 refine d1 12 ?_
 refine Wt 1 6 (.slice av ((s248.p.checks ++ [(⟨kindIx t.text,rn,rd,0,0⟩ : PCheck)]).length) ac) rfl hE278 hM279 ?_
 intro w280 hE282 hM283
 refine ⟨(hM283.blk 8 rfl),?_⟩
 refine ZD ?_
 exact ZeP 0 [] [] [] trivial (v := .tuple #[]) rfl (⟨⟨addCheck s248.p (⟨kindIx t.text,rn,rd,0,0⟩ : PCheck),s248.ts⟩,⟨{ m249.q with a4 := av,c4 := ac },m249.ta,m249.tc⟩,by simp only [checkS,hs9,hsk,hs52,otherS,if_neg h4,hs132,restS,if_neg h42,if_neg h43,hs250,andE_ok],rfl,⟨hE282,(hM283.pick 9 [1,2,3,4,5] (by kernel_rfl) (by kernel_rfl)),hA251.deq,hA251.toks,hA251.cap,(hA251.inv.check hp7)⟩⟩)

end Go.Proofs.YtjhgghpeapmgdaaGreatDoor
