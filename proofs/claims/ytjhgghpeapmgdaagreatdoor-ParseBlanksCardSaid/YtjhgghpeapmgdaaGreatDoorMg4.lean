/-
  Texts that belong together: ParF, LexJoin, ParLex.
-/
import Derived.Test.YtjhgghpeapmgdaaGreatDoorParD
import Derived.Test.YtjhgghpeapmgdaaGreatDoorParE
import Derived.Test.YtjhgghpeapmgdaaGreatDoorLz
import Derived.Test.YtjhgghpeapmgdaaGreatDoorMg2
import Derived.Test.YtjhgghpeapmgdaaGreatDoorMg1
import Derived.Test.YtjhgghpeapmgdaaGreatDoorParSpec
/-
  PARSE: the contract of all.
-/
namespace Go.Proofs.YtjhgghpeapmgdaaGreatDoor
open Go.Bk Go.Proofs

def allL0 (w0 : World) (bp b2 : Nat) (X : List Res) (tk : Tok) (R : PE PSt) : Lp (PSt × PM) where
  S := fun _ => [(0,none,pt bp 0),(2,none,pt b2 0)]
  J := fun x w' => ParAt w0 w' bp ([.blk b2 [iv tk.kind,sv tk.text,iv tk.n,iv (tk.at')] 49] ++ X) x.1 x.2 ∧ manyS wdNode nodeS x.1 = R
  M := fun x => x.1.ts.length
def allL1 (w0 : World) (bp b2 : Nat) (X : List Res) (tk : Tok) (R : PE PSt) : Lp (PSt × PM) where
  S := fun _ => [(0,none,pt bp 0),(2,none,pt b2 0)]
  J := fun x w' => ParAt w0 w' bp ([.blk b2 [iv tk.kind,sv tk.text,iv tk.n,iv (tk.at')] 49] ++ X) x.1 x.2 ∧ manyS wdLink linkS x.1 = R
  M := fun x => x.1.ts.length
def allL2 (w0 : World) (bp b2 : Nat) (X : List Res) (tk : Tok) (R : PE PSt) : Lp (PSt × PM) where
  S := fun _ => [(0,none,pt bp 0),(2,none,pt b2 0)]
  J := fun x w' => ParAt w0 w' bp ([.blk b2 [iv tk.kind,sv tk.text,iv tk.n,iv (tk.at')] 49] ++ X) x.1 x.2 ∧ manyS wdDest destS x.1 = R
  M := fun x => x.1.ts.length
def allL3 (w0 : World) (bp b2 : Nat) (X : List Res) (tk : Tok) (R : PE PSt) : Lp (PSt × PM) where
  S := fun _ => [(0,none,pt bp 0),(2,none,pt b2 0)]
  J := fun x w' => ParAt w0 w' bp ([.blk b2 [iv tk.kind,sv tk.text,iv tk.n,iv (tk.at')] 49] ++ X) x.1 x.2 ∧ manyS wdCheck checkS x.1 = R
  M := fun x => x.1.ts.length
set_option maxRecDepth 20000 in
set_option maxHeartbeats 1000000 in
theorem all_any (w0 : World) (bp : Nat) (X : List Res) (s : PSt) (m : PM) (w : World) (hA : ParAt w0 w bp X s m) :
    DoesP Tryz.prog 63 [pt bp 0] w (fun v w' => ∃ s' m',allS s = .ok s' ∧ v = .tuple #[] ∧ ParAt w0 w' bp X s' m') (PanP (allS s) w0) := by
 refine startZP (c := Y63) Tryz.func63 rfl (by kernel_rfl) ?_
 show H _ 41 [] _ (kAt Y63 [] []) (stz [(0,pt bp 0)]) w
 have hE1 : Ext w0 w := hA.ext
 have hM2 := hA.hold
 have hp3 := hA.inv.pos
 have ha4 := hA.toks.addrE tokCells_len (by decide) hp3
 have hA5 : ParAt w0 w bp X s m := ⟨hE1,hM2,hA.deq,hA.toks,hA.cap,hA.inv⟩
 refine ZlP 3 E85 (protocol_any w0 bp X s m  w hA5) (fun x w' ⟨e,a,he,hx,hE⟩ => ⟨e,a,by simp only [allS,he,andE_error],hx,hE⟩) ?_
 rintro _ w6 ⟨s7,m8,hs9,rfl,hA10⟩
 have hE11 : Ext w0 w6 := hA10.ext
 have hM12 := hA10.hold
 have hp13 := hA10.inv.pos
 have ha14 := hA10.toks.addrE tokCells_len (by decide) hp13
 have hA15 : ParAt w0 w6 bp X s7 m8 := ⟨hE11,hM12,hA10.deq,hA10.toks,hA10.cap,hA10.inv⟩
 refine ZlP 4 E86 (failures_any w0 bp X s7 m8  w6 hA15) (fun x w' ⟨e,a,he,hx,hE⟩ => ⟨e,a,by simp only [allS,hs9,he,andE_ok,andE_error],hx,hE⟩) ?_
 rintro _ w16 ⟨tk,s17,m18,hs19,rfl,hA20⟩
 have hE21 : Ext w0 w16 := hA20.ext
 have hM22 := hA20.hold
 have hp23 := hA20.inv.pos
 have ha24 := hA20.toks.addrE tokCells_len (by decide) hp23
 refine Za 0 49 [iv 0,sv ([]),iv 0,iv 0] hE21 hM22 ?_
 intro b2 w25 hE27 hM28
 refine Zt 0 0 0 (vT tk) rfl hE27 hM28 ?_
 intro w29 hE31 hM32
 have hA33 : ParAt w0 w29 bp ([.blk b2 ([iv tk.kind,sv tk.text,iv tk.n,iv (tk.at')]) 49] ++ X) s17 m18 := ⟨hE31,(hM32.pick 6 [1,2,3,4,5,0] (by kernel_rfl) (by kernel_rfl)),hA20.deq,hA20.toks,hA20.cap,hA20.inv⟩
 refine ZlP 5 E87 (node_any w0 bp ([.blk b2 ([iv tk.kind,sv tk.text,iv tk.n,iv (tk.at')]) 49] ++ X) s17 m18  w29 hA33) (fun x w' ⟨e,a,he,hx,hE⟩ => ⟨e,a,by simp only [allS,hs9,hs19,he,andE_ok,andE_error],hx,hE⟩) ?_
 rintro _ w34 ⟨s35,m36,hs37,rfl,hA38⟩
 have hE39 : Ext w0 w34 := hA38.ext
 have hM40 := hA38.hold
 have hp41 := hA38.inv.pos
 have ha42 := hA38.toks.addrE tokCells_len (by decide) hp41
 have hA43 : ParAt w0 w34 bp ([.blk b2 ([iv tk.kind,sv tk.text,iv tk.n,iv (tk.at')]) 49] ++ X) s35 m36 := ⟨hE39,hM40,hA38.deq,hA38.toks,hA38.cap,hA38.inv⟩
 obtain ⟨R0,hR0⟩ : ∃ R,manyS wdNode nodeS s35 = R := ⟨_,rfl⟩
 refine Zs 2 [] [] trivial ?_
 refine ZLoop (allL0 w0 bp b2 X tk R0) (k' := (kEnd Y63 [1,1,0,1,0] [])) (body := (cAt Y63 [1,1,0,1,0,0])) (by kernel_rfl) (s35,m36) [0,2] (by kernel_rfl) (⟨hA43,hR0⟩) ?_
 rintro ⟨sz0,mz0⟩ wz0 ⟨hAz0,hRz0⟩
 simp only at hAz0 hRz0
 show H _ _ _ _ (kAt (cAt Y63 [1,1,0,1,0,0]) [] (.inv (LI 41 [] (allL0 w0 bp b2 X tk R0) (sz0,mz0)) :: (kEnd Y63 [1,1,0,1,0] []))) (stz [(0,pt bp 0),(2,pt b2 0)]) wz0
 have hE44 : Ext w0 wz0 := hAz0.ext
 have hM45 := hAz0.hold
 have hp46 := hAz0.inv.pos
 have ha47 := hAz0.toks.addrE tokCells_len (by decide) hp46
 have hA48 : ParAt w0 wz0 bp ([.blk b2 ([iv tk.kind,sv tk.text,iv tk.n,iv (tk.at')]) 49] ++ X) sz0 mz0 := ⟨hE44,hM45,hAz0.deq,hAz0.toks,hAz0.cap,hAz0.inv⟩
 refine Zl 4 E88 (is_any w0 bp ([.blk b2 ([iv tk.kind,sv tk.text,iv tk.n,iv (tk.at')]) 49] ++ X) sz0 mz0 wdNode wz0 hA48) ?_
 rintro _ _ ⟨rfl,rfl⟩
 refine Zr 1 _ ((isS wdNode sz0) = true) (Iff.rfl) (fun hb0 => ?_) (fun hb0 => ?_)
 ·rw [manyS_step nodeS_lt,if_pos hb0] at hRz0
  have hA49 : ParAt w0 wz0 bp ([.blk b2 ([iv tk.kind,sv tk.text,iv tk.n,iv (tk.at')]) 49] ++ X) sz0 mz0 := ⟨hE44,hA48.hold,hAz0.deq,hAz0.toks,hAz0.cap,hAz0.inv⟩
  refine ZlP 4 E87 (node_any w0 bp ([.blk b2 ([iv tk.kind,sv tk.text,iv tk.n,iv (tk.at')]) 49] ++ X) sz0 mz0 wz0 hA49) (fun x w' ⟨e,a,he,hx,hE⟩ => ⟨e,a,by have h9 : R0 = .error (e,a) := (by rw [← hRz0,he]; rfl); simp only [allS,hs9,hs19,hs37,andE_ok,hR0,h9,andE_error],hx,hE⟩) ?_
  rintro _ w50 ⟨s51,m52,hs53,rfl,hA54⟩
  have hE55 : Ext w0 w50 := hA54.ext
  have hM56 := hA54.hold
  have hp57 := hA54.inv.pos
  have ha58 := hA54.toks.addrE tokCells_len (by decide) hp57
  rw [hs53,andE_ok] at hRz0
  have hA59 : ParAt w0 w50 bp ([.blk b2 ([iv tk.kind,sv tk.text,iv tk.n,iv (tk.at')]) 49] ++ X) s51 m52 := ⟨hE55,hM56,hA54.deq,hA54.toks,hA54.cap,hA54.inv⟩
  exact ZA 2 (allL0 w0 bp b2 X tk R0) (sz0,mz0) (s51,m52) [0,2] (⟨hA59,hRz0⟩) (nodeS_lt _ _ hs53)
 rw [manyS_step nodeS_lt,if_neg hb0] at hRz0
 rw [← hRz0] at hR0
 have hA60 : ParAt w0 wz0 bp ([.blk b2 ([iv tk.kind,sv tk.text,iv tk.n,iv (tk.at')]) 49] ++ X) sz0 mz0 := ⟨hE44,hA48.hold,hAz0.deq,hAz0.toks,hAz0.cap,hAz0.inv⟩
 obtain ⟨R1,hR1⟩ : ∃ R,manyS wdLink linkS sz0 = R := ⟨_,rfl⟩
 refine Zs 3 [] [] trivial ?_
 refine ZLoop (allL1 w0 bp b2 X tk R1) (k' := (kEnd Y63 [1,1,1,0,0] [])) (body := (cAt Y63 [1,1,1,0,0,0])) (by kernel_rfl) (sz0,mz0) [0,2] (by kernel_rfl) (⟨hA60,hR1⟩) ?_
 rintro ⟨sz1,mz1⟩ wz1 ⟨hAz1,hRz1⟩
 simp only at hAz1 hRz1
 show H _ _ _ _ (kAt (cAt Y63 [1,1,1,0,0,0]) [] (.inv (LI 41 [] (allL1 w0 bp b2 X tk R1) (sz1,mz1)) :: (kEnd Y63 [1,1,1,0,0] []))) (stz [(0,pt bp 0),(2,pt b2 0)]) wz1
 have hE61 : Ext w0 wz1 := hAz1.ext
 have hM62 := hAz1.hold
 have hp63 := hAz1.inv.pos
 have ha64 := hAz1.toks.addrE tokCells_len (by decide) hp63
 have hA65 : ParAt w0 wz1 bp ([.blk b2 ([iv tk.kind,sv tk.text,iv tk.n,iv (tk.at')]) 49] ++ X) sz1 mz1 := ⟨hE61,hM62,hAz1.deq,hAz1.toks,hAz1.cap,hAz1.inv⟩
 refine Zl 4 E88 (is_any w0 bp ([.blk b2 ([iv tk.kind,sv tk.text,iv tk.n,iv (tk.at')]) 49] ++ X) sz1 mz1 wdLink wz1 hA65) ?_
 rintro _ _ ⟨rfl,rfl⟩
 refine Zr 1 _ ((isS wdLink sz1) = true) (Iff.rfl) (fun hb1 => ?_) (fun hb1 => ?_)
 ·rw [manyS_step linkS_lt,if_pos hb1] at hRz1
  have hA66 : ParAt w0 wz1 bp ([.blk b2 ([iv tk.kind,sv tk.text,iv tk.n,iv (tk.at')]) 49] ++ X) sz1 mz1 := ⟨hE61,hA65.hold,hAz1.deq,hAz1.toks,hAz1.cap,hAz1.inv⟩
  refine ZlP 4 E89 (link_any w0 bp ([.blk b2 ([iv tk.kind,sv tk.text,iv tk.n,iv (tk.at')]) 49] ++ X) sz1 mz1 wz1 hA66) (fun x w' ⟨e,a,he,hx,hE⟩ => ⟨e,a,by have h9 : R1 = .error (e,a) := (by rw [← hRz1,he]; rfl); simp only [allS,hs9,hs19,hs37,hR0,andE_ok,hR1,h9,andE_error],hx,hE⟩) ?_
  rintro _ w67 ⟨s68,m69,hs70,rfl,hA71⟩
  have hE72 : Ext w0 w67 := hA71.ext
  have hM73 := hA71.hold
  have hp74 := hA71.inv.pos
  have ha75 := hA71.toks.addrE tokCells_len (by decide) hp74
  rw [hs70,andE_ok] at hRz1
  have hA76 : ParAt w0 w67 bp ([.blk b2 ([iv tk.kind,sv tk.text,iv tk.n,iv (tk.at')]) 49] ++ X) s68 m69 := ⟨hE72,hM73,hA71.deq,hA71.toks,hA71.cap,hA71.inv⟩
  exact ZA 2 (allL1 w0 bp b2 X tk R1) (sz1,mz1) (s68,m69) [0,2] (⟨hA76,hRz1⟩) (linkS_lt _ _ hs70)
 rw [manyS_step linkS_lt,if_neg hb1] at hRz1
 rw [← hRz1] at hR1
 have hA77 : ParAt w0 wz1 bp ([.blk b2 ([iv tk.kind,sv tk.text,iv tk.n,iv (tk.at')]) 49] ++ X) sz1 mz1 := ⟨hE61,hA65.hold,hAz1.deq,hAz1.toks,hAz1.cap,hAz1.inv⟩
 obtain ⟨R2,hR2⟩ : ∃ R,manyS wdDest destS sz1 = R := ⟨_,rfl⟩
 refine Zs 3 [] [] trivial ?_
 refine ZLoop (allL2 w0 bp b2 X tk R2) (k' := (kEnd Y63 (ro1 4 [0,0]) [])) (body := (cAt Y63 (ro1 4 [0,0,0]))) (by kernel_rfl) (sz1,mz1) [0,2] (by kernel_rfl) (⟨hA77,hR2⟩) ?_
 rintro ⟨sz2,mz2⟩ wz2 ⟨hAz2,hRz2⟩
 simp only at hAz2 hRz2
 show H _ _ _ _ (kAt (cAt Y63 (ro1 4 [0,0,0])) [] (.inv (LI 41 [] (allL2 w0 bp b2 X tk R2) (sz2,mz2)) :: (kEnd Y63 (ro1 4 [0,0]) []))) (stz [(0,pt bp 0),(2,pt b2 0)]) wz2
 have hE78 : Ext w0 wz2 := hAz2.ext
 have hM79 := hAz2.hold
 have hp80 := hAz2.inv.pos
 have ha81 := hAz2.toks.addrE tokCells_len (by decide) hp80
 have hA82 : ParAt w0 wz2 bp ([.blk b2 ([iv tk.kind,sv tk.text,iv tk.n,iv (tk.at')]) 49] ++ X) sz2 mz2 := ⟨hE78,hM79,hAz2.deq,hAz2.toks,hAz2.cap,hAz2.inv⟩
 refine Zl 4 E88 (is_any w0 bp ([.blk b2 ([iv tk.kind,sv tk.text,iv tk.n,iv (tk.at')]) 49] ++ X) sz2 mz2 wdDest wz2 hA82) ?_
 rintro _ _ ⟨rfl,rfl⟩
 refine Zr 1 _ ((isS wdDest sz2) = true) (Iff.rfl) (fun hb2 => ?_) (fun hb2 => ?_)
 ·rw [manyS_step destS_lt,if_pos hb2] at hRz2
  have hA83 : ParAt w0 wz2 bp ([.blk b2 ([iv tk.kind,sv tk.text,iv tk.n,iv (tk.at')]) 49] ++ X) sz2 mz2 := ⟨hE78,hA82.hold,hAz2.deq,hAz2.toks,hAz2.cap,hAz2.inv⟩
  refine ZlP 4 E90 (dest_anyP w0 bp ([.blk b2 ([iv tk.kind,sv tk.text,iv tk.n,iv (tk.at')]) 49] ++ X) sz2 mz2 wz2 hA83) (fun x w' ⟨e,a,he,hx,hE⟩ => ⟨e,a,by have h9 : R2 = .error (e,a) := (by rw [← hRz2,he]; rfl); simp only [allS,hs9,hs19,hs37,hR0,hR1,andE_ok,hR2,h9,andE_error],hx,hE⟩) ?_
  rintro _ w84 ⟨s85,m86,hs87,rfl,hA88⟩
  have hE89 : Ext w0 w84 := hA88.ext
  have hM90 := hA88.hold
  have hp91 := hA88.inv.pos
  have ha92 := hA88.toks.addrE tokCells_len (by decide) hp91
  rw [hs87,andE_ok] at hRz2
  have hA93 : ParAt w0 w84 bp ([.blk b2 ([iv tk.kind,sv tk.text,iv tk.n,iv (tk.at')]) 49] ++ X) s85 m86 := ⟨hE89,hM90,hA88.deq,hA88.toks,hA88.cap,hA88.inv⟩
  exact ZA 2 (allL2 w0 bp b2 X tk R2) (sz2,mz2) (s85,m86) [0,2] (⟨hA93,hRz2⟩) (destS_lt _ _ hs87)
 rw [manyS_step destS_lt,if_neg hb2] at hRz2
 rw [← hRz2] at hR2
 have hA94 : ParAt w0 wz2 bp ([.blk b2 ([iv tk.kind,sv tk.text,iv tk.n,iv (tk.at')]) 49] ++ X) sz2 mz2 := ⟨hE78,hA82.hold,hAz2.deq,hAz2.toks,hAz2.cap,hAz2.inv⟩
 obtain ⟨R3,hR3⟩ : ∃ R,manyS wdCheck checkS sz2 = R := ⟨_,rfl⟩
 refine Zs 3 [] [] trivial ?_
 refine ZLoop (allL3 w0 bp b2 X tk R3) (k' := (kEnd Y63 (ro1 5 [0,0]) [])) (body := (cAt Y63 (ro1 5 [0,0,0]))) (by kernel_rfl) (sz2,mz2) [0,2] (by kernel_rfl) (⟨hA94,hR3⟩) ?_
 rintro ⟨sz3,mz3⟩ wz3 ⟨hAz3,hRz3⟩
 simp only at hAz3 hRz3
 show H _ _ _ _ (kAt (cAt Y63 (ro1 5 [0,0,0])) [] (.inv (LI 41 [] (allL3 w0 bp b2 X tk R3) (sz3,mz3)) :: (kEnd Y63 (ro1 5 [0,0]) []))) (stz [(0,pt bp 0),(2,pt b2 0)]) wz3
 have hE95 : Ext w0 wz3 := hAz3.ext
 have hM96 := hAz3.hold
 have hp97 := hAz3.inv.pos
 have ha98 := hAz3.toks.addrE tokCells_len (by decide) hp97
 have hA99 : ParAt w0 wz3 bp ([.blk b2 ([iv tk.kind,sv tk.text,iv tk.n,iv (tk.at')]) 49] ++ X) sz3 mz3 := ⟨hE95,hM96,hAz3.deq,hAz3.toks,hAz3.cap,hAz3.inv⟩
 refine Zl 4 E88 (is_any w0 bp ([.blk b2 ([iv tk.kind,sv tk.text,iv tk.n,iv (tk.at')]) 49] ++ X) sz3 mz3 wdCheck wz3 hA99) ?_
 rintro _ _ ⟨rfl,rfl⟩
 refine Zr 1 _ ((isS wdCheck sz3) = true) (Iff.rfl) (fun hb3 => ?_) (fun hb3 => ?_)
 ·rw [manyS_step checkS_lt,if_pos hb3] at hRz3
  have hA100 : ParAt w0 wz3 bp ([.blk b2 ([iv tk.kind,sv tk.text,iv tk.n,iv (tk.at')]) 49] ++ X) sz3 mz3 := ⟨hE95,hA99.hold,hAz3.deq,hAz3.toks,hAz3.cap,hAz3.inv⟩
  refine ZlP 4 E91 (check_anyP w0 bp ([.blk b2 ([iv tk.kind,sv tk.text,iv tk.n,iv (tk.at')]) 49] ++ X) sz3 mz3 wz3 hA100) (fun x w' ⟨e,a,he,hx,hE⟩ => ⟨e,a,by have h9 : R3 = .error (e,a) := (by rw [← hRz3,he]; rfl); simp only [allS,hs9,hs19,hs37,hR0,hR1,hR2,andE_ok,hR3,h9,andE_error],hx,hE⟩) ?_
  rintro _ w101 ⟨s102,m103,hs104,rfl,hA105⟩
  have hE106 : Ext w0 w101 := hA105.ext
  have hM107 := hA105.hold
  have hp108 := hA105.inv.pos
  have ha109 := hA105.toks.addrE tokCells_len (by decide) hp108
  rw [hs104,andE_ok] at hRz3
  have hA110 : ParAt w0 w101 bp ([.blk b2 ([iv tk.kind,sv tk.text,iv tk.n,iv (tk.at')]) 49] ++ X) s102 m103 := ⟨hE106,hM107,hA105.deq,hA105.toks,hA105.cap,hA105.inv⟩
  exact ZA 2 (allL3 w0 bp b2 X tk R3) (sz3,mz3) (s102,m103) [0,2] (⟨hA110,hRz3⟩) (checkS_lt _ _ hs104)
 rw [manyS_step checkS_lt,if_neg hb3] at hRz3
 rw [← hRz3] at hR3
 have hA111 : ParAt w0 wz3 bp ([.blk b2 ([iv tk.kind,sv tk.text,iv tk.n,iv (tk.at')]) 49] ++ X) sz3 mz3 := ⟨hE95,hA99.hold,hAz3.deq,hAz3.toks,hAz3.cap,hAz3.inv⟩
 refine ZlP 4 E92 (take_any w0 bp ([.blk b2 ([iv tk.kind,sv tk.text,iv tk.n,iv (tk.at')]) 49] ++ X) sz3 mz3 4 wz3 hA111) (fun x w' ⟨e,a,he,hx,hE⟩ => ⟨e,a,by simp only [allS,hs9,hs19,hs37,hR0,hR1,hR2,hR3,he,andE_ok,andE_error],hx,hE⟩) ?_
 rintro _ w112 ⟨te,s113,m114,hs115,rfl,hA116⟩
 have hE117 : Ext w0 w112 := hA116.ext
 have hM118 := hA116.hold
 have hp119 := hA116.inv.pos
 have ha120 := hA116.toks.addrE tokCells_len (by decide) hp119
 refine Zs 2 [] [] trivial ?_
 refine ZB 12 (kAt Y63 (ro1 8 []) []) 12 (opsAt (cAt Y63 (ro1 7 [0]))) (fun w1 => Ext w1) ?_
 intro w121 hx122
 obtain ⟨hE123,hM124⟩ := Xt hE117 hM118 hx122
 refine dh [0,1,2,3,4,5,6,7,8,9,10,11] [.c 0 2,.c 0 4] 0 (lb 12 4095) hM124 (fun _ h => h) [] trivial [] (fun _ _ => trivial) (Ext.refl _) ?_
 refine ZD ?_
 refine Zq 0 ((s113.p.links.length:Int) < s113.p.k) (fun h9 => ?_) (fun h9 => ?_)
 ·refine Zh 2 [.a 5 0 4] hM124 trivial ?_
  refine ZlP 0 E93 (fail_any tk 42 w121) (fun x w' ⟨hx,hE⟩ => ⟨42,tk.at',by simp only [allS,hs9,hs19,hs37,hR0,hR1,hR2,hR3,hs115,andE_ok]; exact if_pos h9,hx,hE123.trans hE⟩) ?_
  rintro _ _ ⟨⟩
 exact ZeP 1 [] [] [] trivial (v := .tuple #[]) rfl (⟨s113,m114,by simp only [allS,hs9,hs19,hs37,hR0,hR1,hR2,hR3,hs115,andE_ok]; exact if_neg h9,rfl,⟨hE123,(hM124.pick 6 [0,1,2,3,4] (by kernel_rfl) (by kernel_rfl)),hA116.deq,hA116.toks,hA116.cap,hA116.inv⟩⟩)

end Go.Proofs.YtjhgghpeapmgdaaGreatDoor
/-
  LEX, PLAIN, FOURTH PART: what stands further on; what stands behind a line feed; words with blanks between. No program here.
-/
namespace Go.Bk

structure Word (p : Bytes) (t : Tok) : Prop where
 ne : p ≠ []
 blank : blankB (p.getD 0 0) = false
 hash : (p.getD 0 0).toNat ≠ 35
 text : t.text = p
 kind : t.kind ≠ 4
 first : ∀ r : Bytes,(r ≠ [] → partB (r.getD 0 0) = false) → firstT (p ++ r) = (t,true)
theorem part_notblank {c : UInt8} (h : partB c = true) : blankB c = false ∧ c.toNat ≠ 35 ∧ c.toNat ≠ 59 := by
 unfold partB letterB digitB at h
 simp only [Bool.or_eq_true,Bool.and_eq_true,decide_eq_true_eq] at h
 refine ⟨?_,by omega,by omega⟩
 unfold blankB
 simp only [Bool.or_eq_false_iff,decide_eq_false_iff_not]
 omega
theorem takeWhile_all {p : UInt8 → Bool} {l r : Bytes} (hl : ∀ c ∈ l,p c = true) (hr : r ≠ [] → p (r.getD 0 0) = false) : (l ++ r).takeWhile p = l := by
 induction l with
 | nil =>
  cases r with
  | nil => rfl
  | cons d r =>
   have := hr (by simp)
   simp at this
   simp [this]
 | cons c l ih =>
  rw [List.cons_append,List.takeWhile_cons,hl c (by simp)]
  simp only [if_true]
  rw [ih (fun d hd => hl d (by simp [hd]))]
theorem getD_app {p r : Bytes} (h : p ≠ []) : (p ++ r).getD 0 0 = p.getD 0 0 := by
 cases p with
 | nil => exact absurd rfl h
 | cons c p => rfl
theorem word_parts {p : Bytes} (hne : p ≠ []) (hp : ∀ c ∈ p,partB c = true) (hw : kwB p = true ∨ nameB p = true) : Word p ⟨1,p,0,0⟩ := by
 have hh := part_notblank (hp _ (getD_mem (List.length_pos_iff.2 hne)))
 refine ⟨hne,hh.1,hh.2.1,rfl,by simp,fun r hr => ?_⟩
 have ht := takeWhile_all hp hr
 have := firstT_word (l := p ++ r) (by simp [hne]) (by rw [getD_app hne]; exact hh.2.2) (by rw [ht]; exact hw)
 rw [this,ht]
theorem num_parts {p : Bytes} (hne : p ≠ []) (hp : ∀ c ∈ p,partB c = true) (hn : 0 ≤ numI p) : Word p ⟨2,p,numI p,0⟩ := by
 have hh := part_notblank (hp _ (getD_mem (List.length_pos_iff.2 hne)))
 refine ⟨hne,hh.1,hh.2.1,rfl,by simp,fun r hr => ?_⟩
 have ht := takeWhile_all hp hr
 have := firstT_num (l := p ++ r) (by simp [hne]) (by rw [getD_app hne]; exact hh.2.2) (by rw [ht]; exact hn)
 rw [this,ht]
theorem stop_word : Word [59] ⟨3,[59],0,0⟩ :=
 ⟨by simp,by decide,by decide,rfl,by simp,fun r _ => firstT_semi (by simp) (show (59 : UInt8).toNat = 59 by decide)⟩
theorem kw_all : kwList.all (fun p => !p.isEmpty && p.all partB && kwB p) = true := by decide +kernel
theorem digit_part {c : UInt8} (h : digitB c = true) : partB c = true := by
 unfold partB; rw [h]; simp
theorem name_parts {p : Bytes} (h : nameB p = true) : p ≠ [] ∧ ∀ c ∈ p,partB c = true := by
 obtain ⟨h1,_,_,h4,_⟩ := nameB_iff.1 h
 refine ⟨h1,?_⟩
 have e : p.takeWhile partB = p := by rw [← take_runLen,h4,List.take_length]
 intro c hc
 rw [← e] at hc
 exact List.all_eq_true.1 (List.all_takeWhile (p := partB) (l := p)) c hc
theorem lexR_word {p r : Bytes} {t : Tok} {a : Nat} (acc : List Tok) (W : Word p t) (hr : r ≠ [] → partB (r.getD 0 0) = false) :
  comb acc (lexR ((p ++ r).length + 1) (p ++ r) a) = comb (acc ++ [{ t with at' := ((a : Nat) : Int) }]) (lexR (r.length + 1) r (a + p.length)) := by
 have hs : skipL (p ++ r) = p ++ r := skipL_self (fun _ => by rw [getD_app W.ne]; exact W.blank) (fun _ => by rw [getD_app W.ne]; exact W.hash)
 have hf := W.first r hr
 rw [lexR_go acc (by rw [hs,hf]) (by rw [hs,hf]; exact W.kind),hs,hf,Nat.sub_self,Nat.add_zero]
 simp only [W.text,List.drop_left]
theorem blank_all : blankList.all (fun b => !b.isEmpty && !partB (b.getD 0 0)) = true := by decide +kernel
theorem blank_ok {b : Bytes} (h : b ∈ blankList) : b ≠ [] ∧ partB (b.getD 0 0) = false := by
 have := List.all_eq_true.1 blank_all b h
 simpa using this
theorem blank_skip {b : Bytes} (h : b ∈ blankList) (r : Bytes) : skipL (b ++ r) = skipL r := by
 have s1 : blankB 32 = true := by decide
 have s2 : blankB 9 = true := by decide
 have s3 : blankB 10 = true := by decide
 have hash1 : ∀ r : Bytes,skipL (35 :: 32 :: 120 :: 59 :: 10 :: r) = skipL r := by
  intro r
  rw [skipL_hash (by decide)]
  have : (35 :: 32 :: 120 :: 59 :: 10 :: r : Bytes).dropWhile notLineB = 10 :: r := by
   simp [show notLineB 35 = true by decide,show notLineB 32 = true by decide,show notLineB 120 = true by decide,show notLineB 59 = true by decide,show notLineB 10 = false by decide]
  rw [this,skipL_blank s3]
 have hash2 : ∀ r : Bytes,skipL (35 :: 10 :: r) = skipL r := by
  intro r
  rw [skipL_hash (by decide)]
  have : (35 :: 10 :: r : Bytes).dropWhile notLineB = 10 :: r := by
   simp [show notLineB 35 = true by decide,show notLineB 10 = false by decide]
  rw [this,skipL_blank s3]
 simp only [blankList,List.mem_cons,List.not_mem_nil,or_false] at h
 rcases h with rfl | rfl | rfl | rfl | rfl | rfl | rfl <;> simp only [List.cons_append,List.nil_append]
 ·rw [skipL_blank s1]
 ·rw [skipL_blank s1,skipL_blank s1]
 ·rw [skipL_blank s2]
 ·rw [skipL_blank s3]
 ·rw [skipL_blank s1,skipL_blank s3,skipL_blank s3]
 ·rw [skipL_blank s1,hash1]
 ·rw [skipL_blank s3,hash2,skipL_blank s2]
def Pre (s : Bytes) (want : List Tok) : Prop := ∀ r : Bytes,comb [] (lexR ((s ++ r).length + 1) (s ++ r) 0) = comb want (lexR (r.length + 1) r s.length)
theorem Pre.nil : Pre [] [] := fun r => rfl
theorem lexR_blank {b r : Bytes} (h : b ∈ blankList) (a : Nat) : lexR ((b ++ r).length + 1) (b ++ r) a = lexR (r.length + 1) r (a + b.length) :=
 lexR_skip (blank_skip h r) (by simp) (by simp) (by omega) (by omega)
theorem Pre.step {s p b : Bytes} {want : List Tok} {t : Tok} (h : Pre s want) (W : Word p t) (hb : b ∈ blankList) : Pre (s ++ p ++ b) (want ++ [{ t with at' := ((s.length : Nat) : Int) }]) := by
 intro r
 have h1 := h (p ++ (b ++ r))
 have ok := blank_ok hb
 rw [lexR_word want W (fun _ => by rw [getD_app ok.1]; exact ok.2),lexR_blank hb] at h1
 rw [show s ++ p ++ b ++ r = s ++ (p ++ (b ++ r)) by simp,h1]
 congr 2
 simp only [List.length_append]
theorem Pre.lex {s : Bytes} {want : List Tok} (h : Pre s want) (hl : s.length ≤ 10000) : lexT s = (want ++ [⟨4,[],0,((s.length : Nat) : Int)⟩],0,0) := by
 have h1 := h []
 rw [List.append_nil] at h1
 unfold lexT
 rw [if_neg (by omega),← comb_nil (lexR_form (s.length + 1) s 0),h1]
 rfl
def Bad (s : Bytes) (place : Nat) : Prop := ∀ r : Bytes,comb [] (lexR ((s ++ r).length + 1) (s ++ r) 0) = ([],21,((place : Nat) : Int))
structure Wrong (p : Bytes) : Prop where
 ne : p ≠ []
 blank : blankB (p.getD 0 0) = false
 hash : (p.getD 0 0).toNat ≠ 35
 len : p.length ≤ 13
 first : ∀ r : Bytes,(r ≠ [] → partB (r.getD 0 0) = false) → (firstT (p ++ r)).2 = false
theorem Bad.step {s : Bytes} {k : Nat} (h : Bad s k) (q : Bytes) : Bad (s ++ q) k := by
 intro r
 rw [show s ++ q ++ r = s ++ (q ++ r) by simp]
 exact h (q ++ r)
theorem Bad.lex {s : Bytes} {k : Nat} (h : Bad s k) (hl : s.length ≤ 10000) : lexT s = ([],21,((k : Nat) : Int)) := by
 have h1 := h []
 rw [List.append_nil] at h1
 unfold lexT
 rw [if_neg (by omega),← comb_nil (lexR_form (s.length + 1) s 0),h1]
theorem tokGet {α : Type} {d : α} {xs : List α} {i : Nat} (h : i < xs.length) : xs.getD i d ∈ xs := by
 rw [List.getD_eq_getElem?_getD,List.getElem?_eq_getElem h]
 exact List.getElem_mem _
theorem appGetL {α : Type} {d : α} {xs ys : List α} {i : Nat} (h : i < xs.length) : (xs ++ ys).getD i d = xs.getD i d := by
 rw [List.getD_eq_getElem?_getD,List.getD_eq_getElem?_getD,List.getElem?_append_left h]
end Go.Bk
/-
  PARSE, PLAIN: what is scanned has an end, and short texts. No program here.
-/
namespace Go.Bk
open Go

theorem lexR_fin : ∀ (f : Nat) (r : Bytes) (a : Nat),(lexR f r a).2.1 = 0 → ∃ t ∈ (lexR f r a).1,t.kind = 4
 | 0,_,_,h => by cases h
 | f + 1,r,a,h => by
  simp only [lexR] at h ⊢
  split at h
  ·cases h
  ·rename_i h1
   rw [if_neg h1]
   split at h
   ·rename_i h2
    rw [if_pos h2]
    exact ⟨_,List.mem_singleton.2 rfl,h2⟩
   ·rename_i h2
    rw [if_neg h2]
    split at h
    ·rename_i h3
     rw [if_pos h3]
     obtain ⟨t,ht,hk⟩ := lexR_fin f _ _ h3
     exact ⟨t,List.mem_cons_of_mem _ ht,hk⟩
    ·rename_i h3
     exact absurd h h3
theorem lexR_txt : ∀ (f : Nat) (r : Bytes) (a : Nat),∀ t ∈ (lexR f r a).1,t.text.length ≤ r.length
 | 0,r,a,t,h => by simp [lexR] at h
 | f + 1,r,a,t,h => by
  have hs := skipL_le r
  have ht := firstT_text (l := skipL r)
  simp only [lexR] at h
  split at h
  ·simp at h
  ·split at h
   ·simp only [List.mem_singleton] at h
    subst h
    simp only
    omega
   ·split at h
    ·rcases List.mem_cons.1 h with h | h
     ·subst h
      simp only
      omega
     ·have := lexR_txt f _ _ t h
      rw [List.length_drop] at this
      omega
    ·simp at h
theorem lexT_in {l : Bytes} (h : (lexT l).2.1 = 0) : PIn ⟨noPlan,(lexT l).1⟩ := by
 refine ⟨?_,lexT_len l,fun t ht => ?_,Nat.zero_le _,Nat.zero_le _,Nat.zero_le _,Nat.zero_le _,fun x hx => by simp [namesL,noPlan] at hx,fun d hd => by simp [noPlan] at hd⟩
 ·unfold lexT at h ⊢
  split at h
  ·cases h
  ·rename_i hn
   simp only [if_neg hn]
   exact lexR_fin _ _ _ h
 ·unfold lexT at ht
  simp only at ht
  split at ht
  ·simp at ht
  ·have := lexR_txt _ _ _ t ht
   omega
end Go.Bk
