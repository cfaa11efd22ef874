/-
  PARSE: contracts of known, fresh, protocol, failures, node.
-/
import Derived.Test.YtjhgghpeapmgdaaGreatDoorMg3
import Derived.Test.YtjhgghpeapmgdaaGreatDoorPlanE
import Derived.Test.YtjhgghpeapmgdaaGreatDoorLz
import Derived.Test.YtjhgghpeapmgdaaGreatDoorMg2
namespace Go.Proofs.YtjhgghpeapmgdaaGreatDoor
open Go.Bk Go.Proofs

theorem nodeIx_any (p : PPlan) (q : PAd) (l : Bytes) (w : World) (hP : PlanAt w p q) : Does Tryz.prog 21 [(pv p q),.string (bs l)] w fun v w' => v = .int .i64 (nodeIx p l) ∧ Ext w w' := Node_any p q l w hP
theorem destIx_any (p : PPlan) (q : PAd) (l : Bytes) (w : World) (hP : PlanAt w p q) : Does Tryz.prog 23 [(pv p q),.string (bs l)] w fun v w' => v = .int .i64 (destIx p l) ∧ Ext w w' := Dest_any p q l w hP

set_option maxRecDepth 20000 in
theorem known_any (w0 : World) (bp : Nat) (X : List Res) (s : PSt) (m : PM) (F : FuncId) (fd : PPlan → Bytes → Int) (w : World) (hA : ParAt w0 w bp X s m) (hEF : Enters Tryz.prog F) (hF : ∀ (p : PPlan) (q : PAd) (l : Bytes) (w : World),PlanAt w p q → Does Tryz.prog F [(pv p q),.string (bs l)] w fun v w' => v = .int .i64 (fd p l) ∧ Ext w w') :
    DoesP Tryz.prog 116 [pt bp 0,.func (.func F) #[] #[]] w (fun v w' => ∃ r t s' m',knownS fd s = .ok ((r,t),s') ∧ v = .tuple #[.int .i64 r,.agg #[.int .i64 t.kind,.string (bs t.text),.int .i64 t.n,.int .i64 t.at']] ∧ ParAt w0 w' bp X s' m') (PanP (knownS fd s) w0) := by
 refine startZP (c := Y116) Tryz.func116 rfl (by kernel_rfl) ?_
 show H _ 24 [] _ (kAt Y116 [] []) (stz [(0,pt bp 0),(1,.func (.func F) #[] #[])]) w
 have hE1 : Ext w0 w := hA.ext
 have hM2 := hA.hold
 have hp3 := hA.inv.pos
 have ha4 := hA.toks.addrE tokCells_len (by decide) hp3
 refine Za 3 49 [iv 0,sv ([]),iv 0,iv 0] hE1 hM2 ?_
 intro b5 w5 hE7 hM8
 have hA9 : ParAt w0 w5 bp ([.blk b5 ([iv 0,sv ([]),iv 0,iv 0]) 49] ++ X) s m := ⟨hE7,(hM8.pick 6 [1,2,3,4,5,0] (by kernel_rfl) (by kernel_rfl)),hA.deq,hA.toks,hA.cap,hA.inv⟩
 refine ZlP 4 E92 (take_any w0 bp ([.blk b5 ([iv 0,sv ([]),iv 0,iv 0]) 49] ++ X) s m 1 w5 hA9) (fun x w' ⟨e,a,he,hx,hE⟩ => ⟨e,a,by simp only [knownS,he,andE_error],hx,hE⟩) ?_
 rintro _ w10 ⟨t,s11,m12,hs13,rfl,hA14⟩
 have hE15 : Ext w0 w10 := hA14.ext
 have hM16 := hA14.hold
 have hp17 := hA14.inv.pos
 have ha18 := hA14.toks.addrE tokCells_len (by decide) hp17
 refine Za 0 49 [iv 0,sv ([]),iv 0,iv 0] hE15 hM16 ?_
 intro b6 w19 hE21 hM22
 refine Zt 0 0 0 (vT t) rfl hE21 hM22 ?_
 intro w23 hE25 hM26
 refine Zs 2 [] [] trivial ?_
 refine ZB 9 (kAt Y116 [1,1,1] []) 2 (opsAt (cAt Y116 [1,1,0])) (fun w1 => Ext w1) ?_
 intro w27 hx28
 obtain ⟨hE29,hM30⟩ := Xt hE25 hM26 hx28
 refine dh [0,1,2,3,4,5,6] [.a 1 0 7,.c 0 1] 2 (lb 9 127) hM30 (fun _ h => h) [] trivial [] (fun _ _ => trivial) (Ext.refl _) ?_
 have hA31 : ParAt w0 w27 bp ([.blk b6 ([iv t.kind,sv t.text,iv t.n,iv (t.at')]) 49,.blk b5 ([iv 0,sv ([]),iv 0,iv 0]) 49] ++ X) s11 m12 := ⟨hE29,(hM30.pick 7 [1,2,3,4,5,0,6] (by kernel_rfl) (by kernel_rfl)),hA14.deq,hA14.toks,hA14.cap,hA14.inv⟩
 refine d1 7 ?_
 refine Wo [] (.call F [(pv s11.p m12.q),sv t.text]) [] trivial (runs_call hEF (hF _ _ t.text w27 hA31.plan)) ?_
 rintro _ w32 ⟨rfl,hx1⟩
 obtain ⟨hE33,hM34⟩ := Xt hE29 hA31.hold hx1
 refine ⟨hx1,?_⟩
 refine dMore (Ext w32) (fun w' h => Ext.trans hx1 h) ?_
 refine dx0 [8] [] 0 (lb 9 511) (Ext.refl _) ?_
 refine ZD ?_
 refine Zq 6 ((fd s11.p t.text : Int) < (0 : Int)) (fun h1 => ?_) (fun h1 => ?_)
 ·refine Zh 2 [.a 5 0 4] hM34 trivial ?_
  refine ZlP 0 E93 (fail_any t 41 w32) (fun x w' ⟨hx,hE⟩ => ⟨41,t.at',by simp only [knownS,hs13,andE_ok,if_pos h1],hx,hE33.trans hE⟩) ?_
  rintro _ _ ⟨⟩
 refine Zs 2 [] [] trivial ?_
 refine ZB 4 (kAt Y116 (ro1 5 []) []) 5 (opsAt (cAt Y116 (ro1 4 [0]))) (fun _ _ => True) ?_
 intro w35 hx36
 obtain ⟨hE37,hM38⟩ := Xt hE33 hM34 hx36
 refine dx0 [0,2] [] 2 (lb 4 5) (trivial) ?_
 refine d1 1 ?_
 refine Wo [] (.load 49 (pt b6 0)) [] trivial (runs_load (v := (vT t)) (ps := [cl w35 b6 0 (iv t.kind),cl w35 b6 1 (sv t.text),cl w35 b6 2 (iv t.n),cl w35 b6 3 (iv (t.at'))]) (by kernel_rfl) (AC (cell_of (hM38.blk 5 rfl) rfl) (AC (cell_of (hM38.blk 5 rfl) rfl) (AC (cell_of (hM38.blk 5 rfl) rfl) (A1 (cell_of (hM38.blk 5 rfl) rfl)))))) ?_
 rintro _ _ ⟨rfl,rfl⟩
 refine ⟨trivial,?_⟩
 refine d1 3 ?_
 refine Wt 6 0 (vT t) rfl hE37 hM38 ?_
 intro w39 hE41 hM42
 refine ⟨trivial,?_⟩
 refine ZD ?_
 have hb43 := (hM42.blk 6 rfl)
 exact ZeP 0 [(vT t)] [iv (fd s11.p t.text),(vT t)] [w39.cell? ⟨b5,0,none⟩ = some (iv t.kind),w39.cell? ⟨b5,1,none⟩ = some (sv t.text),w39.cell? ⟨b5,2,none⟩ = some (iv t.n),w39.cell? ⟨b5,3,none⟩ = some (iv (t.at'))] (AC (cell_of hb43 rfl) (AC (cell_of hb43 rfl) (AC (cell_of hb43 rfl) (A1 (cell_of hb43 rfl))))) (v := .tuple #[iv (fd s11.p t.text),(vT t)]) rfl (⟨fd s11.p t.text,t,s11,m12,by simp only [knownS,hs13,andE_ok,if_neg h1],rfl,⟨hE41,(hM42.pick 7 [0,1,2,3,4] (by kernel_rfl) (by kernel_rfl)),hA14.deq,hA14.toks,hA14.cap,hA14.inv⟩⟩)

set_option maxRecDepth 20000 in
theorem aNode_any (w0 : World) (bp : Nat) (X : List Res) (s : PSt) (m : PM) (w : World) (hA : ParAt w0 w bp X s m) :
    DoesP Tryz.prog 115 [pt bp 0] w (fun v w' => ∃ r s' m',aNodeS s = .ok (r,s') ∧ v = .int .i64 r ∧ ParAt w0 w' bp X s' m') (PanP (aNodeS s) w0) := by
 refine startZP (c := Y115) Tryz.func115 rfl (by kernel_rfl) ?_
 show H _ 11 [] _ (kAt Y115 [] []) (stz [(0,pt bp 0)]) w
 have hE1 : Ext w0 w := hA.ext
 have hM2 := hA.hold
 have hp3 := hA.inv.pos
 have ha4 := hA.toks.addrE tokCells_len (by decide) hp3
 have hA5 : ParAt w0 w bp X s m := ⟨hE1,hM2,hA.deq,hA.toks,hA.cap,hA.inv⟩
 refine ZlP 7 E116 (known_any w0 bp X s m 21 nodeIx w hA5 E21 nodeIx_any) (fun x w' ⟨e,a,he,hx,hE⟩ => ⟨e,a,by simp only [aNodeS,he,andE_error],hx,hE⟩) ?_
 rintro _ w6 ⟨r,t,s7,m8,hs9,rfl,hA10⟩
 have hE11 : Ext w0 w6 := hA10.ext
 have hM12 := hA10.hold
 have hp13 := hA10.inv.pos
 have ha14 := hA10.toks.addrE tokCells_len (by decide) hp13
 refine Za 3 49 [iv 0,sv ([]),iv 0,iv 0] hE11 hM12 ?_
 intro b4 w15 hE17 hM18
 refine Zt 1 0 0 (vT t) rfl hE17 hM18 ?_
 intro w19 hE21 hM22
 exact ZeP 6 [] [iv r] [] trivial (v := iv r) rfl (⟨r,s7,m8,by simp only [aNodeS,hs9,andE_ok],rfl,⟨hE21,(hM22.pick 6 [1,2,3,4,5] (by kernel_rfl) (by kernel_rfl)),hA10.deq,hA10.toks,hA10.cap,hA10.inv⟩⟩)

set_option maxRecDepth 20000 in
theorem aDest_any (w0 : World) (bp : Nat) (X : List Res) (s : PSt) (m : PM) (w : World) (hA : ParAt w0 w bp X s m) :
    DoesP Tryz.prog 122 [pt bp 0] w (fun v w' => ∃ r s' m',aDestS s = .ok (r,s') ∧ v = .int .i64 r ∧ ParAt w0 w' bp X s' m') (PanP (aDestS s) w0) := by
 refine startZP (c := Y122) Tryz.func122 rfl (by kernel_rfl) ?_
 show H _ 11 [] _ (kAt Y122 [] []) (stz [(0,pt bp 0)]) w
 have hE1 : Ext w0 w := hA.ext
 have hM2 := hA.hold
 have hp3 := hA.inv.pos
 have ha4 := hA.toks.addrE tokCells_len (by decide) hp3
 have hA5 : ParAt w0 w bp X s m := ⟨hE1,hM2,hA.deq,hA.toks,hA.cap,hA.inv⟩
 refine ZlP 7 E116 (known_any w0 bp X s m 23 destIx w hA5 E23 destIx_any) (fun x w' ⟨e,a,he,hx,hE⟩ => ⟨e,a,by simp only [aDestS,he,andE_error],hx,hE⟩) ?_
 rintro _ w6 ⟨r,t,s7,m8,hs9,rfl,hA10⟩
 have hE11 : Ext w0 w6 := hA10.ext
 have hM12 := hA10.hold
 have hp13 := hA10.inv.pos
 have ha14 := hA10.toks.addrE tokCells_len (by decide) hp13
 refine Za 3 49 [iv 0,sv ([]),iv 0,iv 0] hE11 hM12 ?_
 intro b4 w15 hE17 hM18
 refine Zt 1 0 0 (vT t) rfl hE17 hM18 ?_
 intro w19 hE21 hM22
 exact ZeP 6 [] [iv r] [] trivial (v := iv r) rfl (⟨r,s7,m8,by simp only [aDestS,hs9,andE_ok],rfl,⟨hE21,(hM22.pick 6 [1,2,3,4,5] (by kernel_rfl) (by kernel_rfl)),hA10.deq,hA10.toks,hA10.cap,hA10.inv⟩⟩)

set_option maxRecDepth 20000 in
theorem aNode_anyK (w0 : World) (bp : Nat) (X : List Res) (s : PSt) (m : PM) (w : World) (hA : ParAt w0 w bp X s m) :
    DoesP Tryz.prog 115 [pt bp 0] w (fun v w' => ∃ r t s' m',knownS nodeIx s = .ok ((r,t),s') ∧ v = .int .i64 r ∧ ParAt w0 w' bp X s' m') (PanP (knownS nodeIx s) w0) := by
 refine startZP (c := Y115) Tryz.func115 rfl (by kernel_rfl) ?_
 show H _ 11 [] _ (kAt Y115 [] []) (stz [(0,pt bp 0)]) w
 have hE1 : Ext w0 w := hA.ext
 have hM2 := hA.hold
 have hp3 := hA.inv.pos
 have ha4 := hA.toks.addrE tokCells_len (by decide) hp3
 have hA5 : ParAt w0 w bp X s m := ⟨hE1,hM2,hA.deq,hA.toks,hA.cap,hA.inv⟩
 refine ZlP 7 E116 (known_any w0 bp X s m 21 nodeIx w hA5 E21 nodeIx_any) (fun x w' h => h) ?_
 rintro _ w6 ⟨r,t,s7,m8,hs9,rfl,hA10⟩
 have hE11 : Ext w0 w6 := hA10.ext
 have hM12 := hA10.hold
 have hp13 := hA10.inv.pos
 have ha14 := hA10.toks.addrE tokCells_len (by decide) hp13
 refine Za 3 49 [iv 0,sv ([]),iv 0,iv 0] hE11 hM12 ?_
 intro b4 w15 hE17 hM18
 refine Zt 1 0 0 (vT t) rfl hE17 hM18 ?_
 intro w19 hE21 hM22
 exact ZeP 6 [] [iv r] [] trivial (v := iv r) rfl (⟨r,t,s7,m8,hs9,rfl,⟨hE21,(hM22.pick 6 [1,2,3,4,5] (by kernel_rfl) (by kernel_rfl)),hA10.deq,hA10.toks,hA10.cap,hA10.inv⟩⟩)

set_option maxRecDepth 20000 in
theorem fresh_any (w0 : World) (bp : Nat) (X : List Res) (s : PSt) (m : PM) (w : World) (hA : ParAt w0 w bp X s m) :
    DoesP Tryz.prog 114 [pt bp 0] w (fun v w' => ∃ x s' m',freshS s = .ok (x,s') ∧ v = .string (bs x) ∧ ParAt w0 w' bp X s' m' ∧ x.length ≤ 10000) (PanP (freshS s) w0) := by
 refine startZP (c := Y114) Tryz.func114 rfl (by kernel_rfl) ?_
 show H _ 33 [] _ (kAt Y114 [] []) (stz [(0,pt bp 0)]) w
 have hE1 : Ext w0 w := hA.ext
 have hM2 := hA.hold
 have hp3 := hA.inv.pos
 have ha4 := hA.toks.addrE tokCells_len (by decide) hp3
 have hA5 : ParAt w0 w bp X s m := ⟨hE1,hM2,hA.deq,hA.toks,hA.cap,hA.inv⟩
 refine ZlP 7 E92 (take_any w0 bp X s m 1 w hA5) (fun x w' ⟨e,a,he,hx,hE⟩ => ⟨e,a,by simp only [freshS,he,andE_error],hx,hE⟩) ?_
 rintro _ w6 ⟨t,s7,m8,hs9,rfl,hA10⟩
 have hE11 : Ext w0 w6 := hA10.ext
 have hM12 := hA10.hold
 have hp13 := hA10.inv.pos
 have ha14 := hA10.toks.addrE tokCells_len (by decide) hp13
 have htx : t.text.length ≤ 10000 := (hA.inv.take hs9).2.2.2
 refine Za 0 49 [iv 0,sv ([]),iv 0,iv 0] hE11 hM12 ?_
 intro b3 w15 hE17 hM18
 refine Zt 0 0 0 (vT t) rfl hE17 hM18 ?_
 intro w19 hE21 hM22
 refine Zs 3 [] [] trivial ?_
 refine ZB 23 (kAt Y114 [1,1,0,1] []) 2 (opsAt (cAt Y114 [1,1,0,0])) (fun w1 => Ext w1) ?_
 intro w23 hx24
 obtain ⟨hE25,hM26⟩ := Xt hE21 hM22 hx24
 refine dh [0,1] [.c 0 1] 21 (lb 23 3) hM26 (fun _ h => h) [] trivial [] (fun _ _ => trivial) (Ext.refl _) ?_
 refine d1 2 ?_
 refine Wl E100 (Keyword_any t.text w23) ?_
 rintro _ w27 ⟨rfl,hxk⟩
 obtain ⟨hE28,hM29⟩ := Xt hE25 hM26 hxk
 by_cases h1 : (kwB t.text) = true
 ·refine ⟨hxk,?_⟩
  refine dMore (Ext w27) (fun w' h => Ext.trans hxk h) ?_
  refine dg [3,4,5,6,7,8,9,10,11,12,13,14,15,16,17,18,19,20,21,22] [.sg 0,.sg 0,.sg 0,.sg 0,.sg 0,.sg 0,.sg 0,.sg 0,.p (fun _ => (kwB t.text) = true),.st,.st,.st,.st,.st,.st,.st,.st,.g 1] 0 (lb 23 8388607) [(kwB t.text) = (!false),true = true] (AC h1 (A1 rfl)) [] (fun _ _ => (A1 h1)) (Ext.refl _) ?_
  refine ZD ?_
  refine Zh 3 [.xt,.a 0 0 4] hM29 trivial ?_
  refine ZlP 0 E93 (fail_any t 41 w27) (fun x w' ⟨hx,hE⟩ => ⟨41,t.at',by simp only [freshS,hs9,andE_ok]; exact if_pos (.inl h1),hx,hE28.trans hE⟩) ?_
  rintro _ _ ⟨⟩
 refine ⟨hxk,?_⟩
 refine dMore (Ext w27) (fun w' h => Ext.trans hxk h) ?_
 refine dh [3,4,5,6,7,8,9] [.xg 0,.xg 0,.xg 0,.xg 0,.a 1 0 7,.xg 0,.xg 0,.c 0 1] 13 (lb 23 1023) hM29 (fun _ h => h) [(kwB t.text) = false] (A1 (Bool.eq_false_iff.2 h1)) [] (fun _ _ => trivial) (Ext.refl _) ?_
 have hA30 : ParAt w0 w27 bp ([.blk b3 ([iv t.kind,sv t.text,iv t.n,iv (t.at')]) 49] ++ X) s7 m8 := ⟨hE28,(hM29.pick 6 [1,2,3,4,5,0] (by kernel_rfl) (by kernel_rfl)),hA10.deq,hA10.toks,hA10.cap,hA10.inv⟩
 refine d1 10 ?_
 refine Wo [.exec] _ [(kwB t.text) = false] (A1 (Bool.eq_false_iff.2 h1)) (runs_call E21 (nodeIx_any _ _ t.text w27 hA30.plan)) ?_
 rintro _ w31 ⟨rfl,hxn⟩
 obtain ⟨hE32,hM33⟩ := Xt hE28 hA30.hold hxn
 by_cases h2 : (0 : Int) ≤ nodeIx s7.p t.text
 ·refine ⟨hxn,?_⟩
  refine dMore (Ext w31) (fun w' h => Ext.trans hxn h) ?_
  have kf34 : ((kwB t.text) || (decide ((0 : Int) ≤ nodeIx s7.p t.text))) = true := by rw [show (kwB t.text) = false from Bool.eq_false_iff.2 h1,show (decide ((0 : Int) ≤ nodeIx s7.p t.text)) = true from decide_eq_true h2]; first | done | rfl
  refine dg [11,12,13,14,15,16,17,18,19,20,21,22] [.p (fun _ => (kwB t.text) = false),.xg 0,.sg 0,.sg 0,.sg 0,.sg 0,.sg 0,.sg 0,.sg 0,.p (fun _ => ((kwB t.text) || (decide ((0 : Int) ≤ nodeIx s7.p t.text))) = true),.s] 0 (lb 23 8388607) [((kwB t.text) || (decide ((0 : Int) ≤ nodeIx s7.p t.text))) = (!false)] (A1 kf34) [] (fun _ _ => (AC (Bool.eq_false_iff.2 h1) (A1 kf34))) (Ext.refl _) ?_
  refine ZD ?_
  refine Zh 3 [.xt,.a 5 0 4] hM33 trivial ?_
  refine ZlP 0 E93 (fail_any t 41 w31) (fun x w' ⟨hx,hE⟩ => ⟨41,t.at',by simp only [freshS,hs9,andE_ok]; exact if_pos (.inr (.inl h2)),hx,hE32.trans hE⟩) ?_
  rintro _ _ ⟨⟩
 refine ⟨hxn,?_⟩
 refine dMore (Ext w31) (fun w' h => Ext.trans hxn h) ?_
 have kf35 : ((kwB t.text) || (decide ((0 : Int) ≤ nodeIx s7.p t.text))) = false := by rw [show (kwB t.text) = false from Bool.eq_false_iff.2 h1,show (decide ((0 : Int) ≤ nodeIx s7.p t.text)) = false from decide_eq_false h2]; first | done | rfl
 refine dh [11,12,13,14,15,16,17,18,19] [.p (fun _ => (kwB t.text) = false),.xg 0,.xg 0,.xg 0,.xg 0,.x,.a 0 0 7,.xg 0,.xg 0,.c 5 1] 3 (lb 23 1048575) hM33 (fun _ h => h) [((kwB t.text) || (decide ((0 : Int) ≤ nodeIx s7.p t.text))) = false] (A1 kf35) [] (fun _ _ => (A1 (Bool.eq_false_iff.2 h1))) (Ext.refl _) ?_
 have hA36 : ParAt w0 w31 bp ([.blk b3 ([iv t.kind,sv t.text,iv t.n,iv (t.at')]) 49] ++ X) s7 m8 := ⟨hE32,hM33,hA10.deq,hA10.toks,hA10.cap,hA10.inv⟩
 refine d1 20 ?_
 refine Wo [.exec] _ [((kwB t.text) || (decide ((0 : Int) ≤ nodeIx s7.p t.text))) = false] (A1 kf35) (runs_call E23 (destIx_any _ _ t.text w31 hA36.plan)) ?_
 rintro _ w37 ⟨rfl,hxd⟩
 obtain ⟨hE38,hM39⟩ := Xt hE32 hA36.hold hxd
 by_cases h3 : (0 : Int) ≤ destIx s7.p t.text
 ·refine ⟨hxd,?_⟩
  refine dMore (Ext w37) (fun w' h => Ext.trans hxd h) ?_
  refine dx [21,22] [.exec] 0 (lb 23 8388607) (fun w' => [((kwB t.text) || (decide ((0 : Int) ≤ nodeIx s7.p t.text))) = false]) (fun w' hS => (A1 kf35)) (Ext.refl _) ?_
  refine ZD ?_
  have kf40 : (((kwB t.text) || (decide ((0 : Int) ≤ nodeIx s7.p t.text))) || (decide ((0 : Int) ≤ destIx s7.p t.text))) = true := by rw [show ((kwB t.text) || (decide ((0 : Int) ≤ nodeIx s7.p t.text))) = false from kf35,show (decide ((0 : Int) ≤ destIx s7.p t.text)) = true from decide_eq_true h3]; first | done | rfl
  refine Zh 3 [.p (fun _ => (((kwB t.text) || (decide ((0 : Int) ≤ nodeIx s7.p t.text))) || (decide ((0 : Int) ≤ destIx s7.p t.text))) = true),.x,.a 5 0 4] hM39 (A1 kf40) ?_
  refine ZlP 0 E93 (fail_any t 41 w37) (fun x w' ⟨hx,hE⟩ => ⟨41,t.at',by simp only [freshS,hs9,andE_ok]; exact if_pos (.inr (.inr h3)),hx,hE38.trans hE⟩) ?_
  rintro _ _ ⟨⟩
 refine ⟨hxd,?_⟩
 refine dMore (Ext w37) (fun w' h => Ext.trans hxd h) ?_
 refine dx [21,22] [.exec] 0 (lb 23 8388607) (fun w' => [((kwB t.text) || (decide ((0 : Int) ≤ nodeIx s7.p t.text))) = false]) (fun w' hS => (A1 kf35)) (Ext.refl _) ?_
 refine ZD ?_
 have kf41 : (((kwB t.text) || (decide ((0 : Int) ≤ nodeIx s7.p t.text))) || (decide ((0 : Int) ≤ destIx s7.p t.text))) = false := by rw [show ((kwB t.text) || (decide ((0 : Int) ≤ nodeIx s7.p t.text))) = false from kf35,show (decide ((0 : Int) ≤ destIx s7.p t.text)) = false from decide_eq_false h3]; first | done | rfl
 refine Zh 8 [.p (fun _ => (((kwB t.text) || (decide ((0 : Int) ≤ nodeIx s7.p t.text))) || (decide ((0 : Int) ≤ destIx s7.p t.text))) = false),.s,.c 5 1] hM39 (A1 kf41) ?_
 exact ZeP 0 [] [sv t.text] [] trivial (v := sv t.text) rfl (⟨t.text,s7,m8,by simp only [freshS,hs9,andE_ok]; exact if_neg (fun h => h.elim h1 fun h => h.elim h2 h3),rfl,⟨hE38,(hM39.pick 6 [0,1,2,3,4] (by kernel_rfl) (by kernel_rfl)),hA10.deq,hA10.toks,hA10.cap,hA10.inv⟩,htx⟩)

set_option maxRecDepth 20000 in
theorem protocol_any (w0 : World) (bp : Nat) (X : List Res) (s : PSt) (m : PM) (w : World) (hA : ParAt w0 w bp X s m) :
    DoesP Tryz.prog 85 [pt bp 0] w (fun v w' => ∃ s' m',protocolS s = .ok s' ∧ v = .tuple #[] ∧ ParAt w0 w' bp X s' m') (PanP (protocolS s) w0) := by
 refine startZP (c := Y85) Tryz.func85 rfl (by kernel_rfl) ?_
 show H _ 26 [] _ (kAt Y85 [] []) (stz [(0,pt bp 0)]) w
 have hE1 : Ext w0 w := hA.ext
 have hM2 := hA.hold
 have hp3 := hA.inv.pos
 have ha4 := hA.toks.addrE tokCells_len (by decide) hp3
 have hA6 : ParAt w0 w bp X s m := ⟨hE1,hM2,hA.deq,hA.toks,hA.cap,hA.inv⟩
 refine ZlP 3 E110 (word_any w0 bp X s m wdProtocol w hA6) (fun x w' ⟨e,a,he,hx,hE⟩ => ⟨e,a,by simp only [protocolS,he,andE_error],hx,hE⟩) ?_
 rintro _ w7 ⟨t5,s8,m9,hs10,rfl,hA11⟩
 have hE12 : Ext w0 w7 := hA11.ext
 have hM13 := hA11.hold
 have hp14 := hA11.inv.pos
 have ha15 := hA11.toks.addrE tokCells_len (by decide) hp14
 have hA16 : ParAt w0 w7 bp X s8 m9 := ⟨hE12,hM13,hA11.deq,hA11.toks,hA11.cap,hA11.inv⟩
 refine Zl 5 E88 (is_any w0 bp X s8 m9 wdPath w7 hA16) ?_
 rintro _ _ ⟨rfl,rfl⟩
 refine Zr 1 _ ((isS wdPath s8) = true) (Iff.rfl) (fun h1 => ?_) (fun h1 => ?_)
 ·have hA18 : ParAt w0 w7 bp X s8 m9 := ⟨hE12,hA16.hold,hA11.deq,hA11.toks,hA11.cap,hA11.inv⟩
  refine ZlP 3 E110 (word_any w0 bp X s8 m9 wdPath w7 hA18) (fun x w' ⟨e,a,he,hx,hE⟩ => ⟨e,a,by simp only [protocolS,hs10,if_pos h1,he,andE_ok,andE_error],hx,hE⟩) ?_
  rintro _ w19 ⟨t17,s20,m21,hs22,rfl,hA23⟩
  have hE24 : Ext w0 w19 := hA23.ext
  have hM25 := hA23.hold
  have hp26 := hA23.inv.pos
  have ha27 := hA23.toks.addrE tokCells_len (by decide) hp26
  have hA28 : ParAt w0 w19 bp X s20 m21 := ⟨hE24,hM25,hA23.deq,hA23.toks,hA23.cap,hA23.inv⟩
  refine ZlP 5 E111 (number_anyP w0 bp X s20 m21 1 12 w19 hA28) (fun x w' ⟨e,a,he,hx,hE⟩ => ⟨e,a,by simp only [protocolS,hs10,if_pos h1,hs22,he,andE_ok,andE_error],hx,hE⟩) ?_
  rintro _ w29 ⟨n,s30,m31,hs32,rfl,hA33⟩
  have hE34 : Ext w0 w29 := hA33.ext
  have hM35 := hA33.hold
  have hp36 := hA33.inv.pos
  have ha37 := hA33.toks.addrE tokCells_len (by decide) hp36
  refine Zt 3 0 0 (iv 2) rfl hE34 hM35 ?_
  intro w38 hE40 hM41
  refine Zt 3 0 1 (iv n) rfl hE40 hM41 ?_
  intro w42 hE44 hM45
  have hA46 : ParAt w0 w42 bp X (⟨{ s30.p with proto := 2,cap := n },s30.ts⟩ : PSt) m31 := ⟨hE44,hM45,hA33.deq,hA33.toks,hA33.cap,(hA33.inv.plan (p := { s30.p with proto := 2,cap := n }) rfl rfl rfl rfl)⟩
  refine ZlP 3 E112 (stop_any w0 bp X (⟨{ s30.p with proto := 2,cap := n },s30.ts⟩ : PSt) m31  w42 hA46) (fun x w' ⟨e,a,he,hx,hE⟩ => ⟨e,a,by simp only [protocolS,hs10,if_pos h1,hs22,hs32,he,andE_ok],hx,hE⟩) ?_
  rintro _ w47 ⟨s48,m49,hs50,rfl,hA51⟩
  have hE52 : Ext w0 w47 := hA51.ext
  have hM53 := hA51.hold
  have hp54 := hA51.inv.pos
  have ha55 := hA51.toks.addrE tokCells_len (by decide) hp54
  exact ZeP 1 [] [] [] trivial (v := .tuple #[]) rfl (⟨s48,m49,by simp only [protocolS,hs10,hs22,hs32,hs50,andE_ok,if_pos h1],rfl,⟨hE52,hM53,hA51.deq,hA51.toks,hA51.cap,hA51.inv⟩⟩)
 have hA57 : ParAt w0 w7 bp X s8 m9 := ⟨hE12,hA16.hold,hA11.deq,hA11.toks,hA11.cap,hA11.inv⟩
 refine ZlP 3 E110 (word_any w0 bp X s8 m9 wdVector w7 hA57) (fun x w' ⟨e,a,he,hx,hE⟩ => ⟨e,a,by simp only [protocolS,hs10,if_neg h1,he,andE_ok,andE_error],hx,hE⟩) ?_
 rintro _ w58 ⟨t56,s59,m60,hs61,rfl,hA62⟩
 have hE63 : Ext w0 w58 := hA62.ext
 have hM64 := hA62.hold
 have hp65 := hA62.inv.pos
 have ha66 := hA62.toks.addrE tokCells_len (by decide) hp65
 refine Zt 6 0 0 (iv 1) rfl hE63 hM64 ?_
 intro w67 hE69 hM70
 have hA71 : ParAt w0 w67 bp X (⟨{ s59.p with proto := 1 },s59.ts⟩ : PSt) m60 := ⟨hE69,hM70,hA62.deq,hA62.toks,hA62.cap,(hA62.inv.plan (p := { s59.p with proto := 1 }) rfl rfl rfl rfl)⟩
 refine ZlP 3 E112 (stop_any w0 bp X (⟨{ s59.p with proto := 1 },s59.ts⟩ : PSt) m60  w67 hA71) (fun x w' ⟨e,a,he,hx,hE⟩ => ⟨e,a,by simp only [protocolS,hs10,if_neg h1,hs61,he,andE_ok],hx,hE⟩) ?_
 rintro _ w72 ⟨s73,m74,hs75,rfl,hA76⟩
 have hE77 : Ext w0 w72 := hA76.ext
 have hM78 := hA76.hold
 have hp79 := hA76.inv.pos
 have ha80 := hA76.toks.addrE tokCells_len (by decide) hp79
 exact ZeP 1 [] [] [] trivial (v := .tuple #[]) rfl (⟨s73,m74,by simp only [protocolS,hs10,hs61,hs75,andE_ok,if_neg h1],rfl,⟨hE77,hM78,hA76.deq,hA76.toks,hA76.cap,hA76.inv⟩⟩)

set_option maxRecDepth 20000 in
theorem failures_any (w0 : World) (bp : Nat) (X : List Res) (s : PSt) (m : PM) (w : World) (hA : ParAt w0 w bp X s m) :
    DoesP Tryz.prog 86 [pt bp 0] w (fun v w' => ∃ t s' m',failuresS s = .ok (t,s') ∧ v = .agg #[.int .i64 t.kind,.string (bs t.text),.int .i64 t.n,.int .i64 t.at'] ∧ ParAt w0 w' bp X s' m') (PanP (failuresS s) w0) := by
 refine startZP (c := Y86) Tryz.func86 rfl (by kernel_rfl) ?_
 show H _ 21 [] _ (kAt Y86 [] []) (stz [(0,pt bp 0)]) w
 have hE1 : Ext w0 w := hA.ext
 have hM2 := hA.hold
 have hp3 := hA.inv.pos
 have ha4 := hA.toks.addrE tokCells_len (by decide) hp3
 refine Za 2 49 [iv 0,sv ([]),iv 0,iv 0] hE1 hM2 ?_
 intro b2 w5 hE7 hM8
 have hA10 : ParAt w0 w5 bp ([.blk b2 ([iv 0,sv ([]),iv 0,iv 0]) 49] ++ X) s m := ⟨hE7,(hM8.pick 6 [1,2,3,4,5,0] (by kernel_rfl) (by kernel_rfl)),hA.deq,hA.toks,hA.cap,hA.inv⟩
 refine ZlP 4 E110 (word_any w0 bp ([.blk b2 ([iv 0,sv ([]),iv 0,iv 0]) 49] ++ X) s m wdFailures w5 hA10) (fun x w' ⟨e,a,he,hx,hE⟩ => ⟨e,a,by simp only [failuresS,he,andE_error],hx,hE⟩) ?_
 rintro _ w11 ⟨t9,s12,m13,hs14,rfl,hA15⟩
 have hE16 : Ext w0 w11 := hA15.ext
 have hM17 := hA15.hold
 have hp18 := hA15.inv.pos
 have ha19 := hA15.toks.addrE tokCells_len (by decide) hp18
 refine Zh 9 [.c 0 7,.p (fun _ => (0 ≤ (0 : Int) ∧ (0 : Int) < (s12.ts.length:Int))),.p (fun _ => (m13.ta : Option Addr) = some ⟨(slB m13.ta),slO m13.ta,none⟩),.p (fun _ => w11.cell? ⟨(slB m13.ta),slO m13.ta + 0,none⟩ = some (iv s12.hd.kind)),.p (fun _ => w11.cell? ⟨(slB m13.ta),slO m13.ta + 0 + 1,none⟩ = some (sv s12.hd.text)),.p (fun _ => w11.cell? ⟨(slB m13.ta),slO m13.ta + 0 + 2,none⟩ = some (iv s12.hd.n)),.p (fun _ => w11.cell? ⟨(slB m13.ta),slO m13.ta + 0 + 3,none⟩ = some (iv (s12.hd.at'))),.v (vT s12.hd)] hM17 (AC (by omega) (AC (by assumption) (AC (hE16.cell (hd_cell hA15.toks hp18 0 rfl)) (AC (hE16.cell (hd_cell hA15.toks hp18 1 rfl)) (AC (hE16.cell (hd_cell hA15.toks hp18 2 rfl)) (A1 (hE16.cell (hd_cell hA15.toks hp18 3 rfl)))))))) ?_
 refine Za 0 49 [iv 0,sv ([]),iv 0,iv 0] hE16 hM17 ?_
 intro b3 w20 hE22 hM23
 refine Zt 0 0 0 (vT s12.hd) rfl hE22 hM23 ?_
 intro w24 hE26 hM27
 have hA28 : ParAt w0 w24 bp ([.blk b3 ([iv s12.hd.kind,sv s12.hd.text,iv s12.hd.n,iv (s12.hd.at')]) 49,.blk b2 ([iv 0,sv ([]),iv 0,iv 0]) 49] ++ X) s12 m13 := ⟨hE26,(hM27.pick 7 [1,2,3,4,5,0,6] (by kernel_rfl) (by kernel_rfl)),hA15.deq,hA15.toks,hA15.cap,hA15.inv⟩
 refine ZlP 5 E111 (number_anyP w0 bp ([.blk b3 ([iv s12.hd.kind,sv s12.hd.text,iv s12.hd.n,iv (s12.hd.at')]) 49,.blk b2 ([iv 0,sv ([]),iv 0,iv 0]) 49] ++ X) s12 m13 0 4 w24 hA28) (fun x w' ⟨e,a,he,hx,hE⟩ => ⟨e,a,by simp only [failuresS,hs14,he,andE_ok,andE_error],hx,hE⟩) ?_
 rintro _ w29 ⟨n,s30,m31,hs32,rfl,hA33⟩
 have hE34 : Ext w0 w29 := hA33.ext
 have hM35 := hA33.hold
 have hp36 := hA33.inv.pos
 have ha37 := hA33.toks.addrE tokCells_len (by decide) hp36
 refine Zt 3 0 2 (iv n) rfl hE34 hM35 ?_
 intro w38 hE40 hM41
 have hA42 : ParAt w0 w38 bp ([.blk b3 ([iv s12.hd.kind,sv s12.hd.text,iv s12.hd.n,iv (s12.hd.at')]) 49,.blk b2 ([iv 0,sv ([]),iv 0,iv 0]) 49] ++ X) (⟨{ s30.p with k := n },s30.ts⟩ : PSt) m31 := ⟨hE40,hM41,hA33.deq,hA33.toks,hA33.cap,(hA33.inv.plan (p := { s30.p with k := n }) rfl rfl rfl rfl)⟩
 refine ZlP 4 E112 (stop_any w0 bp ([.blk b3 ([iv s12.hd.kind,sv s12.hd.text,iv s12.hd.n,iv (s12.hd.at')]) 49,.blk b2 ([iv 0,sv ([]),iv 0,iv 0]) 49] ++ X) (⟨{ s30.p with k := n },s30.ts⟩ : PSt) m31  w38 hA42) (fun x w' ⟨e,a,he,hx,hE⟩ => ⟨e,a,by simp only [failuresS,hs14,hs32,he,andE_ok,andE_error],hx,hE⟩) ?_
 rintro _ w43 ⟨s44,m45,hs46,rfl,hA47⟩
 have hE48 : Ext w0 w43 := hA47.ext
 have hM49 := hA47.hold
 have hp50 := hA47.inv.pos
 have ha51 := hA47.toks.addrE tokCells_len (by decide) hp50
 refine Zh 4 [.a 5 0 4] hM49 trivial ?_
 refine Zt 0 6 0 (vT s12.hd) rfl hE48 hM49 ?_
 intro w52 hE54 hM55
 have hb56 := (hM55.blk 6 rfl)
 exact ZeP 1 [(vT s12.hd)] [(vT s12.hd)] [w52.cell? ⟨b2,0,none⟩ = some (iv s12.hd.kind),w52.cell? ⟨b2,1,none⟩ = some (sv s12.hd.text),w52.cell? ⟨b2,2,none⟩ = some (iv s12.hd.n),w52.cell? ⟨b2,3,none⟩ = some (iv (s12.hd.at'))] (AC (cell_of hb56 rfl) (AC (cell_of hb56 rfl) (AC (cell_of hb56 rfl) (A1 (cell_of hb56 rfl))))) (v := (vT s12.hd)) rfl (⟨s12.hd,s44,m45,by simp only [failuresS,hs14,hs32,hs46,andE_ok],rfl,⟨hE54,(hM55.pick 7 [0,1,2,3,4] (by kernel_rfl) (by kernel_rfl)),hA47.deq,hA47.toks,hA47.cap,hA47.inv⟩⟩)

set_option maxRecDepth 20000 in
theorem node_any (w0 : World) (bp : Nat) (X : List Res) (s : PSt) (m : PM) (w : World) (hA : ParAt w0 w bp X s m) :
    DoesP Tryz.prog 87 [pt bp 0] w (fun v w' => ∃ s' m',nodeS s = .ok s' ∧ v = .tuple #[] ∧ ParAt w0 w' bp X s' m') (PanP (nodeS s) w0) := by
 refine startZP (c := Y87) Tryz.func87 rfl (by kernel_rfl) ?_
 show H _ 31 [] _ (kAt Y87 [] []) (stz [(0,pt bp 0)]) w
 have hE1 : Ext w0 w := hA.ext
 have hM2 := hA.hold
 have hp3 := hA.inv.pos
 have ha4 := hA.toks.addrE tokCells_len (by decide) hp3
 have hnn := hA.inv.nn
 refine Zh 9 [.c 0 3] hM2 trivial ?_
 have hA5 : ParAt w0 w bp X s m := ⟨hE1,hM2,hA.deq,hA.toks,hA.cap,hA.inv⟩
 refine ZlP 0 E113 (head_any w0 bp X s m wdNode 12 (s.p.nodes.length : Int) w hA5) (fun x w' ⟨e,a,he,hx,hE⟩ => ⟨e,a,by simp only [nodeS,he,andE_error],hx,hE⟩) ?_
 rintro _ w6 ⟨s7,m8,hs9,rfl,hA10⟩
 have hE11 : Ext w0 w6 := hA10.ext
 have hM12 := hA10.hold
 have hp13 := hA10.inv.pos
 have ha14 := hA10.toks.addrE tokCells_len (by decide) hp13
 have hp1 : s7.p = s.p ∧ s.p.nodes.length < 12 := headS_plan hs9
 have hA15 : ParAt w0 w6 bp X s7 m8 := ⟨hE11,hM12,hA10.deq,hA10.toks,hA10.cap,hA10.inv⟩
 refine ZlP 4 E114 (fresh_any w0 bp X s7 m8 w6 hA15) (fun x w' ⟨e,a,he,hx,hE⟩ => ⟨e,a,by simp only [nodeS,hs9,he,andE_ok,andE_error],hx,hE⟩) ?_
 rintro _ w16 ⟨x,s17,m18,hs19,rfl,hA20,hxl⟩
 have hE21 : Ext w0 w16 := hA20.ext
 have hM22 := hA20.hold
 have hp23 := hA20.inv.pos
 have ha24 := hA20.toks.addrE tokCells_len (by decide) hp23
 refine Za 1 52 [sv ([]),iv 0] hE21 hM22 ?_
 intro b2 w25 hE27 hM28
 refine Zt 0 0 0 (.agg #[sv x,iv 0]) rfl hE27 hM28 ?_
 intro w29 hE31 hM32
 have hA33 : ParAt w0 w29 bp ([.blk b2 ([sv x,iv 0]) 52] ++ X) s17 m18 := ⟨hE31,(hM32.pick 6 [1,2,3,4,5,0] (by kernel_rfl) (by kernel_rfl)),hA20.deq,hA20.toks,hA20.cap,hA20.inv⟩
 refine ZlP 4 E111 (number_anyP w0 bp ([.blk b2 ([sv x,iv 0]) 52] ++ X) s17 m18 1 65535 w29 hA33) (fun x w' ⟨e,a,he,hx,hE⟩ => ⟨e,a,by simp only [nodeS,hs9,hs19,he,andE_ok,andE_error],hx,hE⟩) ?_
 rintro _ w34 ⟨n,s35,m36,hs37,rfl,hA38⟩
 have hE39 : Ext w0 w34 := hA38.ext
 have hM40 := hA38.hold
 have hp41 := hA38.inv.pos
 have ha42 := hA38.toks.addrE tokCells_len (by decide) hp41
 refine Zt 1 5 1 (iv n) rfl hE39 hM40 ?_
 intro w43 hE45 hM46
 have hA47 : ParAt w0 w43 bp ([.blk b2 ([sv x,iv n]) 52] ++ X) s35 m36 := ⟨hE45,hM46,hA38.deq,hA38.toks,hA38.cap,hA38.inv⟩
 refine ZlP 4 E112 (stop_any w0 bp ([.blk b2 ([sv x,iv n]) 52] ++ X) s35 m36  w43 hA47) (fun x w' ⟨e,a,he,hx,hE⟩ => ⟨e,a,by simp only [nodeS,hs9,hs19,hs37,he,andE_ok,andE_error],hx,hE⟩) ?_
 rintro _ w48 ⟨s49,m50,hs51,rfl,hA52⟩
 have hE53 : Ext w0 w48 := hA52.ext
 have hM54 := hA52.hold
 have hp55 := hA52.inv.pos
 have ha56 := hA52.toks.addrE tokCells_len (by decide) hp55
 have hp4 : s49.p.nodes.length < 12 := by rw [stopS_plan hs51,numberS_plan hs37,freshS_plan hs19,hp1.1]; exact hp1.2
 refine Zs 1 [] [] trivial ?_
 refine ZB 13 [] 4 (opsAt (cAt Y87 (ro1 4 []))) (fun _ w' => w'.heap[b2]? = some (.cells #[sv x,iv n] 52 (0,0))) ?_
 intro w57 hx58
 obtain ⟨hE59,hM60⟩ := Xt hE53 hM54 hx58
 refine dx [0,1,2,3,4,6] [.ld (.agg #[sv x,iv n])] 7 (lb 13 95) (fun w' => [cl w' b2 0 (sv x),cl w' b2 1 (iv n)]) (fun w' hS => (AC (cell_of hS rfl) (A1 (cell_of hS rfl)))) ((hM60.blk 5 rfl)) ?_
 refine dAll 5 [7] (by kernel_rfl) ?_
 refine ⟨?_,?_⟩
 ·refine Wo [] (.load 24 (pt bp 3)) [] trivial (runs_load (v := .slice m50.q.a1 s49.p.nodes.length m50.q.c1) (ps := [cl w57 bp 3 (.slice m50.q.a1 s49.p.nodes.length m50.q.c1)]) (by kernel_rfl) (A1 (cell_of (hM60.blk 0 rfl) rfl))) ?_
  rintro _ _ ⟨rfl,rfl⟩
  refine ⟨(hM60.blk 5 rfl),?_⟩
  refine d1 7 ?_
  refine Wd 1 [sv x,iv n] 52 hE59 hM60 ?_
  intro be w61 hx65 hE63 hM64
  refine ⟨(hM64.blk 6 rfl),?_⟩
  refine d1 8 ?_
  refine Wp 2 0 1 24 ((s49.p.nodes ++ [(⟨x,n⟩ : PNode)]).length) ((s49.p.nodes ++ [(⟨x,n⟩ : PNode)]).flatMap nodeC) rfl rfl ⟨by omega,by omega⟩ (fun _ _ h => by simpa [nodeC] using h) hE63 hM64 ?_
  intro av ac w66 hE67 hM68
  refine ⟨(hM68.blk 6 rfl),?_⟩
  refine dx0 [9,10,11] [] 1 (lb 13 4095) ((hM68.blk 6 rfl)) ?_
  refine d1 12 ?_
  refine Wt 1 3 (.slice av ((s49.p.nodes ++ [(⟨x,n⟩ : PNode)]).length) ac) rfl hE67 hM68 ?_
  intro w69 hE71 hM72
  refine ⟨(hM72.blk 6 rfl),?_⟩
  refine ZD ?_
  exact ZeP 0 [] [] [] trivial (v := .tuple #[]) rfl (⟨⟨addNode s49.p ⟨x,n⟩,s49.ts⟩,⟨{ m50.q with a1 := av,c1 := ac },m50.ta,m50.tc⟩,by simp only [nodeS,hs9,hs19,hs37,hs51,andE_ok],rfl,⟨hE71,(hM72.pick 7 [1,2,3,4,5] (by kernel_rfl) (by kernel_rfl)),hA52.deq,hA52.toks,hA52.cap,(hA52.inv.node hp4 hxl)⟩⟩)
 refine Wd 1 [sv x,iv n] 52 hE59 hM60 ?_
 intro be w73 hx77 hE75 hM76
 refine ⟨(hM76.blk 6 rfl),?_⟩
 refine d1 5 ?_
 refine Wo [] (.load 24 (pt bp 3)) [] trivial (runs_load (v := .slice m50.q.a1 s49.p.nodes.length m50.q.c1) (ps := [cl w73 bp 3 (.slice m50.q.a1 s49.p.nodes.length m50.q.c1)]) (by kernel_rfl) (A1 (cell_of (hM76.blk 1 rfl) rfl))) ?_
 rintro _ _ ⟨rfl,rfl⟩
 refine ⟨(hM76.blk 6 rfl),?_⟩
 refine d1 8 ?_
 refine Wp 2 0 1 24 ((s49.p.nodes ++ [(⟨x,n⟩ : PNode)]).length) ((s49.p.nodes ++ [(⟨x,n⟩ : PNode)]).flatMap nodeC) rfl rfl ⟨by omega,by omega⟩ (fun _ _ h => by simpa [nodeC] using h) hE75 hM76 ?_
 intro av ac w78 hE79 hM80
 refine ⟨(hM80.blk 6 rfl),?_⟩
 refine dx0 [9,10,11] [] 1 (lb 13 4095) ((hM80.blk 6 rfl)) ?_
 refine d1 12 ?_
 refine Wt 1 3 (.slice av ((s49.p.nodes ++ [(⟨x,n⟩ : PNode)]).length) ac) rfl hE79 hM80 ?_
 intro w81 hE83 hM84
 refine ⟨(hM84.blk 6 rfl),?_⟩
 refine ZD ?_
 exact ZeP 0 [] [] [] trivial (v := .tuple #[]) rfl (⟨⟨addNode s49.p ⟨x,n⟩,s49.ts⟩,⟨{ m50.q with a1 := av,c1 := ac },m50.ta,m50.tc⟩,by simp only [nodeS,hs9,hs19,hs37,hs51,andE_ok],rfl,⟨hE83,(hM84.pick 7 [1,2,3,4,5] (by kernel_rfl) (by kernel_rfl)),hA52.deq,hA52.toks,hA52.cap,(hA52.inv.node hp4 hxl)⟩⟩)

end Go.Proofs.YtjhgghpeapmgdaaGreatDoor
