/-
  PARSE: contracts of known, fresh, protocol, failures, node.
-/
import Derived.Test.YtjhgghpeapmgdaaGreatDoorParA
import Derived.Test.YtjhgghpeapmgdaaGreatDoorPlanE
import Derived.Test.YtjhgghpeapmgdaaGreatDoorMg2
namespace Go.Proofs.YtjhgghpeapmgdaaGreatDoor
open Go.Bk Go.Proofs

theorem nodeIx_any (p : PPlan) (q : PAd) (l : Bytes) (w : World) (hP : PlanAt w p q) : Does Tryz.prog 21 [(pv p q),.string (bs l)] w fun v w' => v = .int .i64 (nodeIx p l) ∧ Ext w w' := Node_any p q l w hP
theorem destIx_any (p : PPlan) (q : PAd) (l : Bytes) (w : World) (hP : PlanAt w p q) : Does Tryz.prog 23 [(pv p q),.string (bs l)] w fun v w' => v = .int .i64 (destIx p l) ∧ Ext w w' := Dest_any p q l w hP

set_option maxRecDepth 20000 in
theorem known_any (w0 : World) (bp : Nat) (X : List Res) (s : PSt) (m : PM) (F : FuncId) (fd : PPlan → Bytes → Int) (w : World) (hA : ParAt w0 w bp X s m) (hEF : Enters Tryz.prog F) (hF : ∀ (p : PPlan) (q : PAd) (l : Bytes) (w : World),PlanAt w p q → Does Tryz.prog F [(pv p q),.string (bs l)] w fun v w' => v = .int .i64 (fd p l) ∧ Ext w w') :
    DoesP Tryz.prog 116 [pt bp 0,.func (.func F) #[] #[]] w (fun v w' => ∃ r t s' m',knownS fd s = .ok ((r,t),s') ∧ v = .tuple #[.int .i64 r,.agg #[.int .i64 t.kind,.string (bs t.text),.int .i64 t.n,.int .i64 t.at']] ∧ ParAt w0 w' bp X s' m') (PanP (knownS fd s) w0) := by
 refine startP (c := Y116) Tryz.func116 rfl (by kernel_rfl) ?_
 show G _ 24 [] _ (kAt Y116 [] []) (stz [(0,pt bp 0),(1,.func (.func F) #[] #[])]) w
 have hE1 : Ext w0 w := hA.ext
 have hM2 := hA.hold
 have hp3 := hA.inv.pos
 have ha4 := hA.toks.addrE tokCells_len (by decide) hp3
 refine sg0 3 (kOp Y116 [0] 1 []) [(0,pt bp 0),(1,.func (.func F) #[] #[]),(4,iv 0)] ?_
 refine os0 (.alloc 49) (some 5) (kOp Y116 [0] 2 []) (runs_alloc (z := .agg #[iv 0,sv ([]),iv 0,iv 0]) (by kernel_rfl)) ?_
 rintro _ w5 ⟨b5,rfl,hN6⟩
 have hE7 := hE1.trans hN6.ext
 have hM8 := hM2.new hN6
 refine sg0 4 (kOp Y116 [1,0] 1 []) [(0,pt bp 0),(1,.func (.func F) #[] #[]),(4,iv 0),(5,pt b5 0),(8,pt bp 0)] ?_
 have hA9 : ParAt w0 w5 bp ([.blk b5 ([iv 0,sv ([]),iv 0,iv 0]) 49] ++ X) s m := ⟨hE7,(hM8.pick 6 [1,2,3,4,5,0] (by kernel_rfl) (by kernel_rfl)),hA.deq,hA.toks,hA.cap,hA.inv⟩
 refine ossP [] (.call 92 [pt bp 0,iv 1]) (some 9) (kOp Y116 [1,0] 2 []) [] trivial (runs_callP E92 (take_any w0 bp ([.blk b5 ([iv 0,sv ([]),iv 0,iv 0]) 49] ++ X) s m 1 w5 hA9)) (fun x w' ⟨e,a,he,hx,hE⟩ => ⟨e,a,by simp only [knownS,he,andE_error],hx,hE⟩) ?_
 rintro _ w10 ⟨t,s11,m12,hs13,rfl,hA14⟩
 have hE15 : Ext w0 w10 := hA14.ext
 have hM16 := hA14.hold
 have hp17 := hA14.inv.pos
 have ha18 := hA14.toks.addrE tokCells_len (by decide) hp17
 refine os0 (.alloc 49) (some 6) (kOp Y116 [1,0] 3 []) (runs_alloc (z := .agg #[iv 0,sv ([]),iv 0,iv 0]) (by kernel_rfl)) ?_
 rintro _ w19 ⟨b6,rfl,hN20⟩
 have hE21 := hE15.trans hN20.ext
 have hM22 := hM16.new hN20
 refine os0 (.store 49 (pt b6 0) (vT t)) none (kOp Y116 [1,0] 4 []) (runs_st (hM22.blk 0 rfl) (by kernel_rfl)) ?_
 rintro _ w23 hC24
 have hE25 := hM22.toExt hE21 hC24 0 rfl
 have hM26 := hM22.set 0 rfl hC24
 refine sg0 2 (kAt Y116 [1,1,0] []) [(0,pt bp 0),(1,.func (.func F) #[] #[]),(4,iv 0),(5,pt b5 0),(6,pt b6 0)] ?_
 refine dBegin (k' := (kAt Y116 [1,1,1] [])) (id := 2) (m := 9) (ops := opsAt (cAt Y116 [1,1,0])) (fun w1 => Ext w1) (by kernel_rfl) (PQ.body _ _ _) (by kernel_rfl) (by kernel_rfl) ?_
 intro w27 hx28
 have hE29 := hE25.trans hx28
 have hM30 := hM26.ext hx28
 refine dtz [0,1,2,3,4,5,6] [.ld (pv s11.p m12.q),.ld (sv t.text)] 2 (lb 9 127) [(4,iv 0),(5,pt b5 0),(6,pt b6 0),(10,.func (.func F) #[] #[]),(14,(pv s11.p m12.q)),(16,sv t.text)] (fun w' => [cl w' bp 0 (iv s11.p.proto),cl w' bp 1 (iv s11.p.cap),cl w' bp 2 (iv s11.p.k),cl w' bp 3 (.slice m12.q.a1 s11.p.nodes.length m12.q.c1),cl w' bp 4 (.slice m12.q.a2 s11.p.links.length m12.q.c2),cl w' bp 5 (.slice m12.q.a3 s11.p.dests.length m12.q.c3),cl w' bp 6 (.slice m12.q.a4 s11.p.checks.length m12.q.c4),cl w' b6 1 (sv t.text)]) (fun w' hS => (AC (hS.cell (cell_of (hM30.blk 1 rfl) rfl)) (AC (hS.cell (cell_of (hM30.blk 1 rfl) rfl)) (AC (hS.cell (cell_of (hM30.blk 1 rfl) rfl)) (AC (hS.cell (cell_of (hM30.blk 1 rfl) rfl)) (AC (hS.cell (cell_of (hM30.blk 1 rfl) rfl)) (AC (hS.cell (cell_of (hM30.blk 1 rfl) rfl)) (AC (hS.cell (cell_of (hM30.blk 1 rfl) rfl)) (A1 (hS.cell (cell_of (hM30.blk 0 rfl) rfl))))))))))) (Ext.refl _) ?_
 have hA31 : ParAt w0 w27 bp ([.blk b6 ([iv t.kind,sv t.text,iv t.n,iv (t.at')]) 49,.blk b5 ([iv 0,sv ([]),iv 0,iv 0]) 49] ++ X) s11 m12 := ⟨hE29,(hM30.pick 7 [1,2,3,4,5,0,6] (by kernel_rfl) (by kernel_rfl)),hA14.deq,hA14.toks,hA14.cap,hA14.inv⟩
 refine dAll 7 [] (by kernel_rfl) ?_
 refine dos [] (.call F [(pv s11.p m12.q),sv t.text]) (some 17) [] (lb 9 255) trivial (runs_call hEF (hF _ _ t.text w27 hA31.plan)) ?_
 rintro _ w32 ⟨rfl,hx1⟩
 have hE33 := hE29.trans hx1
 have hM34 := hA31.hold.ext hx1
 refine ⟨hx1,?_⟩
 refine dMore (Ext w32) (fun w' h => Ext.trans hx1 h) ?_
 refine dtz [8] [] 0 (lb 9 511) [(4,iv 0),(5,pt b5 0),(6,pt b6 0),(7,iv (fd s11.p t.text))] (fun w' => []) (fun w' hS => trivial) (Ext.refl _) ?_
 refine dDone (by kernel_rfl) ?_
 refine sg0 6 (kAt Y116 [1,1,1,0,1] []) [(4,iv 0),(5,pt b5 0),(6,pt b6 0),(7,iv (fd s11.p t.text)),(19,.bool (decide ((fd s11.p t.text : Int) < (0 : Int))))] ?_
 refine brd ((fd s11.p t.text : Int) < (0 : Int)) (fun h1 => ?_) (fun h1 => ?_)
 ·refine sgz 2 [.ld (vT t)] (kOp Y116 [1,1,1,0,1,0] 1 []) [(4,iv 0),(5,pt b5 0),(6,pt b6 0),(7,iv (fd s11.p t.text)),(20,(vT t))] [cl w32 b6 0 (iv t.kind),cl w32 b6 1 (sv t.text),cl w32 b6 2 (iv t.n),cl w32 b6 3 (iv (t.at'))] (AC (cell_of (hM34.blk 5 rfl) rfl) (AC (cell_of (hM34.blk 5 rfl) rfl) (AC (cell_of (hM34.blk 5 rfl) rfl) (A1 (cell_of (hM34.blk 5 rfl) rfl))))) ?_
  refine ossP [] (.call 93 [(vT t),iv 41]) (some 21) (kOp Y116 [1,1,1,0,1,0] 2 []) [] trivial (runs_callP E93 (fail_any t 41 w32)) (fun x w' ⟨hx,hE⟩ => ⟨41,t.at',by simp only [knownS,hs13,andE_ok,if_pos h1],hx,hE33.trans hE⟩) ?_
  rintro _ _ ⟨⟩
 refine sg0 2 (kAt Y116 (ro1 4 [0]) []) [(4,iv 0),(5,pt b5 0),(6,pt b6 0),(7,iv (fd s11.p t.text))] ?_
 refine dBegin (k' := (kAt Y116 (ro1 5 []) [])) (id := 5) (m := 4) (ops := opsAt (cAt Y116 (ro1 4 [0]))) (fun _ _ => True) (by kernel_rfl) (PQ.body _ _ _) (by kernel_rfl) (by kernel_rfl) ?_
 intro w35 hx36
 have hE37 := hE33.trans hx36
 have hM38 := hM34.ext hx36
 refine dtz [0,2] [] 2 (lb 4 5) [(4,iv (fd s11.p t.text)),(5,pt b5 0),(6,pt b6 0)] (fun w' => []) (fun w' hS => trivial) (trivial) ?_
 refine dAll 1 [] (by kernel_rfl) ?_
 refine dos [] (.load 49 (pt b6 0)) (some 23) [] (lb 4 7) trivial (runs_load (v := (vT t)) (ps := [cl w35 b6 0 (iv t.kind),cl w35 b6 1 (sv t.text),cl w35 b6 2 (iv t.n),cl w35 b6 3 (iv (t.at'))]) (by kernel_rfl) (AC (cell_of (hM38.blk 5 rfl) rfl) (AC (cell_of (hM38.blk 5 rfl) rfl) (AC (cell_of (hM38.blk 5 rfl) rfl) (A1 (cell_of (hM38.blk 5 rfl) rfl)))))) ?_
 rintro _ _ ⟨rfl,rfl⟩
 refine ⟨trivial,?_⟩
 refine dAll 3 [] (by kernel_rfl) ?_
 refine dos [] (.store 49 (pt b5 0) (vT t)) none [] (lb 4 15) trivial (runs_st (hM38.blk 6 rfl) (by kernel_rfl)) ?_
 rintro _ w39 hC40
 have hE41 := hM38.toExt hE37 hC40 6 rfl
 have hM42 := hM38.set 6 rfl hC40
 refine ⟨trivial,?_⟩
 refine dDone (by kernel_rfl) ?_
 have hb43 := (hM42.blk 6 rfl)
 exact retP (hs := [(vT t)]) (vs := [iv (fd s11.p t.text),(vT t)]) (ps := [w39.cell? ⟨b5,0,none⟩ = some (iv t.kind),w39.cell? ⟨b5,1,none⟩ = some (sv t.text),w39.cell? ⟨b5,2,none⟩ = some (iv t.n),w39.cell? ⟨b5,3,none⟩ = some (iv (t.at'))]) (by kernel_rfl) (AC (cell_of hb43 rfl) (AC (cell_of hb43 rfl) (AC (cell_of hb43 rfl) (A1 (cell_of hb43 rfl))))) (v := .tuple #[iv (fd s11.p t.text),(vT t)]) rfl (⟨fd s11.p t.text,t,s11,m12,by simp only [knownS,hs13,andE_ok,if_neg h1],rfl,⟨hE41,(hM42.pick 7 [0,1,2,3,4] (by kernel_rfl) (by kernel_rfl)),hA14.deq,hA14.toks,hA14.cap,hA14.inv⟩⟩)

set_option maxRecDepth 20000 in
theorem aNode_any (w0 : World) (bp : Nat) (X : List Res) (s : PSt) (m : PM) (w : World) (hA : ParAt w0 w bp X s m) :
    DoesP Tryz.prog 115 [pt bp 0] w (fun v w' => ∃ r s' m',aNodeS s = .ok (r,s') ∧ v = .int .i64 r ∧ ParAt w0 w' bp X s' m') (PanP (aNodeS s) w0) := by
 refine startP (c := Y115) Tryz.func115 rfl (by kernel_rfl) ?_
 show G _ 11 [] _ (kAt Y115 [] []) (stz [(0,pt bp 0)]) w
 have hE1 : Ext w0 w := hA.ext
 have hM2 := hA.hold
 have hp3 := hA.inv.pos
 have ha4 := hA.toks.addrE tokCells_len (by decide) hp3
 refine sg0 7 (kOp Y115 [1,0] 1 []) [(2,iv 0),(6,pt bp 0)] ?_
 have hA5 : ParAt w0 w bp X s m := ⟨hE1,hM2,hA.deq,hA.toks,hA.cap,hA.inv⟩
 refine ossP [] (.call 116 [pt bp 0,.func (.func 21) #[] #[]]) (some 7) (kOp Y115 [1,0] 2 []) [] trivial (runs_callP E116 (known_any w0 bp X s m 21 nodeIx w hA5 E21 nodeIx_any)) (fun x w' ⟨e,a,he,hx,hE⟩ => ⟨e,a,by simp only [aNodeS,he,andE_error],hx,hE⟩) ?_
 rintro _ w6 ⟨r,t,s7,m8,hs9,rfl,hA10⟩
 have hE11 : Ext w0 w6 := hA10.ext
 have hM12 := hA10.hold
 have hp13 := hA10.inv.pos
 have ha14 := hA10.toks.addrE tokCells_len (by decide) hp13
 refine sg0 3 (kOp Y115 [1,0] 5 []) [(2,iv 0),(8,iv r),(9,(vT t))] ?_
 refine os0 (.alloc 49) (some 4) (kOp Y115 [1,0] 6 []) (runs_alloc (z := .agg #[iv 0,sv ([]),iv 0,iv 0]) (by kernel_rfl)) ?_
 rintro _ w15 ⟨b4,rfl,hN16⟩
 have hE17 := hE11.trans hN16.ext
 have hM18 := hM12.new hN16
 refine sg0 1 (kOp Y115 [1,0] 7 []) [(2,iv 0),(3,iv r),(4,pt b4 0),(9,(vT t))] ?_
 refine os0 (.store 49 (pt b4 0) (vT t)) none (kOp Y115 [1,0] 8 []) (runs_st (hM18.blk 0 rfl) (by kernel_rfl)) ?_
 rintro _ w19 hC20
 have hE21 := hM18.toExt hE17 hC20 0 rfl
 have hM22 := hM18.set 0 rfl hC20
 refine sg0 6 (kAt Y115 [1,1,1] []) [(2,iv r)] ?_
 exact retP (hs := []) (vs := [iv r]) (ps := []) (by kernel_rfl) trivial (v := iv r) rfl (⟨r,s7,m8,by simp only [aNodeS,hs9,andE_ok],rfl,⟨hE21,(hM22.pick 6 [1,2,3,4,5] (by kernel_rfl) (by kernel_rfl)),hA10.deq,hA10.toks,hA10.cap,hA10.inv⟩⟩)

set_option maxRecDepth 20000 in
theorem aDest_any (w0 : World) (bp : Nat) (X : List Res) (s : PSt) (m : PM) (w : World) (hA : ParAt w0 w bp X s m) :
    DoesP Tryz.prog 122 [pt bp 0] w (fun v w' => ∃ r s' m',aDestS s = .ok (r,s') ∧ v = .int .i64 r ∧ ParAt w0 w' bp X s' m') (PanP (aDestS s) w0) := by
 refine startP (c := Y122) Tryz.func122 rfl (by kernel_rfl) ?_
 show G _ 11 [] _ (kAt Y122 [] []) (stz [(0,pt bp 0)]) w
 have hE1 : Ext w0 w := hA.ext
 have hM2 := hA.hold
 have hp3 := hA.inv.pos
 have ha4 := hA.toks.addrE tokCells_len (by decide) hp3
 refine sg0 7 (kOp Y122 [1,0] 1 []) [(2,iv 0),(6,pt bp 0)] ?_
 have hA5 : ParAt w0 w bp X s m := ⟨hE1,hM2,hA.deq,hA.toks,hA.cap,hA.inv⟩
 refine ossP [] (.call 116 [pt bp 0,.func (.func 23) #[] #[]]) (some 7) (kOp Y122 [1,0] 2 []) [] trivial (runs_callP E116 (known_any w0 bp X s m 23 destIx w hA5 E23 destIx_any)) (fun x w' ⟨e,a,he,hx,hE⟩ => ⟨e,a,by simp only [aDestS,he,andE_error],hx,hE⟩) ?_
 rintro _ w6 ⟨r,t,s7,m8,hs9,rfl,hA10⟩
 have hE11 : Ext w0 w6 := hA10.ext
 have hM12 := hA10.hold
 have hp13 := hA10.inv.pos
 have ha14 := hA10.toks.addrE tokCells_len (by decide) hp13
 refine sg0 3 (kOp Y122 [1,0] 5 []) [(2,iv 0),(8,iv r),(9,(vT t))] ?_
 refine os0 (.alloc 49) (some 4) (kOp Y122 [1,0] 6 []) (runs_alloc (z := .agg #[iv 0,sv ([]),iv 0,iv 0]) (by kernel_rfl)) ?_
 rintro _ w15 ⟨b4,rfl,hN16⟩
 have hE17 := hE11.trans hN16.ext
 have hM18 := hM12.new hN16
 refine sg0 1 (kOp Y122 [1,0] 7 []) [(2,iv 0),(3,iv r),(4,pt b4 0),(9,(vT t))] ?_
 refine os0 (.store 49 (pt b4 0) (vT t)) none (kOp Y122 [1,0] 8 []) (runs_st (hM18.blk 0 rfl) (by kernel_rfl)) ?_
 rintro _ w19 hC20
 have hE21 := hM18.toExt hE17 hC20 0 rfl
 have hM22 := hM18.set 0 rfl hC20
 refine sg0 6 (kAt Y122 [1,1,1] []) [(2,iv r)] ?_
 exact retP (hs := []) (vs := [iv r]) (ps := []) (by kernel_rfl) trivial (v := iv r) rfl (⟨r,s7,m8,by simp only [aDestS,hs9,andE_ok],rfl,⟨hE21,(hM22.pick 6 [1,2,3,4,5] (by kernel_rfl) (by kernel_rfl)),hA10.deq,hA10.toks,hA10.cap,hA10.inv⟩⟩)

set_option maxRecDepth 20000 in
theorem aNode_anyK (w0 : World) (bp : Nat) (X : List Res) (s : PSt) (m : PM) (w : World) (hA : ParAt w0 w bp X s m) :
    DoesP Tryz.prog 115 [pt bp 0] w (fun v w' => ∃ r t s' m',knownS nodeIx s = .ok ((r,t),s') ∧ v = .int .i64 r ∧ ParAt w0 w' bp X s' m') (PanP (knownS nodeIx s) w0) := by
 refine startP (c := Y115) Tryz.func115 rfl (by kernel_rfl) ?_
 show G _ 11 [] _ (kAt Y115 [] []) (stz [(0,pt bp 0)]) w
 have hE1 : Ext w0 w := hA.ext
 have hM2 := hA.hold
 have hp3 := hA.inv.pos
 have ha4 := hA.toks.addrE tokCells_len (by decide) hp3
 refine sg0 7 (kOp Y115 [1,0] 1 []) [(2,iv 0),(6,pt bp 0)] ?_
 have hA5 : ParAt w0 w bp X s m := ⟨hE1,hM2,hA.deq,hA.toks,hA.cap,hA.inv⟩
 refine ossP [] (.call 116 [pt bp 0,.func (.func 21) #[] #[]]) (some 7) (kOp Y115 [1,0] 2 []) [] trivial (runs_callP E116 (known_any w0 bp X s m 21 nodeIx w hA5 E21 nodeIx_any)) (fun x w' h => h) ?_
 rintro _ w6 ⟨r,t,s7,m8,hs9,rfl,hA10⟩
 have hE11 : Ext w0 w6 := hA10.ext
 have hM12 := hA10.hold
 have hp13 := hA10.inv.pos
 have ha14 := hA10.toks.addrE tokCells_len (by decide) hp13
 refine sg0 3 (kOp Y115 [1,0] 5 []) [(2,iv 0),(8,iv r),(9,(vT t))] ?_
 refine os0 (.alloc 49) (some 4) (kOp Y115 [1,0] 6 []) (runs_alloc (z := .agg #[iv 0,sv ([]),iv 0,iv 0]) (by kernel_rfl)) ?_
 rintro _ w15 ⟨b4,rfl,hN16⟩
 have hE17 := hE11.trans hN16.ext
 have hM18 := hM12.new hN16
 refine sg0 1 (kOp Y115 [1,0] 7 []) [(2,iv 0),(3,iv r),(4,pt b4 0),(9,(vT t))] ?_
 refine os0 (.store 49 (pt b4 0) (vT t)) none (kOp Y115 [1,0] 8 []) (runs_st (hM18.blk 0 rfl) (by kernel_rfl)) ?_
 rintro _ w19 hC20
 have hE21 := hM18.toExt hE17 hC20 0 rfl
 have hM22 := hM18.set 0 rfl hC20
 refine sg0 6 (kAt Y115 [1,1,1] []) [(2,iv r)] ?_
 exact retP (hs := []) (vs := [iv r]) (ps := []) (by kernel_rfl) trivial (v := iv r) rfl (⟨r,t,s7,m8,hs9,rfl,⟨hE21,(hM22.pick 6 [1,2,3,4,5] (by kernel_rfl) (by kernel_rfl)),hA10.deq,hA10.toks,hA10.cap,hA10.inv⟩⟩)

set_option maxRecDepth 20000 in
theorem fresh_any (w0 : World) (bp : Nat) (X : List Res) (s : PSt) (m : PM) (w : World) (hA : ParAt w0 w bp X s m) :
    DoesP Tryz.prog 114 [pt bp 0] w (fun v w' => ∃ x s' m',freshS s = .ok (x,s') ∧ v = .string (bs x) ∧ ParAt w0 w' bp X s' m' ∧ x.length ≤ 10000) (PanP (freshS s) w0) := by
 refine startP (c := Y114) Tryz.func114 rfl (by kernel_rfl) ?_
 show G _ 33 [] _ (kAt Y114 [] []) (stz [(0,pt bp 0)]) w
 have hE1 : Ext w0 w := hA.ext
 have hM2 := hA.hold
 have hp3 := hA.inv.pos
 have ha4 := hA.toks.addrE tokCells_len (by decide) hp3
 refine sg0 7 (kOp Y114 [1,0] 1 []) [(0,pt bp 0),(2,sv ([])),(4,pt bp 0)] ?_
 have hA5 : ParAt w0 w bp X s m := ⟨hE1,hM2,hA.deq,hA.toks,hA.cap,hA.inv⟩
 refine ossP [] (.call 92 [pt bp 0,iv 1]) (some 5) (kOp Y114 [1,0] 2 []) [] trivial (runs_callP E92 (take_any w0 bp X s m 1 w hA5)) (fun x w' ⟨e,a,he,hx,hE⟩ => ⟨e,a,by simp only [freshS,he,andE_error],hx,hE⟩) ?_
 rintro _ w6 ⟨t,s7,m8,hs9,rfl,hA10⟩
 have hE11 : Ext w0 w6 := hA10.ext
 have hM12 := hA10.hold
 have hp13 := hA10.inv.pos
 have ha14 := hA10.toks.addrE tokCells_len (by decide) hp13
 have htx : t.text.length ≤ 10000 := (hA.inv.take hs9).2.2.2
 refine os0 (.alloc 49) (some 3) (kOp Y114 [1,0] 3 []) (runs_alloc (z := .agg #[iv 0,sv ([]),iv 0,iv 0]) (by kernel_rfl)) ?_
 rintro _ w15 ⟨b3,rfl,hN16⟩
 have hE17 := hE11.trans hN16.ext
 have hM18 := hM12.new hN16
 refine os0 (.store 49 (pt b3 0) (vT t)) none (kOp Y114 [1,0] 4 []) (runs_st (hM18.blk 0 rfl) (by kernel_rfl)) ?_
 rintro _ w19 hC20
 have hE21 := hM18.toExt hE17 hC20 0 rfl
 have hM22 := hM18.set 0 rfl hC20
 refine sg0 3 (kAt Y114 [1,1,0,0] []) [(0,pt bp 0),(2,sv ([])),(3,pt b3 0)] ?_
 refine dBegin (k' := (kAt Y114 [1,1,0,1] [])) (id := 2) (m := 23) (ops := opsAt (cAt Y114 [1,1,0,0])) (fun w1 => Ext w1) (by kernel_rfl) (PQ.body _ _ _) (by kernel_rfl) (by kernel_rfl) ?_
 intro w23 hx24
 have hE25 := hE21.trans hx24
 have hM26 := hM22.ext hx24
 refine dtz [0,1] [.ld (sv t.text)] 21 (lb 23 3) [(0,pt bp 0),(2,sv ([])),(3,pt b3 0),(7,sv t.text)] (fun w' => [cl w' b3 1 (sv t.text)]) (fun w' hS => (A1 (hS.cell (cell_of (hM26.blk 0 rfl) rfl)))) (Ext.refl _) ?_
 refine dAll 2 [] (by kernel_rfl) ?_
 refine dos [] (.call 100 [sv t.text]) (some 8) [] (lb 23 7) trivial (runs_call E100 (Keyword_any t.text w23)) ?_
 rintro _ w27 ⟨rfl,hxk⟩
 have hE28 := hE25.trans hxk
 have hM29 := hM26.ext hxk
 by_cases h1 : (kwB t.text) = true
 ·refine ⟨hxk,?_⟩
  refine dMore (Ext w27) (fun w' h => Ext.trans hxk h) ?_
  refine dtz [3,4,5,6,7,8,9,10,11,12,13,14,15,16,17,18,19,20,21,22] [.skip,.skip,.skip,.skip,.skip,.skip,.skip,.skip,.skip,.skip,.skip,.skip,.skip,.skip,.skip,.skip] 0 (lb 23 8388607) [(2,sv ([])),(3,pt b3 0),(28,.bool true)] (fun w' => [(kwB t.text) = (!false),(kwB t.text) = (!false),(kwB t.text) = (!false),(kwB t.text) = (!false),(kwB t.text) = (!false),(kwB t.text) = (!false),(kwB t.text) = (!false),(kwB t.text) = (!false),(kwB t.text) = true,true = (!false),true = (!false),true = (!false),true = (!false),true = (!false),true = (!false),true = (!false),true = (!false),true = true]) (fun w' hS => (AC h1 (AC h1 (AC h1 (AC h1 (AC h1 (AC h1 (AC h1 (AC h1 (AC h1 (AC rfl (AC rfl (AC rfl (AC rfl (AC rfl (AC rfl (AC rfl (AC rfl (A1 rfl))))))))))))))))))) (Ext.refl _) ?_
  refine dDone (by kernel_rfl) ?_
  refine sgz 3 [.exec,.ld (vT t)] (kOp Y114 [1,1,0,1,0] 1 []) [(2,sv ([])),(3,pt b3 0),(29,(vT t))] [true = true,cl w27 b3 0 (iv t.kind),cl w27 b3 1 (sv t.text),cl w27 b3 2 (iv t.n),cl w27 b3 3 (iv (t.at'))] (AC rfl (AC (cell_of (hM29.blk 0 rfl) rfl) (AC (cell_of (hM29.blk 0 rfl) rfl) (AC (cell_of (hM29.blk 0 rfl) rfl) (A1 (cell_of (hM29.blk 0 rfl) rfl)))))) ?_
  refine ossP [] (.call 93 [(vT t),iv 41]) (some 30) (kOp Y114 [1,1,0,1,0] 2 []) [] trivial (runs_callP E93 (fail_any t 41 w27)) (fun x w' ⟨hx,hE⟩ => ⟨41,t.at',by simp only [freshS,hs9,andE_ok]; exact if_pos (.inl h1),hx,hE28.trans hE⟩) ?_
  rintro _ _ ⟨⟩
 refine ⟨hxk,?_⟩
 refine dMore (Ext w27) (fun w' h => Ext.trans hxk h) ?_
 refine dtz [3,4,5,6,7,8,9] [.exec,.exec,.exec,.exec,.ld (pv s7.p m8.q),.exec,.exec,.ld (sv t.text)] 13 (lb 23 1023) [(0,pt bp 0),(2,sv ([])),(3,pt b3 0),(9,.bool (kwB t.text)),(13,(pv s7.p m8.q)),(15,sv t.text)] (fun w' => [(kwB t.text) = false,(kwB t.text) = false,(kwB t.text) = false,(kwB t.text) = false,cl w' bp 0 (iv s7.p.proto),cl w' bp 1 (iv s7.p.cap),cl w' bp 2 (iv s7.p.k),cl w' bp 3 (.slice m8.q.a1 s7.p.nodes.length m8.q.c1),cl w' bp 4 (.slice m8.q.a2 s7.p.links.length m8.q.c2),cl w' bp 5 (.slice m8.q.a3 s7.p.dests.length m8.q.c3),cl w' bp 6 (.slice m8.q.a4 s7.p.checks.length m8.q.c4),(kwB t.text) = false,(kwB t.text) = false,cl w' b3 1 (sv t.text)]) (fun w' hS => (AC (Bool.eq_false_iff.2 h1) (AC (Bool.eq_false_iff.2 h1) (AC (Bool.eq_false_iff.2 h1) (AC (Bool.eq_false_iff.2 h1) (AC (hS.cell (cell_of (hM29.blk 1 rfl) rfl)) (AC (hS.cell (cell_of (hM29.blk 1 rfl) rfl)) (AC (hS.cell (cell_of (hM29.blk 1 rfl) rfl)) (AC (hS.cell (cell_of (hM29.blk 1 rfl) rfl)) (AC (hS.cell (cell_of (hM29.blk 1 rfl) rfl)) (AC (hS.cell (cell_of (hM29.blk 1 rfl) rfl)) (AC (hS.cell (cell_of (hM29.blk 1 rfl) rfl)) (AC (Bool.eq_false_iff.2 h1) (AC (Bool.eq_false_iff.2 h1) (A1 (hS.cell (cell_of (hM29.blk 0 rfl) rfl))))))))))))))))) (Ext.refl _) ?_
 have hA30 : ParAt w0 w27 bp ([.blk b3 ([iv t.kind,sv t.text,iv t.n,iv (t.at')]) 49] ++ X) s7 m8 := ⟨hE28,(hM29.pick 6 [1,2,3,4,5,0] (by kernel_rfl) (by kernel_rfl)),hA10.deq,hA10.toks,hA10.cap,hA10.inv⟩
 refine dAll 10 [] (by kernel_rfl) ?_
 refine dos [.exec] (.call 21 [(pv s7.p m8.q),sv t.text]) (some 16) [(kwB t.text) = false] (lb 23 2047) (A1 (Bool.eq_false_iff.2 h1)) (runs_call E21 (nodeIx_any _ _ t.text w27 hA30.plan)) ?_
 rintro _ w31 ⟨rfl,hxn⟩
 have hE32 := hE28.trans hxn
 have hM33 := hA30.hold.ext hxn
 by_cases h2 : (0 : Int) ≤ nodeIx s7.p t.text
 ·refine ⟨hxn,?_⟩
  refine dMore (Ext w31) (fun w' h => Ext.trans hxn h) ?_
  have kf34 : ((kwB t.text) || (decide ((0 : Int) ≤ nodeIx s7.p t.text))) = true := by rw [show (kwB t.text) = false from Bool.eq_false_iff.2 h1,show (decide ((0 : Int) ≤ nodeIx s7.p t.text)) = true from decide_eq_true h2]; first | done | rfl
  refine dtz [11,12,13,14,15,16,17,18,19,20,21,22] [.exec,.skip,.skip,.skip,.skip,.skip,.skip,.skip,.skip] 0 (lb 23 8388607) [(2,sv ([])),(3,pt b3 0),(28,.bool true)] (fun w' => ((fun (z1 : Bool) => ([(kwB t.text) = false,z1 = (!false),z1 = (!false),z1 = (!false),z1 = (!false),z1 = (!false),z1 = (!false),z1 = (!false),z1 = (!false),z1 = true] : List Prop)) ((kwB t.text) || (decide ((0 : Int) ≤ nodeIx s7.p t.text))))) (fun w' hS => (AC (Bool.eq_false_iff.2 h1) (AC kf34 (AC kf34 (AC kf34 (AC kf34 (AC kf34 (AC kf34 (AC kf34 (AC kf34 (A1 kf34))))))))))) (Ext.refl _) ?_
  refine dDone (by kernel_rfl) ?_
  refine sgz 3 [.exec,.ld (vT t)] (kOp Y114 [1,1,0,1,0] 1 []) [(2,sv ([])),(3,pt b3 0),(29,(vT t))] [true = true,cl w31 b3 0 (iv t.kind),cl w31 b3 1 (sv t.text),cl w31 b3 2 (iv t.n),cl w31 b3 3 (iv (t.at'))] (AC rfl (AC (cell_of (hM33.blk 5 rfl) rfl) (AC (cell_of (hM33.blk 5 rfl) rfl) (AC (cell_of (hM33.blk 5 rfl) rfl) (A1 (cell_of (hM33.blk 5 rfl) rfl)))))) ?_
  refine ossP [] (.call 93 [(vT t),iv 41]) (some 30) (kOp Y114 [1,1,0,1,0] 2 []) [] trivial (runs_callP E93 (fail_any t 41 w31)) (fun x w' ⟨hx,hE⟩ => ⟨41,t.at',by simp only [freshS,hs9,andE_ok]; exact if_pos (.inr (.inl h2)),hx,hE32.trans hE⟩) ?_
  rintro _ _ ⟨⟩
 refine ⟨hxn,?_⟩
 refine dMore (Ext w31) (fun w' h => Ext.trans hxn h) ?_
 have kf35 : ((kwB t.text) || (decide ((0 : Int) ≤ nodeIx s7.p t.text))) = false := by rw [show (kwB t.text) = false from Bool.eq_false_iff.2 h1,show (decide ((0 : Int) ≤ nodeIx s7.p t.text)) = false from decide_eq_false h2]; first | done | rfl
 refine dtz [11,12,13,14,15,16,17,18,19] [.exec,.exec,.exec,.exec,.exec,.ld (pv s7.p m8.q),.exec,.exec,.ld (sv t.text)] 3 (lb 23 1048575) [(2,sv ([])),(3,pt b3 0),(19,.bool ((kwB t.text) || (decide ((0 : Int) ≤ nodeIx s7.p t.text)))),(23,(pv s7.p m8.q)),(25,sv t.text)] (fun w' => ((fun (z1 : Bool) => ([(kwB t.text) = false,z1 = false,z1 = false,z1 = false,z1 = false,cl w' bp 0 (iv s7.p.proto),cl w' bp 1 (iv s7.p.cap),cl w' bp 2 (iv s7.p.k),cl w' bp 3 (.slice m8.q.a1 s7.p.nodes.length m8.q.c1),cl w' bp 4 (.slice m8.q.a2 s7.p.links.length m8.q.c2),cl w' bp 5 (.slice m8.q.a3 s7.p.dests.length m8.q.c3),cl w' bp 6 (.slice m8.q.a4 s7.p.checks.length m8.q.c4),z1 = false,z1 = false,cl w' b3 1 (sv t.text)] : List Prop)) ((kwB t.text) || (decide ((0 : Int) ≤ nodeIx s7.p t.text))))) (fun w' hS => (AC (Bool.eq_false_iff.2 h1) (AC kf35 (AC kf35 (AC kf35 (AC kf35 (AC (hS.cell (cell_of (hM33.blk 0 rfl) rfl)) (AC (hS.cell (cell_of (hM33.blk 0 rfl) rfl)) (AC (hS.cell (cell_of (hM33.blk 0 rfl) rfl)) (AC (hS.cell (cell_of (hM33.blk 0 rfl) rfl)) (AC (hS.cell (cell_of (hM33.blk 0 rfl) rfl)) (AC (hS.cell (cell_of (hM33.blk 0 rfl) rfl)) (AC (hS.cell (cell_of (hM33.blk 0 rfl) rfl)) (AC kf35 (AC kf35 (A1 (hS.cell (cell_of (hM33.blk 5 rfl) rfl)))))))))))))))))) (Ext.refl _) ?_
 have hA36 : ParAt w0 w31 bp ([.blk b3 ([iv t.kind,sv t.text,iv t.n,iv (t.at')]) 49] ++ X) s7 m8 := ⟨hE32,hM33,hA10.deq,hA10.toks,hA10.cap,hA10.inv⟩
 refine dAll 20 [] (by kernel_rfl) ?_
 refine dos [.exec] (.call 23 [(pv s7.p m8.q),sv t.text]) (some 26) [((kwB t.text) || (decide ((0 : Int) ≤ nodeIx s7.p t.text))) = false] (lb 23 2097151) (A1 kf35) (runs_call E23 (destIx_any _ _ t.text w31 hA36.plan)) ?_
 rintro _ w37 ⟨rfl,hxd⟩
 have hE38 := hE32.trans hxd
 have hM39 := hA36.hold.ext hxd
 by_cases h3 : (0 : Int) ≤ destIx s7.p t.text
 ·refine ⟨hxd,?_⟩
  refine dMore (Ext w37) (fun w' h => Ext.trans hxd h) ?_
  refine dtz [21,22] [.exec] 0 (lb 23 8388607) [(2,sv ([])),(3,pt b3 0),(28,.bool (((kwB t.text) || (decide ((0 : Int) ≤ nodeIx s7.p t.text))) || (decide ((0 : Int) ≤ destIx s7.p t.text))))] (fun w' => [((kwB t.text) || (decide ((0 : Int) ≤ nodeIx s7.p t.text))) = false]) (fun w' hS => (A1 kf35)) (Ext.refl _) ?_
  refine dDone (by kernel_rfl) ?_
  have kf40 : (((kwB t.text) || (decide ((0 : Int) ≤ nodeIx s7.p t.text))) || (decide ((0 : Int) ≤ destIx s7.p t.text))) = true := by rw [show ((kwB t.text) || (decide ((0 : Int) ≤ nodeIx s7.p t.text))) = false from kf35,show (decide ((0 : Int) ≤ destIx s7.p t.text)) = true from decide_eq_true h3]; first | done | rfl
  refine sgz 3 [.exec,.ld (vT t)] (kOp Y114 [1,1,0,1,0] 1 []) [(2,sv ([])),(3,pt b3 0),(29,(vT t))] [(((kwB t.text) || (decide ((0 : Int) ≤ nodeIx s7.p t.text))) || (decide ((0 : Int) ≤ destIx s7.p t.text))) = true,cl w37 b3 0 (iv t.kind),cl w37 b3 1 (sv t.text),cl w37 b3 2 (iv t.n),cl w37 b3 3 (iv (t.at'))] (AC kf40 (AC (cell_of (hM39.blk 5 rfl) rfl) (AC (cell_of (hM39.blk 5 rfl) rfl) (AC (cell_of (hM39.blk 5 rfl) rfl) (A1 (cell_of (hM39.blk 5 rfl) rfl)))))) ?_
  refine ossP [] (.call 93 [(vT t),iv 41]) (some 30) (kOp Y114 [1,1,0,1,0] 2 []) [] trivial (runs_callP E93 (fail_any t 41 w37)) (fun x w' ⟨hx,hE⟩ => ⟨41,t.at',by simp only [freshS,hs9,andE_ok]; exact if_pos (.inr (.inr h3)),hx,hE38.trans hE⟩) ?_
  rintro _ _ ⟨⟩
 refine ⟨hxd,?_⟩
 refine dMore (Ext w37) (fun w' h => Ext.trans hxd h) ?_
 refine dtz [21,22] [.exec] 0 (lb 23 8388607) [(2,sv ([])),(3,pt b3 0),(28,.bool (((kwB t.text) || (decide ((0 : Int) ≤ nodeIx s7.p t.text))) || (decide ((0 : Int) ≤ destIx s7.p t.text))))] (fun w' => [((kwB t.text) || (decide ((0 : Int) ≤ nodeIx s7.p t.text))) = false]) (fun w' hS => (A1 kf35)) (Ext.refl _) ?_
 refine dDone (by kernel_rfl) ?_
 have kf41 : (((kwB t.text) || (decide ((0 : Int) ≤ nodeIx s7.p t.text))) || (decide ((0 : Int) ≤ destIx s7.p t.text))) = false := by rw [show ((kwB t.text) || (decide ((0 : Int) ≤ nodeIx s7.p t.text))) = false from kf35,show (decide ((0 : Int) ≤ destIx s7.p t.text)) = false from decide_eq_false h3]; first | done | rfl
 refine sgz 8 [.skip,.ld (sv t.text)] (kAt Y114 (ro1 4 []) []) [(2,sv t.text)] [(((kwB t.text) || (decide ((0 : Int) ≤ nodeIx s7.p t.text))) || (decide ((0 : Int) ≤ destIx s7.p t.text))) = false,cl w37 b3 1 (sv t.text)] (AC kf41 (A1 (cell_of (hM39.blk 5 rfl) rfl))) ?_
 exact retP (hs := []) (vs := [sv t.text]) (ps := []) (by kernel_rfl) trivial (v := sv t.text) rfl (⟨t.text,s7,m8,by simp only [freshS,hs9,andE_ok]; exact if_neg (fun h => h.elim h1 fun h => h.elim h2 h3),rfl,⟨hE38,(hM39.pick 6 [0,1,2,3,4] (by kernel_rfl) (by kernel_rfl)),hA10.deq,hA10.toks,hA10.cap,hA10.inv⟩,htx⟩)

set_option maxRecDepth 20000 in
theorem protocol_any (w0 : World) (bp : Nat) (X : List Res) (s : PSt) (m : PM) (w : World) (hA : ParAt w0 w bp X s m) :
    DoesP Tryz.prog 85 [pt bp 0] w (fun v w' => ∃ s' m',protocolS s = .ok s' ∧ v = .tuple #[] ∧ ParAt w0 w' bp X s' m') (PanP (protocolS s) w0) := by
 refine startP (c := Y85) Tryz.func85 rfl (by kernel_rfl) ?_
 show G _ 26 [] _ (kAt Y85 [] []) (stz [(0,pt bp 0)]) w
 have hE1 : Ext w0 w := hA.ext
 have hM2 := hA.hold
 have hp3 := hA.inv.pos
 have ha4 := hA.toks.addrE tokCells_len (by decide) hp3
 refine sg0 3 (kOp Y85 [0] 1 []) [(0,pt bp 0),(2,pt bp 0)] ?_
 have hA6 : ParAt w0 w bp X s m := ⟨hE1,hM2,hA.deq,hA.toks,hA.cap,hA.inv⟩
 refine ossP [] (.call 110 [pt bp 0,sv ([112,114,111,116,111,99,111,108])]) (some 3) (kOp Y85 [0] 2 []) [] trivial (runs_callP E110 (word_any w0 bp X s m wdProtocol w hA6)) (fun x w' ⟨e,a,he,hx,hE⟩ => ⟨e,a,by simp only [protocolS,he,andE_error],hx,hE⟩) ?_
 rintro _ w7 ⟨t5,s8,m9,hs10,rfl,hA11⟩
 have hE12 : Ext w0 w7 := hA11.ext
 have hM13 := hA11.hold
 have hp14 := hA11.inv.pos
 have ha15 := hA11.toks.addrE tokCells_len (by decide) hp14
 refine sg0 5 (kOp Y85 [1,0,0] 1 []) [(0,pt bp 0),(4,pt bp 0)] ?_
 have hA16 : ParAt w0 w7 bp X s8 m9 := ⟨hE12,hM13,hA11.deq,hA11.toks,hA11.cap,hA11.inv⟩
 refine os0 _ (some 5) (kOp Y85 [1,0,0] 2 []) (runs_call E88 (is_any w0 bp X s8 m9 wdPath w7 hA16)) ?_
 rintro _ _ ⟨rfl,rfl⟩
 refine sg0 1 (kAt Y85 [1,0,1] []) [(0,pt bp 0),(5,.bool (isS wdPath s8))] ?_
 refine brk _ ((isS wdPath s8) = true) (Iff.rfl) (fun h1 => ?_) (fun h1 => ?_)
 ·refine sg0 3 (kOp Y85 [1,0,1,0,0] 1 []) [(0,pt bp 0),(6,pt bp 0)] ?_
  have hA18 : ParAt w0 w7 bp X s8 m9 := ⟨hE12,hA16.hold,hA11.deq,hA11.toks,hA11.cap,hA11.inv⟩
  refine ossP [] (.call 110 [pt bp 0,sv ([112,97,116,104])]) (some 7) (kOp Y85 [1,0,1,0,0] 2 []) [] trivial (runs_callP E110 (word_any w0 bp X s8 m9 wdPath w7 hA18)) (fun x w' ⟨e,a,he,hx,hE⟩ => ⟨e,a,by simp only [protocolS,hs10,if_pos h1,he,andE_ok,andE_error],hx,hE⟩) ?_
  rintro _ w19 ⟨t17,s20,m21,hs22,rfl,hA23⟩
  have hE24 : Ext w0 w19 := hA23.ext
  have hM25 := hA23.hold
  have hp26 := hA23.inv.pos
  have ha27 := hA23.toks.addrE tokCells_len (by decide) hp26
  refine sg0 5 (kOp Y85 [1,0,1,0,1] 3 []) [(0,pt bp 0),(8,pt bp 0),(9,pt bp 0),(10,pt bp 0)] ?_
  have hA28 : ParAt w0 w19 bp X s20 m21 := ⟨hE24,hM25,hA23.deq,hA23.toks,hA23.cap,hA23.inv⟩
  refine ossP [] (.call 111 [pt bp 0,iv 1,iv 12]) (some 11) (kOp Y85 [1,0,1,0,1] 4 []) [] trivial (runs_callP E111 (number_anyP w0 bp X s20 m21 1 12 w19 hA28)) (fun x w' ⟨e,a,he,hx,hE⟩ => ⟨e,a,by simp only [protocolS,hs10,if_pos h1,hs22,he,andE_ok,andE_error],hx,hE⟩) ?_
  rintro _ w29 ⟨n,s30,m31,hs32,rfl,hA33⟩
  have hE34 : Ext w0 w29 := hA33.ext
  have hM35 := hA33.hold
  have hp36 := hA33.inv.pos
  have ha37 := hA33.toks.addrE tokCells_len (by decide) hp36
  refine sg0 3 (kOp Y85 [1,0,1,0,1] 7 []) [(0,pt bp 0),(9,pt bp 0),(11,iv n),(14,pt bp 0)] ?_
  refine os0 (.store 3 (pt bp 0) (iv 2)) none (kOp Y85 [1,0,1,0,1] 8 []) (runs_st (hM35.blk 0 rfl) (by kernel_rfl)) ?_
  rintro _ w38 hC39
  have hE40 := hM35.toExt hE34 hC39 0 rfl
  have hM41 := hM35.set 0 rfl hC39
  refine sg0 3 (kOp Y85 [1,0,1,0,1] 11 []) [(0,pt bp 0),(11,iv n),(17,pt bp 1)] ?_
  refine os0 (.store 3 (pt bp 1) (iv n)) none (kOp Y85 [1,0,1,0,1] 12 []) (runs_st (hM41.blk 0 rfl) (by kernel_rfl)) ?_
  rintro _ w42 hC43
  have hE44 := hM41.toExt hE40 hC43 0 rfl
  have hM45 := hM41.set 0 rfl hC43
  refine sg0 3 (kOp Y85 [1,1] 1 []) [(24,pt bp 0)] ?_
  have hA46 : ParAt w0 w42 bp X (⟨{ s30.p with proto := 2,cap := n },s30.ts⟩ : PSt) m31 := ⟨hE44,hM45,hA33.deq,hA33.toks,hA33.cap,(hA33.inv.plan (p := { s30.p with proto := 2,cap := n }) rfl rfl rfl rfl)⟩
  refine ossP [] (.call 112 [pt bp 0]) (some 25) (kOp Y85 [1,1] 2 []) [] trivial (runs_callP E112 (stop_any w0 bp X (⟨{ s30.p with proto := 2,cap := n },s30.ts⟩ : PSt) m31  w42 hA46)) (fun x w' ⟨e,a,he,hx,hE⟩ => ⟨e,a,by simp only [protocolS,hs10,if_pos h1,hs22,hs32,he,andE_ok],hx,hE⟩) ?_
  rintro _ w47 ⟨s48,m49,hs50,rfl,hA51⟩
  have hE52 : Ext w0 w47 := hA51.ext
  have hM53 := hA51.hold
  have hp54 := hA51.inv.pos
  have ha55 := hA51.toks.addrE tokCells_len (by decide) hp54
  refine sgs 1 [] [] [] [] [] trivial ?_
  exact endP (hs := []) (vs := []) (ps := []) (by kernel_rfl) trivial (v := .tuple #[]) rfl (⟨s48,m49,by simp only [protocolS,hs10,hs22,hs32,hs50,andE_ok,if_pos h1],rfl,⟨hE52,hM53,hA51.deq,hA51.toks,hA51.cap,hA51.inv⟩⟩)
 refine sg0 3 (kOp Y85 [1,0,1,1,0] 1 []) [(0,pt bp 0),(18,pt bp 0)] ?_
 have hA57 : ParAt w0 w7 bp X s8 m9 := ⟨hE12,hA16.hold,hA11.deq,hA11.toks,hA11.cap,hA11.inv⟩
 refine ossP [] (.call 110 [pt bp 0,sv ([118,101,99,116,111,114])]) (some 19) (kOp Y85 [1,0,1,1,0] 2 []) [] trivial (runs_callP E110 (word_any w0 bp X s8 m9 wdVector w7 hA57)) (fun x w' ⟨e,a,he,hx,hE⟩ => ⟨e,a,by simp only [protocolS,hs10,if_neg h1,he,andE_ok,andE_error],hx,hE⟩) ?_
 rintro _ w58 ⟨t56,s59,m60,hs61,rfl,hA62⟩
 have hE63 : Ext w0 w58 := hA62.ext
 have hM64 := hA62.hold
 have hp65 := hA62.inv.pos
 have ha66 := hA62.toks.addrE tokCells_len (by decide) hp65
 refine sg0 6 (kOp Y85 [1,0,1,1,1] 4 []) [(0,pt bp 0),(23,pt bp 0)] ?_
 refine os0 (.store 3 (pt bp 0) (iv 1)) none (kOp Y85 [1,0,1,1,1] 5 []) (runs_st (hM64.blk 0 rfl) (by kernel_rfl)) ?_
 rintro _ w67 hC68
 have hE69 := hM64.toExt hE63 hC68 0 rfl
 have hM70 := hM64.set 0 rfl hC68
 refine sg0 3 (kOp Y85 [1,1] 1 []) [(24,pt bp 0)] ?_
 have hA71 : ParAt w0 w67 bp X (⟨{ s59.p with proto := 1 },s59.ts⟩ : PSt) m60 := ⟨hE69,hM70,hA62.deq,hA62.toks,hA62.cap,(hA62.inv.plan (p := { s59.p with proto := 1 }) rfl rfl rfl rfl)⟩
 refine ossP [] (.call 112 [pt bp 0]) (some 25) (kOp Y85 [1,1] 2 []) [] trivial (runs_callP E112 (stop_any w0 bp X (⟨{ s59.p with proto := 1 },s59.ts⟩ : PSt) m60  w67 hA71)) (fun x w' ⟨e,a,he,hx,hE⟩ => ⟨e,a,by simp only [protocolS,hs10,if_neg h1,hs61,he,andE_ok],hx,hE⟩) ?_
 rintro _ w72 ⟨s73,m74,hs75,rfl,hA76⟩
 have hE77 : Ext w0 w72 := hA76.ext
 have hM78 := hA76.hold
 have hp79 := hA76.inv.pos
 have ha80 := hA76.toks.addrE tokCells_len (by decide) hp79
 refine sgs 1 [] [] [] [] [] trivial ?_
 exact endP (hs := []) (vs := []) (ps := []) (by kernel_rfl) trivial (v := .tuple #[]) rfl (⟨s73,m74,by simp only [protocolS,hs10,hs61,hs75,andE_ok,if_neg h1],rfl,⟨hE77,hM78,hA76.deq,hA76.toks,hA76.cap,hA76.inv⟩⟩)

set_option maxRecDepth 20000 in
theorem failures_any (w0 : World) (bp : Nat) (X : List Res) (s : PSt) (m : PM) (w : World) (hA : ParAt w0 w bp X s m) :
    DoesP Tryz.prog 86 [pt bp 0] w (fun v w' => ∃ t s' m',failuresS s = .ok (t,s') ∧ v = .agg #[.int .i64 t.kind,.string (bs t.text),.int .i64 t.n,.int .i64 t.at'] ∧ ParAt w0 w' bp X s' m') (PanP (failuresS s) w0) := by
 refine startP (c := Y86) Tryz.func86 rfl (by kernel_rfl) ?_
 show G _ 21 [] _ (kAt Y86 [] []) (stz [(0,pt bp 0)]) w
 have hE1 : Ext w0 w := hA.ext
 have hM2 := hA.hold
 have hp3 := hA.inv.pos
 have ha4 := hA.toks.addrE tokCells_len (by decide) hp3
 refine sg0 2 (kOp Y86 [0] 0 []) [(0,pt bp 0)] ?_
 refine os0 (.alloc 49) (some 2) (kOp Y86 [0] 1 []) (runs_alloc (z := .agg #[iv 0,sv ([]),iv 0,iv 0]) (by kernel_rfl)) ?_
 rintro _ w5 ⟨b2,rfl,hN6⟩
 have hE7 := hE1.trans hN6.ext
 have hM8 := hM2.new hN6
 refine sg0 4 (kOp Y86 [1,0] 1 []) [(0,pt bp 0),(2,pt b2 0),(4,pt bp 0)] ?_
 have hA10 : ParAt w0 w5 bp ([.blk b2 ([iv 0,sv ([]),iv 0,iv 0]) 49] ++ X) s m := ⟨hE7,(hM8.pick 6 [1,2,3,4,5,0] (by kernel_rfl) (by kernel_rfl)),hA.deq,hA.toks,hA.cap,hA.inv⟩
 refine ossP [] (.call 110 [pt bp 0,sv ([102,97,105,108,117,114,101,115])]) (some 5) (kOp Y86 [1,0] 2 []) [] trivial (runs_callP E110 (word_any w0 bp ([.blk b2 ([iv 0,sv ([]),iv 0,iv 0]) 49] ++ X) s m wdFailures w5 hA10)) (fun x w' ⟨e,a,he,hx,hE⟩ => ⟨e,a,by simp only [failuresS,he,andE_error],hx,hE⟩) ?_
 rintro _ w11 ⟨t9,s12,m13,hs14,rfl,hA15⟩
 have hE16 : Ext w0 w11 := hA15.ext
 have hM17 := hA15.hold
 have hp18 := hA15.inv.pos
 have ha19 := hA15.toks.addrE tokCells_len (by decide) hp18
 refine sgz 9 [.ld (.slice m13.ta s12.ts.length m13.tc),.ld (vT s12.hd)] (kOp Y86 [1,1,0] 6 []) [(0,pt bp 0),(2,pt b2 0),(11,(vT s12.hd))] [cl w11 bp 7 (.slice m13.ta s12.ts.length m13.tc),(0 ≤ (0 : Int) ∧ (0 : Int) < (s12.ts.length:Int)),(m13.ta : Option Addr) = some ⟨(slB m13.ta),slO m13.ta,none⟩,cl w11 (slB m13.ta) (slO m13.ta + 0) (iv s12.hd.kind),cl w11 (slB m13.ta) (slO m13.ta + 0 + 1) (sv s12.hd.text),cl w11 (slB m13.ta) (slO m13.ta + 0 + 2) (iv s12.hd.n),cl w11 (slB m13.ta) (slO m13.ta + 0 + 3) (iv (s12.hd.at'))] (AC (cell_of (hM17.blk 0 rfl) rfl) (AC (by omega) (AC (by assumption) (AC (hE16.cell (hd_cell hA15.toks hp18 0 rfl)) (AC (hE16.cell (hd_cell hA15.toks hp18 1 rfl)) (AC (hE16.cell (hd_cell hA15.toks hp18 2 rfl)) (A1 (hE16.cell (hd_cell hA15.toks hp18 3 rfl))))))))) ?_
 refine os0 (.alloc 49) (some 3) (kOp Y86 [1,1,0] 7 []) (runs_alloc (z := .agg #[iv 0,sv ([]),iv 0,iv 0]) (by kernel_rfl)) ?_
 rintro _ w20 ⟨b3,rfl,hN21⟩
 have hE22 := hE16.trans hN21.ext
 have hM23 := hM17.new hN21
 refine os0 (.store 49 (pt b3 0) (vT s12.hd)) none (kOp Y86 [1,1,0] 8 []) (runs_st (hM23.blk 0 rfl) (by kernel_rfl)) ?_
 rintro _ w24 hC25
 have hE26 := hM23.toExt hE22 hC25 0 rfl
 have hM27 := hM23.set 0 rfl hC25
 refine sg0 5 (kOp Y86 [1,1,1,0] 2 []) [(0,pt bp 0),(2,pt b2 0),(3,pt b3 0),(12,pt bp 0),(13,pt bp 0)] ?_
 have hA28 : ParAt w0 w24 bp ([.blk b3 ([iv s12.hd.kind,sv s12.hd.text,iv s12.hd.n,iv (s12.hd.at')]) 49,.blk b2 ([iv 0,sv ([]),iv 0,iv 0]) 49] ++ X) s12 m13 := ⟨hE26,(hM27.pick 7 [1,2,3,4,5,0,6] (by kernel_rfl) (by kernel_rfl)),hA15.deq,hA15.toks,hA15.cap,hA15.inv⟩
 refine ossP [] (.call 111 [pt bp 0,iv 0,iv 4]) (some 14) (kOp Y86 [1,1,1,0] 3 []) [] trivial (runs_callP E111 (number_anyP w0 bp ([.blk b3 ([iv s12.hd.kind,sv s12.hd.text,iv s12.hd.n,iv (s12.hd.at')]) 49,.blk b2 ([iv 0,sv ([]),iv 0,iv 0]) 49] ++ X) s12 m13 0 4 w24 hA28)) (fun x w' ⟨e,a,he,hx,hE⟩ => ⟨e,a,by simp only [failuresS,hs14,he,andE_ok,andE_error],hx,hE⟩) ?_
 rintro _ w29 ⟨n,s30,m31,hs32,rfl,hA33⟩
 have hE34 : Ext w0 w29 := hA33.ext
 have hM35 := hA33.hold
 have hp36 := hA33.inv.pos
 have ha37 := hA33.toks.addrE tokCells_len (by decide) hp36
 refine sg0 3 (kOp Y86 [1,1,1,0] 6 []) [(0,pt bp 0),(2,pt b2 0),(3,pt b3 0),(14,iv n),(17,pt bp 2)] ?_
 refine os0 (.store 3 (pt bp 2) (iv n)) none (kOp Y86 [1,1,1,0] 7 []) (runs_st (hM35.blk 0 rfl) (by kernel_rfl)) ?_
 rintro _ w38 hC39
 have hE40 := hM35.toExt hE34 hC39 0 rfl
 have hM41 := hM35.set 0 rfl hC39
 refine sg0 4 (kOp Y86 (ro1 4 [0]) 1 []) [(2,pt b2 0),(3,pt b3 0),(18,pt bp 0)] ?_
 have hA42 : ParAt w0 w38 bp ([.blk b3 ([iv s12.hd.kind,sv s12.hd.text,iv s12.hd.n,iv (s12.hd.at')]) 49,.blk b2 ([iv 0,sv ([]),iv 0,iv 0]) 49] ++ X) (⟨{ s30.p with k := n },s30.ts⟩ : PSt) m31 := ⟨hE40,hM41,hA33.deq,hA33.toks,hA33.cap,(hA33.inv.plan (p := { s30.p with k := n }) rfl rfl rfl rfl)⟩
 refine ossP [] (.call 112 [pt bp 0]) (some 19) (kOp Y86 (ro1 4 [0]) 2 []) [] trivial (runs_callP E112 (stop_any w0 bp ([.blk b3 ([iv s12.hd.kind,sv s12.hd.text,iv s12.hd.n,iv (s12.hd.at')]) 49,.blk b2 ([iv 0,sv ([]),iv 0,iv 0]) 49] ++ X) (⟨{ s30.p with k := n },s30.ts⟩ : PSt) m31  w38 hA42)) (fun x w' ⟨e,a,he,hx,hE⟩ => ⟨e,a,by simp only [failuresS,hs14,hs32,he,andE_ok,andE_error],hx,hE⟩) ?_
 rintro _ w43 ⟨s44,m45,hs46,rfl,hA47⟩
 have hE48 : Ext w0 w43 := hA47.ext
 have hM49 := hA47.hold
 have hp50 := hA47.inv.pos
 have ha51 := hA47.toks.addrE tokCells_len (by decide) hp50
 refine sgz 4 [.ld (vT s12.hd)] (kOp Y86 (ro1 5 [0]) 1 []) [(2,pt b2 0),(20,(vT s12.hd))] [cl w43 b3 0 (iv s12.hd.kind),cl w43 b3 1 (sv s12.hd.text),cl w43 b3 2 (iv s12.hd.n),cl w43 b3 3 (iv (s12.hd.at'))] (AC (cell_of (hM49.blk 5 rfl) rfl) (AC (cell_of (hM49.blk 5 rfl) rfl) (AC (cell_of (hM49.blk 5 rfl) rfl) (A1 (cell_of (hM49.blk 5 rfl) rfl))))) ?_
 refine os0 (.store 49 (pt b2 0) (vT s12.hd)) none (kOp Y86 (ro1 5 [0]) 2 []) (runs_st (hM49.blk 6 rfl) (by kernel_rfl)) ?_
 rintro _ w52 hC53
 have hE54 := hM49.toExt hE48 hC53 6 rfl
 have hM55 := hM49.set 6 rfl hC53
 refine sg0 1 (kAt Y86 (ro1 6 []) []) [(2,pt b2 0)] ?_
 have hb56 := (hM55.blk 6 rfl)
 exact retP (hs := [(vT s12.hd)]) (vs := [(vT s12.hd)]) (ps := [w52.cell? ⟨b2,0,none⟩ = some (iv s12.hd.kind),w52.cell? ⟨b2,1,none⟩ = some (sv s12.hd.text),w52.cell? ⟨b2,2,none⟩ = some (iv s12.hd.n),w52.cell? ⟨b2,3,none⟩ = some (iv (s12.hd.at'))]) (by kernel_rfl) (AC (cell_of hb56 rfl) (AC (cell_of hb56 rfl) (AC (cell_of hb56 rfl) (A1 (cell_of hb56 rfl))))) (v := (vT s12.hd)) rfl (⟨s12.hd,s44,m45,by simp only [failuresS,hs14,hs32,hs46,andE_ok],rfl,⟨hE54,(hM55.pick 7 [0,1,2,3,4] (by kernel_rfl) (by kernel_rfl)),hA47.deq,hA47.toks,hA47.cap,hA47.inv⟩⟩)

set_option maxRecDepth 20000 in
theorem node_any (w0 : World) (bp : Nat) (X : List Res) (s : PSt) (m : PM) (w : World) (hA : ParAt w0 w bp X s m) :
    DoesP Tryz.prog 87 [pt bp 0] w (fun v w' => ∃ s' m',nodeS s = .ok s' ∧ v = .tuple #[] ∧ ParAt w0 w' bp X s' m') (PanP (nodeS s) w0) := by
 refine startP (c := Y87) Tryz.func87 rfl (by kernel_rfl) ?_
 show G _ 31 [] _ (kAt Y87 [] []) (stz [(0,pt bp 0)]) w
 have hE1 : Ext w0 w := hA.ext
 have hM2 := hA.hold
 have hp3 := hA.inv.pos
 have ha4 := hA.toks.addrE tokCells_len (by decide) hp3
 have hnn := hA.inv.nn
 refine sgz 9 [.ld (.slice m.q.a1 s.p.nodes.length m.q.c1)] (kOp Y87 [0] 7 []) [(0,pt bp 0),(3,pt bp 0),(9,iv (s.p.nodes.length:Int))] [cl w bp 3 (.slice m.q.a1 s.p.nodes.length m.q.c1)] (A1 (cell_of (hM2.blk 0 rfl) rfl)) ?_
 have hA5 : ParAt w0 w bp X s m := ⟨hE1,hM2,hA.deq,hA.toks,hA.cap,hA.inv⟩
 refine ossP [] (.call 113 [pt bp 0,sv ([110,111,100,101]),iv 12,iv (s.p.nodes.length:Int)]) (some 10) (kOp Y87 [0] 8 []) [] trivial (runs_callP E113 (head_any w0 bp X s m wdNode 12 (s.p.nodes.length : Int) w hA5)) (fun x w' ⟨e,a,he,hx,hE⟩ => ⟨e,a,by simp only [nodeS,he,andE_error],hx,hE⟩) ?_
 rintro _ w6 ⟨s7,m8,hs9,rfl,hA10⟩
 have hE11 : Ext w0 w6 := hA10.ext
 have hM12 := hA10.hold
 have hp13 := hA10.inv.pos
 have ha14 := hA10.toks.addrE tokCells_len (by decide) hp13
 refine sg0 4 (kOp Y87 [1,0] 1 []) [(0,pt bp 0),(11,pt bp 0)] ?_
 have hp1 : s7.p = s.p ∧ s.p.nodes.length < 12 := headS_plan hs9
 have hA15 : ParAt w0 w6 bp X s7 m8 := ⟨hE11,hM12,hA10.deq,hA10.toks,hA10.cap,hA10.inv⟩
 refine ossP [] (.call 114 [pt bp 0]) (some 12) (kOp Y87 [1,0] 2 []) [] trivial (runs_callP E114 (fresh_any w0 bp X s7 m8 w6 hA15)) (fun x w' ⟨e,a,he,hx,hE⟩ => ⟨e,a,by simp only [nodeS,hs9,he,andE_ok,andE_error],hx,hE⟩) ?_
 rintro _ w16 ⟨x,s17,m18,hs19,rfl,hA20,hxl⟩
 have hE21 : Ext w0 w16 := hA20.ext
 have hM22 := hA20.hold
 have hp23 := hA20.inv.pos
 have ha24 := hA20.toks.addrE tokCells_len (by decide) hp23
 refine sg0 1 (kOp Y87 [1,0] 3 []) [(0,pt bp 0),(13,.agg #[sv x,iv 0])] ?_
 refine os0 (.alloc 52) (some 2) (kOp Y87 [1,0] 4 []) (runs_alloc (z := .agg #[sv ([]),iv 0]) (by kernel_rfl)) ?_
 rintro _ w25 ⟨b2,rfl,hN26⟩
 have hE27 := hE21.trans hN26.ext
 have hM28 := hM22.new hN26
 refine os0 (.store 52 (pt b2 0) (.agg #[sv x,iv 0])) none (kOp Y87 [1,0] 5 []) (runs_st (hM28.blk 0 rfl) (by kernel_rfl)) ?_
 rintro _ w29 hC30
 have hE31 := hM28.toExt hE27 hC30 0 rfl
 have hM32 := hM28.set 0 rfl hC30
 refine sg0 4 (kOp Y87 [1,1,0] 1 []) [(0,pt bp 0),(2,pt b2 0),(14,pt bp 0)] ?_
 have hA33 : ParAt w0 w29 bp ([.blk b2 ([sv x,iv 0]) 52] ++ X) s17 m18 := ⟨hE31,(hM32.pick 6 [1,2,3,4,5,0] (by kernel_rfl) (by kernel_rfl)),hA20.deq,hA20.toks,hA20.cap,hA20.inv⟩
 refine ossP [] (.call 111 [pt bp 0,iv 1,iv 65535]) (some 15) (kOp Y87 [1,1,0] 2 []) [] trivial (runs_callP E111 (number_anyP w0 bp ([.blk b2 ([sv x,iv 0]) 52] ++ X) s17 m18 1 65535 w29 hA33)) (fun x w' ⟨e,a,he,hx,hE⟩ => ⟨e,a,by simp only [nodeS,hs9,hs19,he,andE_ok,andE_error],hx,hE⟩) ?_
 rintro _ w34 ⟨n,s35,m36,hs37,rfl,hA38⟩
 have hE39 : Ext w0 w34 := hA38.ext
 have hM40 := hA38.hold
 have hp41 := hA38.inv.pos
 have ha42 := hA38.toks.addrE tokCells_len (by decide) hp41
 refine sg0 1 (kOp Y87 [1,1,0] 3 []) [(0,pt bp 0),(2,pt b2 0),(15,iv n),(16,pt b2 1)] ?_
 refine os0 (.store 3 (pt b2 1) (iv n)) none (kOp Y87 [1,1,0] 4 []) (runs_st (hM40.blk 5 rfl) (by kernel_rfl)) ?_
 rintro _ w43 hC44
 have hE45 := hM40.toExt hE39 hC44 5 rfl
 have hM46 := hM40.set 5 rfl hC44
 refine sg0 4 (kOp Y87 [1,1,1,0] 1 []) [(0,pt bp 0),(2,pt b2 0),(17,pt bp 0)] ?_
 have hA47 : ParAt w0 w43 bp ([.blk b2 ([sv x,iv n]) 52] ++ X) s35 m36 := ⟨hE45,hM46,hA38.deq,hA38.toks,hA38.cap,hA38.inv⟩
 refine ossP [] (.call 112 [pt bp 0]) (some 18) (kOp Y87 [1,1,1,0] 2 []) [] trivial (runs_callP E112 (stop_any w0 bp ([.blk b2 ([sv x,iv n]) 52] ++ X) s35 m36  w43 hA47)) (fun x w' ⟨e,a,he,hx,hE⟩ => ⟨e,a,by simp only [nodeS,hs9,hs19,hs37,he,andE_ok,andE_error],hx,hE⟩) ?_
 rintro _ w48 ⟨s49,m50,hs51,rfl,hA52⟩
 have hE53 : Ext w0 w48 := hA52.ext
 have hM54 := hA52.hold
 have hp55 := hA52.inv.pos
 have ha56 := hA52.toks.addrE tokCells_len (by decide) hp55
 have hp4 : s49.p.nodes.length < 12 := by rw [stopS_plan hs51,numberS_plan hs37,freshS_plan hs19,hp1.1]; exact hp1.2
 refine sg0 1 (kAt Y87 (ro1 4 []) []) [(0,pt bp 0),(2,pt b2 0)] ?_
 refine dBegin (k' := []) (id := 4) (m := 13) (ops := opsAt (cAt Y87 (ro1 4 []))) (fun _ w' => w'.heap[b2]? = some (.cells #[sv x,iv n] 52 (0,0))) (by kernel_rfl) (PQ.body _ _ _) (by kernel_rfl) (by kernel_rfl) ?_
 intro w57 hx58
 have hE59 := hE53.trans hx58
 have hM60 := hM54.ext hx58
 refine dtz [0,1,2,3,4,6] [.ld (.agg #[sv x,iv n])] 7 (lb 13 95) [(19,pt bp 0),(23,pt bp 3),(25,.agg #[sv x,iv n])] (fun w' => [cl w' b2 0 (sv x),cl w' b2 1 (iv n)]) (fun w' hS => (AC (cell_of hS rfl) (A1 (cell_of hS rfl)))) ((hM60.blk 5 rfl)) ?_
 refine dAll 5 [7] (by kernel_rfl) ?_
 refine ⟨?_,?_⟩
 ·refine dos [] (.load 24 (pt bp 3)) (some 24) [] (lb 13 127) trivial (runs_load (v := .slice m50.q.a1 s49.p.nodes.length m50.q.c1) (ps := [cl w57 bp 3 (.slice m50.q.a1 s49.p.nodes.length m50.q.c1)]) (by kernel_rfl) (A1 (cell_of (hM60.blk 0 rfl) rfl))) ?_
  rintro _ _ ⟨rfl,rfl⟩
  refine ⟨(hM60.blk 5 rfl),?_⟩
  refine dAll 7 [] (by kernel_rfl) ?_
  refine dos [] (.bslice 24 1 [(0,.agg #[sv x,iv n])]) (some 26) [] (lb 13 255) trivial (runs_bslice (cs := [sv x,iv n]) (e := 52) (by kernel_rfl)) ?_
  rintro _ w61 ⟨be,rfl,hN62⟩
  have hE63 := hE59.trans hN62.ext
  have hM64 := hM60.new hN62
  refine ⟨(hM64.blk 6 rfl),?_⟩
  refine dAll 8 [] (by kernel_rfl) ?_
  refine dos [] (.builtin .append #[24,24] 24 #[false,false] [.slice m50.q.a1 s49.p.nodes.length m50.q.c1,.slice (some ⟨be,0,none⟩) 1 1]) (some 27) [] (lb 13 511) trivial (runs_appH (e := 52) (size := 2) (bytes := 24) (by kernel_rfl) (hM64.row 2 rfl) (m := 1) (news := [sv x,iv n]) (hM64.blk 0 rfl) rfl (by simp [Value.oneCell']) (by omega) (by omega) hM64.base) ?_
  rintro vs66 w65 ⟨hr67,hg68,ho69⟩
  have hr70 : w65.ownsRow w0.heap.size 52 2 vs66 ((s49.p.nodes ++ [(⟨x,n⟩ : PNode)]).length) ((s49.p.nodes ++ [(⟨x,n⟩ : PNode)]).flatMap nodeC) := by simpa [nodeC] using hr67
  have hE71 := hM64.toExtApp hE63 2 rfl hg68
  have hM72 := hM64.app 2 rfl hr70 hg68 ho69
  obtain ⟨av,ac,hvsvs66⟩ := row_slice (hM72.row 2 rfl)
  subst hvsvs66
  refine ⟨(hM72.blk 6 rfl),?_⟩
  refine dtz [9,10,11] [] 1 (lb 13 4095) [(27,.slice av ((s49.p.nodes ++ [(⟨x,n⟩ : PNode)]).length) ac),(30,pt bp 3)] (fun w' => []) (fun w' hS => trivial) ((hM72.blk 6 rfl)) ?_
  refine dAll 12 [] (by kernel_rfl) ?_
  refine dos [] (.store 24 (pt bp 3) (.slice av ((s49.p.nodes ++ [(⟨x,n⟩ : PNode)]).length) ac)) none [] (lb 13 8191) trivial (runs_st (hM72.blk 1 rfl) (by kernel_rfl)) ?_
  rintro _ w73 hC74
  have hE75 := hM72.toExt hE71 hC74 1 rfl
  have hM76 := hM72.set 1 rfl hC74
  refine ⟨(hM76.blk 6 rfl),?_⟩
  refine dDone (by kernel_rfl) ?_
  exact endP (hs := []) (vs := []) (ps := []) (by kernel_rfl) trivial (v := .tuple #[]) rfl (⟨⟨addNode s49.p ⟨x,n⟩,s49.ts⟩,⟨{ m50.q with a1 := av,c1 := ac },m50.ta,m50.tc⟩,by simp only [nodeS,hs9,hs19,hs37,hs51,andE_ok],rfl,⟨hE75,(hM76.pick 7 [1,2,3,4,5] (by kernel_rfl) (by kernel_rfl)),hA52.deq,hA52.toks,hA52.cap,(hA52.inv.node hp4 hxl)⟩⟩)
 refine dos [] (.bslice 24 1 [(0,.agg #[sv x,iv n])]) (some 26) [] (lb 13 223) trivial (runs_bslice (cs := [sv x,iv n]) (e := 52) (by kernel_rfl)) ?_
 rintro _ w77 ⟨be,rfl,hN78⟩
 have hE79 := hE59.trans hN78.ext
 have hM80 := hM60.new hN78
 refine ⟨(hM80.blk 6 rfl),?_⟩
 refine dAll 5 [] (by kernel_rfl) ?_
 refine dos [] (.load 24 (pt bp 3)) (some 24) [] (lb 13 255) trivial (runs_load (v := .slice m50.q.a1 s49.p.nodes.length m50.q.c1) (ps := [cl w77 bp 3 (.slice m50.q.a1 s49.p.nodes.length m50.q.c1)]) (by kernel_rfl) (A1 (cell_of (hM80.blk 1 rfl) rfl))) ?_
 rintro _ _ ⟨rfl,rfl⟩
 refine ⟨(hM80.blk 6 rfl),?_⟩
 refine dAll 8 [] (by kernel_rfl) ?_
 refine dos [] (.builtin .append #[24,24] 24 #[false,false] [.slice m50.q.a1 s49.p.nodes.length m50.q.c1,.slice (some ⟨be,0,none⟩) 1 1]) (some 27) [] (lb 13 511) trivial (runs_appH (e := 52) (size := 2) (bytes := 24) (by kernel_rfl) (hM80.row 2 rfl) (m := 1) (news := [sv x,iv n]) (hM80.blk 0 rfl) rfl (by simp [Value.oneCell']) (by omega) (by omega) hM80.base) ?_
 rintro vs82 w81 ⟨hr83,hg84,ho85⟩
 have hr86 : w81.ownsRow w0.heap.size 52 2 vs82 ((s49.p.nodes ++ [(⟨x,n⟩ : PNode)]).length) ((s49.p.nodes ++ [(⟨x,n⟩ : PNode)]).flatMap nodeC) := by simpa [nodeC] using hr83
 have hE87 := hM80.toExtApp hE79 2 rfl hg84
 have hM88 := hM80.app 2 rfl hr86 hg84 ho85
 obtain ⟨av,ac,hvsvs82⟩ := row_slice (hM88.row 2 rfl)
 subst hvsvs82
 refine ⟨(hM88.blk 6 rfl),?_⟩
 refine dtz [9,10,11] [] 1 (lb 13 4095) [(27,.slice av ((s49.p.nodes ++ [(⟨x,n⟩ : PNode)]).length) ac),(30,pt bp 3)] (fun w' => []) (fun w' hS => trivial) ((hM88.blk 6 rfl)) ?_
 refine dAll 12 [] (by kernel_rfl) ?_
 refine dos [] (.store 24 (pt bp 3) (.slice av ((s49.p.nodes ++ [(⟨x,n⟩ : PNode)]).length) ac)) none [] (lb 13 8191) trivial (runs_st (hM88.blk 1 rfl) (by kernel_rfl)) ?_
 rintro _ w89 hC90
 have hE91 := hM88.toExt hE87 hC90 1 rfl
 have hM92 := hM88.set 1 rfl hC90
 refine ⟨(hM92.blk 6 rfl),?_⟩
 refine dDone (by kernel_rfl) ?_
 exact endP (hs := []) (vs := []) (ps := []) (by kernel_rfl) trivial (v := .tuple #[]) rfl (⟨⟨addNode s49.p ⟨x,n⟩,s49.ts⟩,⟨{ m50.q with a1 := av,c1 := ac },m50.ta,m50.tc⟩,by simp only [nodeS,hs9,hs19,hs37,hs51,andE_ok],rfl,⟨hE91,(hM92.pick 7 [1,2,3,4,5] (by kernel_rfl) (by kernel_rfl)),hA52.deq,hA52.toks,hA52.cap,(hA52.inv.node hp4 hxl)⟩⟩)

end Go.Proofs.YtjhgghpeapmgdaaGreatDoor
