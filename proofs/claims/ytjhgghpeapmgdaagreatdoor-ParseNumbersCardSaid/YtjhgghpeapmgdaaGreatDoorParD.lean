/-
  PARSE: the contract of dest.
-/
import Derived.Test.YtjhgghpeapmgdaaGreatDoorParC
import Derived.Test.YtjhgghpeapmgdaaGreatDoorMg2
namespace Go.Proofs.YtjhgghpeapmgdaaGreatDoor
open Go.Bk Go.Proofs

theorem origP_snoc (X : List Res) (ds : List DA) (d : DA) : (X ++ origP ds) ++ [.row (.slice d.a d.d.origins.length d.c) 3 1 d.d.origins.length (d.d.origins.flatMap intCells)] = X ++ origP (ds ++ [d]) := by simp [origP]

def destOL (w0 : World) (bp b2 : Nat) (X : List Res) (nm : Bytes) (p0 : PPlan) (R : PE (List Int × PSt)) : Lp (List Int × Option Addr × Nat × PSt × PM) where
  S := fun _ => [(0,none,pt bp 0),(2,none,pt b2 0)]
  J := fun x w' => ParAt w0 w' bp ([.blk b2 [.string (bs nm),.slice x.2.1 x.1.length x.2.2.1] 54,.row (.slice x.2.1 x.1.length x.2.2.1) 3 1 x.1.length (x.1.flatMap intCells)] ++ X) x.2.2.2.1 x.2.2.2.2 ∧ originsS (x.1,x.2.2.2.1) = R ∧ x.2.2.2.1.p = p0 ∧ x.1.length + x.2.2.2.1.ts.length ≤ 10001
  M := fun x => x.2.2.2.1.ts.length
set_option maxRecDepth 20000 in
theorem dest_anyP (w0 : World) (bp : Nat) (X : List Res) (s : PSt) (m : PM) (w : World) (hA : ParAt w0 w bp X s m) :
    DoesP Tryz.prog 90 [pt bp 0] w (fun v w' => ∃ s' m',destS s = .ok s' ∧ v = .tuple #[] ∧ ParAt w0 w' bp X s' m') (PanP (destS s) w0) := by
 refine startP (c := Y90) Tryz.func90 rfl (by kernel_rfl) ?_
 show G _ 66 [] _ (kAt Y90 [] []) (stz [(0,pt bp 0)]) w
 have hE1 : Ext w0 w := hA.ext
 have hM2 := hA.hold
 have hp3 := hA.inv.pos
 have ha4 := hA.toks.addrE tokCells_len (by decide) hp3
 refine sgz 9 [.ld (.slice m.q.a3 s.p.dests.length m.q.c3)] (kOp Y90 [0] 7 []) [(0,pt bp 0),(5,pt bp 0),(11,iv (s.p.dests.length:Int))] [cl w bp 5 (.slice m.q.a3 s.p.dests.length m.q.c3)] (A1 (cell_of (hM2.blk 0 rfl) rfl)) ?_
 have hA5 : ParAt w0 w bp X s m := ⟨hE1,hM2,hA.deq,hA.toks,hA.cap,hA.inv⟩
 refine ossP [] (.call 113 [pt bp 0,sv ([100,101,115,116]),iv 4,iv (s.p.dests.length:Int)]) (some 12) (kOp Y90 [0] 8 []) [] trivial (runs_callP E113 (head_any w0 bp X s m wdDest 4 (s.p.dests.length : Int) w hA5)) (fun x w' ⟨e,a,he,hx,hE⟩ => ⟨e,a,by simp only [destS,he,andE_error],hx,hE⟩) ?_
 rintro _ w6 ⟨s7,m8,hs9,rfl,hA10⟩
 have hE11 : Ext w0 w6 := hA10.ext
 have hM12 := hA10.hold
 have hp13 := hA10.inv.pos
 have ha14 := hA10.toks.addrE tokCells_len (by decide) hp13
 have hp1 : s7.p = s.p ∧ s.p.dests.length < 4 := headS_plan hs9
 refine sg0 4 (kOp Y90 [1,0] 1 []) [(0,pt bp 0),(13,pt bp 0)] ?_
 have hA15 : ParAt w0 w6 bp X s7 m8 := ⟨hE11,hM12,hA10.deq,hA10.toks,hA10.cap,hA10.inv⟩
 refine ossP [] (.call 114 [pt bp 0]) (some 14) (kOp Y90 [1,0] 2 []) [] trivial (runs_callP E114 (fresh_any w0 bp X s7 m8 w6 hA15)) (fun x w' ⟨e,a,he,hx,hE⟩ => ⟨e,a,by simp only [destS,hs9,he,andE_ok,andE_error],hx,hE⟩) ?_
 rintro _ w16 ⟨x,s17,m18,hs19,rfl,hA20,hxl⟩
 have hE21 : Ext w0 w16 := hA20.ext
 have hM22 := hA20.hold
 have hp23 := hA20.inv.pos
 have ha24 := hA20.toks.addrE tokCells_len (by decide) hp23
 refine sg0 1 (kOp Y90 [1,0] 3 []) [(0,pt bp 0),(15,.agg #[sv x,.slice none 0 0])] ?_
 refine os0 (.alloc 54) (some 2) (kOp Y90 [1,0] 4 []) (runs_alloc (z := .agg #[sv ([]),.slice none 0 0]) (by kernel_rfl)) ?_
 rintro _ w25 ⟨b2,rfl,hN26⟩
 have hE27 := hE21.trans hN26.ext
 have hM28 := hM22.new hN26
 refine os0 (.store 54 (pt b2 0) (.agg #[sv x,.slice none 0 0])) none (kOp Y90 [1,0] 5 []) (runs_st (hM28.blk 0 rfl) (by kernel_rfl)) ?_
 rintro _ w29 hC30
 have hE31 := hM28.toExt hE27 hC30 0 rfl
 have hM32 := hM28.set 0 rfl hC30
 refine sg0 4 (kOp Y90 [1,1,0] 1 []) [(0,pt bp 0),(2,pt b2 0),(16,pt bp 0)] ?_
 have hA34 : ParAt w0 w29 bp ([.blk b2 ([sv x,.slice none 0 0]) 54] ++ X) s17 m18 := ⟨hE31,(hM32.pick 6 [1,2,3,4,5,0] (by kernel_rfl) (by kernel_rfl)),hA20.deq,hA20.toks,hA20.cap,hA20.inv⟩
 refine ossP [] (.call 110 [pt bp 0,sv ([97,116])]) (some 17) (kOp Y90 [1,1,0] 2 []) [] trivial (runs_callP E110 (word_any w0 bp ([.blk b2 ([sv x,.slice none 0 0]) 54] ++ X) s17 m18 wdAt w29 hA34)) (fun x w' ⟨e,a,he,hx,hE⟩ => ⟨e,a,by simp only [destS,hs9,hs19,he,andE_ok,andE_error],hx,hE⟩) ?_
 rintro _ w35 ⟨t33,s36,m37,hs38,rfl,hA39⟩
 have hE40 : Ext w0 w35 := hA39.ext
 have hM41 := hA39.hold
 have hp42 := hA39.inv.pos
 have ha43 := hA39.toks.addrE tokCells_len (by decide) hp42
 have hp3 : s36.p = s.p := by rw [wordS_plan hs38,freshS_plan hs19,hp1.1]
 have hlen3 : s36.ts.length ≤ 10001 := hA39.inv.len
 obtain ⟨R,hRd⟩ : ∃ R,originsS ([],s36) = R := ⟨_,rfl⟩
 refine sg0 3 (kAt Y90 [1,1,1,0,0] []) [(0,pt bp 0),(2,pt b2 0)] ?_
 have hM44 := hM41.nilRow (e := 3) (size := 1)
 have hA45 : ParAt w0 w35 bp ([.blk b2 ([sv x,.slice none 0 0]) 54,.row (.slice none 0 0) 3 1 0 ([])] ++ X) s36 m37 := ⟨hE40,(hM44.pick 7 [1,2,3,4,5,6,0] (by kernel_rfl) (by kernel_rfl)),hA39.deq,hA39.toks,hA39.cap,hA39.inv⟩
 refine loopR (destOL w0 bp b2 X x s.p R) (k' := (kEnd Y90 [1,1,1,0,0] [])) (body := (cAt Y90 [1,1,1,0,0,0])) (by kernel_rfl) ([],none,0,s36,m37) [0,2] (by kernel_rfl) (⟨hA45,hRd,hp3,by simpa using hlen3⟩) ?_
 rintro ⟨o,oa,oc,sz,mz⟩ wz ⟨hAz,hRz,hpz,hlz⟩
 simp only at hAz hRz hpz hlz
 show G _ _ _ _ (kAt (cAt Y90 [1,1,1,0,0,0]) [] (.inv (LI 66 [] (destOL w0 bp b2 X x s.p R) (o,oa,oc,sz,mz)) :: (kEnd Y90 [1,1,1,0,0] []))) (stz [(0,pt bp 0),(2,pt b2 0)]) wz
 have hE46 : Ext w0 wz := hAz.ext
 have hM47 := hAz.hold
 have hp48 := hAz.inv.pos
 have ha49 := hAz.toks.addrE tokCells_len (by decide) hp48
 refine sgz 18 [.ld (.slice oa o.length oc),.sym,.sym,.sym,.sym,.ld (.slice mz.ta sz.ts.length mz.tc),.sym,.sym,.sym,.ld (iv sz.hd.kind),.sym] (kAt (cAt Y90 [1,1,1,0,0,0]) [0,1] (.inv (LI 66 [] (destOL w0 bp b2 X x s.p R) (o,oa,oc,sz,mz)) :: (kEnd Y90 [1,1,1,0,0] []))) [(0,pt bp 0),(2,pt b2 0),(31,.bool ((decide ((o.length:Int) = (0 : Int))) || (!(decide ((sz.hd.kind : Int) = (3 : Int))))))] ((fun (z1 : Bool) => ([cl wz b2 1 (.slice oa o.length oc),z1 = true → z1 = true,z1 = true → z1 = true,z1 = true → z1 = true,z1 = true → cl wz bp 7 (.slice mz.ta sz.ts.length mz.tc),z1 = true → z1 = true,z1 = true → (0 ≤ (0 : Int) ∧ (0 : Int) < (sz.ts.length:Int)),z1 = true → (mz.ta : Option Addr) = some ⟨(slB mz.ta),slO mz.ta,none⟩,z1 = true → z1 = true,z1 = true → z1 = true,z1 = true → cl wz (slB mz.ta) (slO mz.ta + 0) (iv sz.hd.kind),z1 = true → z1 = true,z1 = true → z1 = true] : List Prop)) (!(decide ((o.length:Int) = (0 : Int))))) (AC (cell_of (hM47.blk 5 rfl) rfl) (AC (fun h => h) (AC (fun h => h) (AC (fun h => h) (AC (fun _ => cell_of (hM47.blk 0 rfl) rfl) (AC (fun h => h) (AC (by intro h; (try simp only [Bool.not_eq_true',decide_eq_false_iff_not] at h); first | done | omega) (AC (by intro _; assumption) (AC (fun h => h) (AC (fun h => h) (AC (fun _ => hE46.cell (hd_cell hAz.toks hp48 0 rfl)) (AC (fun h => h) (A1 (fun h => h)))))))))))))) ?_
 refine brk _ (((o.length:Int) = (0 : Int)) ∨ (¬ ((sz.hd.kind : Int) = (3 : Int)))) ((iffOr iffDec (iffNot iffDec))) (fun h1 => ?_) (fun h1 => ?_)
 ·generalize hKT : ((.inv (LI 66 [] (destOL w0 bp b2 X x s.p R) (o,oa,oc,sz,mz)) :: (kEnd Y90 [1,1,1,0,0] [])) : List Fr) = KT
  have hc : origC (o,sz) = true := by unfold origC; simp only [Bool.or_eq_true,decide_eq_true_eq,Bool.not_eq_true',decide_eq_false_iff_not]; omega
  rw [originsS_step,if_pos hc] at hRz
  refine sg0 5 (kOp (cAt Y90 [1,1,1,0,0,0]) [1,0,0] 1 KT) [(0,pt bp 0),(2,pt b2 0),(33,pt bp 0)] ?_
  have hA50 : ParAt w0 wz bp ([.blk b2 ([sv x,.slice oa o.length oc]) 54,.row (.slice oa o.length oc) 3 1 o.length (o.flatMap intCells)] ++ X) sz mz := ⟨hE46,hM47,hAz.deq,hAz.toks,hAz.cap,hAz.inv⟩
  refine ossP [] (.call 116 [pt bp 0,.func (.func 21) #[] #[]]) (some 34) (kOp (cAt Y90 [1,1,1,0,0,0]) [1,0,0] 2 KT) [] trivial (runs_callP E116 (known_any w0 bp ([.blk b2 ([sv x,.slice oa o.length oc]) 54,.row (.slice oa o.length oc) 3 1 o.length (o.flatMap intCells)] ++ X) sz mz 21 nodeIx wz hA50 E21 nodeIx_any)) (fun x w' ⟨e,a,he,hx,hE⟩ => ⟨e,a,by have h9 : R = .error (e,a) := (by rw [← hRz]; simp only [origS,he,andE_error]); simp only [destS,hs9,hs19,hs38,andE_ok,hRd,h9,andE_error],hx,hE⟩) ?_
  rintro _ w51 ⟨r,tk,s52,m53,hs54,rfl,hA55⟩
  have hE56 : Ext w0 w51 := hA55.ext
  have hM57 := hA55.hold
  have hp58 := hA55.inv.pos
  have ha59 := hA55.toks.addrE tokCells_len (by decide) hp58
  refine sg0 3 (kOp (cAt Y90 [1,1,1,0,0,0]) [1,0,0] 5 KT) [(0,pt bp 0),(2,pt b2 0),(35,iv r),(36,(vT tk))] ?_
  refine os0 (.alloc 49) (some 4) (kOp (cAt Y90 [1,1,1,0,0,0]) [1,0,0] 6 KT) (runs_alloc (z := .agg #[iv 0,sv ([]),iv 0,iv 0]) (by kernel_rfl)) ?_
  rintro _ w60 ⟨b4,rfl,hN61⟩
  have hE62 := hE56.trans hN61.ext
  have hM63 := hM57.new hN61
  refine sg0 1 (kOp (cAt Y90 [1,1,1,0,0,0]) [1,0,0] 7 KT) [(0,pt bp 0),(2,pt b2 0),(3,iv r),(4,pt b4 0),(36,(vT tk))] ?_
  refine os0 (.store 49 (pt b4 0) (vT tk)) none (kOp (cAt Y90 [1,1,1,0,0,0]) [1,0,0] 8 KT) (runs_st (hM63.blk 0 rfl) (by kernel_rfl)) ?_
  rintro _ w64 hC65
  have hE66 := hM63.toExt hE62 hC65 0 rfl
  have hM67 := hM63.set 0 rfl hC65
  refine sgz 7 [.ld (.slice oa o.length oc)] (kOp (cAt Y90 [1,1,1,0,0,0]) [1,0,1,0,0] 3 KT) [(0,pt bp 0),(2,pt b2 0),(3,iv r),(4,pt b4 0),(38,.slice oa o.length oc),(39,iv r)] [cl w64 b2 1 (.slice oa o.length oc)] (A1 (cell_of (hM67.blk 6 rfl) rfl)) ?_
  refine os0 _ (some 40) (kOp (cAt Y90 [1,1,1,0,0,0]) [1,0,1,0,0] 4 KT) (runs_call E119 (contInt o oa oc r w64 (row_atP (hM67.row 7 rfl)).1 (by omega))) ?_
  rintro _ w68 ⟨rfl,hxc⟩
  have hE69 := hE66.trans hxc
  have hM70 := hM67.ext hxc
  refine sg0 1 (kAt (cAt Y90 [1,1,1,0,0,0]) [1,0,1,0,1] KT) [(0,pt bp 0),(2,pt b2 0),(3,iv r),(4,pt b4 0),(40,.bool (decide (r ∈ o)))] ?_
  refine brd (r ∈ o) (fun h2 => ?_) (fun h2 => ?_)
  ·refine sgz 2 [.ld (vT tk)] (kOp (cAt Y90 [1,1,1,0,0,0]) [1,0,1,0,1,0] 1 KT) [(0,pt bp 0),(2,pt b2 0),(3,iv r),(41,(vT tk))] [cl w68 b4 0 (iv tk.kind),cl w68 b4 1 (sv tk.text),cl w68 b4 2 (iv tk.n),cl w68 b4 3 (iv (tk.at'))] (AC (cell_of (hM70.blk 0 rfl) rfl) (AC (cell_of (hM70.blk 0 rfl) rfl) (AC (cell_of (hM70.blk 0 rfl) rfl) (A1 (cell_of (hM70.blk 0 rfl) rfl))))) ?_
   refine ossP [] (.call 93 [(vT tk),iv 41]) (some 42) (kOp (cAt Y90 [1,1,1,0,0,0]) [1,0,1,0,1,0] 2 KT) [] trivial (runs_callP E93 (fail_any tk 41 w68)) (fun x w' ⟨hx,hE⟩ => ⟨41,tk.at',by have h9 : R = .error (41,tk.at') := (by rw [← hRz]; simp only [origS,hs54,andE_ok]; rw [if_pos (decide_eq_true h2)]; rfl); simp only [destS,hs9,hs19,hs38,andE_ok,hRd,h9,andE_error],hx,hE69.trans hE⟩) ?_
   rintro _ _ ⟨⟩
  have hlt4 := knownS_lt hs54
  simp only at hlt4
  have hon : origS (o,sz) = .ok (o ++ [r],s52) := by simp only [origS,hs54,andE_ok]; exact if_neg (by simpa using h2)
  rw [hon,andE_ok] at hRz
  refine sgz 5 [.ld (.slice oa o.length oc)] (kOp (cAt Y90 [1,1,1,0,0,0]) [1,0,1,1] 3 KT) [(0,pt bp 0),(2,pt b2 0),(44,.slice oa o.length oc),(45,iv r)] [cl w68 b2 1 (.slice oa o.length oc)] (A1 (cell_of (hM70.blk 6 rfl) rfl)) ?_
  refine os0 (.bslice 22 1 [(0,iv r)]) (some 46) (kOp (cAt Y90 [1,1,1,0,0,0]) [1,0,1,1] 4 KT) (runs_bslice (cs := [iv r]) (e := 3) (by kernel_rfl)) ?_
  rintro _ w71 ⟨be,rfl,hN72⟩
  have hE73 := hE69.trans hN72.ext
  have hM74 := hM70.new hN72
  refine os0 (.builtin .append #[22,22] 22 #[false,false] [.slice oa o.length oc,.slice (some ⟨be,0,none⟩) 1 1]) (some 47) (kOp (cAt Y90 [1,1,1,0,0,0]) [1,0,1,1] 5 KT) (runs_appH (e := 3) (size := 1) (bytes := 8) (by kernel_rfl) (hM74.row 8 rfl) (m := 1) (news := [iv r]) (hM74.blk 0 rfl) rfl (by simp [Value.oneCell']) (by omega) (by omega) hM74.base) ?_
  rintro vs76 w75 ⟨hr77,hg78,ho79⟩
  have hr80 : w75.ownsRow w0.heap.size 3 1 vs76 ((o ++ [r]).length) ((o ++ [r]).flatMap intCells) := by simpa [intCells] using hr77
  have hE81 := hM74.toExtApp hE73 8 rfl hg78
  have hM82 := hM74.app 8 rfl hr80 hg78 ho79
  obtain ⟨ov,oc2,hvsvs76⟩ := row_slice (hM82.row 8 rfl)
  subst hvsvs76
  refine sg0 1 (kOp (cAt Y90 [1,1,1,0,0,0]) [1,0,1,1] 6 KT) [(0,pt bp 0),(2,pt b2 0),(47,.slice ov ((o ++ [r]).length) oc2),(48,pt b2 1)] ?_
  refine os0 (.store 22 (pt b2 1) (.slice ov ((o ++ [r]).length) oc2)) none (kOp (cAt Y90 [1,1,1,0,0,0]) [1,0,1,1] 7 KT) (runs_st (hM82.blk 7 rfl) (by kernel_rfl)) ?_
  rintro _ w83 hC84
  have hE85 := hM82.toExt hE81 hC84 7 rfl
  have hM86 := hM82.set 7 rfl hC84
  refine sg0 2 KT [(0,pt bp 0),(2,pt b2 0)] ?_
  have hA87 : ParAt w0 w83 bp ([.blk b2 ([sv x,.slice ov ((o ++ [r]).length) oc2]) 54,.row (.slice ov ((o ++ [r]).length) oc2) 3 1 ((o ++ [r]).length) ((o ++ [r]).flatMap intCells)] ++ X) s52 m53 := ⟨hE85,(hM86.pick 9 [2,3,4,5,6,7,8] (by kernel_rfl) (by kernel_rfl)),hA55.deq,hA55.toks,hA55.cap,hA55.inv⟩
  subst hKT
  exact again (o ++ [r],ov,oc2,s52,m53) [0,2] (by kernel_rfl) (⟨hA87,hRz,(knownS_plan hs54).trans hpz,by show (o ++ [r]).length + s52.ts.length ≤ 10001; rw [List.length_append]; show o.length + 1 + s52.ts.length ≤ 10001; omega⟩) (hlt4)
 have hc : ¬ origC (o,sz) = true := by unfold origC; simp only [Bool.or_eq_true,decide_eq_true_eq,Bool.not_eq_true',decide_eq_false_iff_not]; omega
 rw [originsS_step,if_neg hc] at hRz
 obtain ⟨g,hg⟩ : ∃ g,oa = some ⟨g,0,none⟩ := by rcases (hM47.row 6 rfl).2 with ⟨h0,_⟩ | ⟨g,cap,cur,hv,_⟩; (simp only [Value.slice.injEq] at h0; omega); (simp only [Value.slice.injEq] at hv; exact ⟨g,hv.1⟩)
 subst hg
 have hM88 : Hold wz w0.heap.size ([.blk bp ([iv sz.p.proto,iv sz.p.cap,iv sz.p.k,.slice mz.q.a1 sz.p.nodes.length mz.q.c1,.slice mz.q.a2 sz.p.links.length mz.q.c2,.slice mz.q.a3 sz.p.dests.length mz.q.c3,.slice mz.q.a4 sz.p.checks.length mz.q.c4,.slice mz.ta sz.ts.length mz.tc]) 100,.row (.slice mz.q.a1 sz.p.nodes.length mz.q.c1) 52 2 sz.p.nodes.length (sz.p.nodes.flatMap nodeC),.row (.slice mz.q.a2 sz.p.links.length mz.q.c2) 61 3 sz.p.links.length (sz.p.links.flatMap linkC),.row (.slice mz.q.a3 sz.p.dests.length mz.q.c3) 54 2 sz.p.dests.length (mz.q.ds.flatMap destC),.row (.slice mz.q.a4 sz.p.checks.length mz.q.c4) 67 5 sz.p.checks.length (sz.p.checks.flatMap checkC),.blk b2 ([sv x,.slice (some ⟨g,0,none⟩) o.length oc]) 54,.row (.slice (some ⟨g,0,none⟩) o.length oc) 3 1 o.length (o.flatMap intCells)] ++ (X ++ origP mz.q.ds)) := hM47
 refine sgz 5 [.ld (.slice (some ⟨g,0,none⟩) o.length oc)] (kOp Y90 (ro1 4 [0]) 2 []) [(0,pt bp 0),(2,pt b2 0),(50,.slice (some ⟨g,0,none⟩) o.length oc)] [cl wz b2 1 (.slice (some ⟨g,0,none⟩) o.length oc)] (A1 (cell_of (hM88.blk 5 rfl) rfl)) ?_
 refine os0 _ (some 51) (kOp Y90 (ro1 4 [0]) 3 []) (runs_call E120 (sortI_any w0.heap.size g oc o wz (by omega) (hM88.row 6 rfl))) ?_
 rintro _ w89 ⟨rfl,hr90,hg91⟩
 have hE92 := hM88.toExtApp hE46 6 rfl hg91
 have hM93 : Hold w89 w0.heap.size ([.blk bp ([iv sz.p.proto,iv sz.p.cap,iv sz.p.k,.slice mz.q.a1 sz.p.nodes.length mz.q.c1,.slice mz.q.a2 sz.p.links.length mz.q.c2,.slice mz.q.a3 sz.p.dests.length mz.q.c3,.slice mz.q.a4 sz.p.checks.length mz.q.c4,.slice mz.ta sz.ts.length mz.tc]) 100,.row (.slice mz.q.a1 sz.p.nodes.length mz.q.c1) 52 2 sz.p.nodes.length (sz.p.nodes.flatMap nodeC),.row (.slice mz.q.a2 sz.p.links.length mz.q.c2) 61 3 sz.p.links.length (sz.p.links.flatMap linkC),.row (.slice mz.q.a3 sz.p.dests.length mz.q.c3) 54 2 sz.p.dests.length (mz.q.ds.flatMap destC),.row (.slice mz.q.a4 sz.p.checks.length mz.q.c4) 67 5 sz.p.checks.length (sz.p.checks.flatMap checkC),.blk b2 ([sv x,.slice (some ⟨g,0,none⟩) o.length oc]) 54,.row (.slice (some ⟨g,0,none⟩) (sortI o).length oc) 3 1 ((sortI o).length) ((sortI o).flatMap intCells)] ++ (X ++ origP mz.q.ds)) := hM88.app 6 rfl hr90 hg91 (.inl rfl)
 refine sg0 4 (kOp Y90 (ro1 5 [0]) 1 []) [(0,pt bp 0),(2,pt b2 0),(52,pt bp 0)] ?_
 have hRd2 := hRd
 rw [← hRz] at hRd2
 have hA94 : ParAt w0 w89 bp ([.blk b2 ([sv x,.slice (some ⟨g,0,none⟩) o.length oc]) 54,.row (.slice (some ⟨g,0,none⟩) (sortI o).length oc) 3 1 ((sortI o).length) ((sortI o).flatMap intCells)] ++ X) sz mz := ⟨hE92,hM93,hAz.deq,hAz.toks,hAz.cap,hAz.inv⟩
 refine ossP [] (.call 112 [pt bp 0]) (some 53) (kOp Y90 (ro1 5 [0]) 2 []) [] trivial (runs_callP E112 (stop_any w0 bp ([.blk b2 ([sv x,.slice (some ⟨g,0,none⟩) o.length oc]) 54,.row (.slice (some ⟨g,0,none⟩) (sortI o).length oc) 3 1 ((sortI o).length) ((sortI o).flatMap intCells)] ++ X) sz mz w89 hA94)) (fun x w' ⟨e,a,he,hx,hE⟩ => ⟨e,a,by simp only [destS,hs9,hs19,hs38,andE_ok,hRd2,he,andE_error],hx,hE⟩) ?_
 rintro _ w95 ⟨s96,m97,hs98,rfl,hA99⟩
 have hE100 : Ext w0 w95 := hA99.ext
 have hM101 := hA99.hold
 have hp102 := hA99.inv.pos
 have ha103 := hA99.toks.addrE tokCells_len (by decide) hp102
 have hp5 : s96.p.dests.length < 4 := by rw [stopS_plan hs98,hpz]; exact hp1.2
 have hsl := sortI_len o
 refine sg0 1 (kAt Y90 (ro1 6 []) []) [(0,pt bp 0),(2,pt b2 0)] ?_
 refine dBegin (k' := []) (id := 10) (m := 13) (ops := opsAt (cAt Y90 (ro1 6 []))) (fun _ w' => w'.heap[b2]? = some (.cells #[sv x,.slice (some ⟨g,0,none⟩) o.length oc] 54 (0,0))) (by kernel_rfl) (PQ.body _ _ _) (by kernel_rfl) (by kernel_rfl) ?_
 intro w104 hx105
 have hE106 := hE100.trans hx105
 have hM107 := hM101.ext hx105
 refine dtz [0,1,2,3,4,6] [.ld (.agg #[sv x,.slice (some ⟨g,0,none⟩) o.length oc])] 7 (lb 13 95) [(54,pt bp 0),(58,pt bp 5),(60,.agg #[sv x,.slice (some ⟨g,0,none⟩) o.length oc])] (fun w' => [cl w' b2 0 (sv x),cl w' b2 1 (.slice (some ⟨g,0,none⟩) o.length oc)]) (fun w' hS => (AC (cell_of hS rfl) (A1 (cell_of hS rfl)))) ((hM107.blk 5 rfl)) ?_
 refine dAll 5 [7] (by kernel_rfl) ?_
 refine ⟨?_,?_⟩
 ·refine dos [] (.load 26 (pt bp 5)) (some 59) [] (lb 13 127) trivial (runs_load (v := .slice m97.q.a3 s96.p.dests.length m97.q.c3) (ps := [cl w104 bp 5 (.slice m97.q.a3 s96.p.dests.length m97.q.c3)]) (by kernel_rfl) (A1 (cell_of (hM107.blk 0 rfl) rfl))) ?_
  rintro _ _ ⟨rfl,rfl⟩
  refine ⟨(hM107.blk 5 rfl),?_⟩
  refine dAll 7 [] (by kernel_rfl) ?_
  refine dos [] (.bslice 26 1 [(0,.agg #[sv x,.slice (some ⟨g,0,none⟩) o.length oc])]) (some 61) [] (lb 13 255) trivial (runs_bslice (cs := [sv x,.slice (some ⟨g,0,none⟩) o.length oc]) (e := 54) (by kernel_rfl)) ?_
  rintro _ w108 ⟨be,rfl,hN109⟩
  have hE110 := hE106.trans hN109.ext
  have hM111 := hM107.new hN109
  refine ⟨(hM111.blk 6 rfl),?_⟩
  refine dAll 8 [] (by kernel_rfl) ?_
  refine dos [] (.builtin .append #[26,26] 26 #[false,false] [.slice m97.q.a3 s96.p.dests.length m97.q.c3,.slice (some ⟨be,0,none⟩) 1 1]) (some 62) [] (lb 13 511) trivial (runs_appH (e := 54) (size := 2) (bytes := 40) (by kernel_rfl) (hM111.row 4 rfl) (m := 1) (news := [sv x,.slice (some ⟨g,0,none⟩) o.length oc]) (hM111.blk 0 rfl) rfl (by simp [Value.oneCell']) (by omega) (by omega) hM111.base) ?_
  rintro vs113 w112 ⟨hr114,hg115,ho116⟩
  have hr117 : w112.ownsRow w0.heap.size 54 2 vs113 ((s96.p.dests ++ [(⟨x,sortI o⟩ : PDest)]).length) ((m97.q.ds ++ [(⟨⟨x,sortI o⟩,some ⟨g,0,none⟩,oc⟩ : DA)]).flatMap destC) := by simpa [destC,hsl] using hr114
  have hE118 := hM111.toExtApp hE110 4 rfl hg115
  have hM119 := hM111.app 4 rfl hr117 hg115 ho116
  obtain ⟨av,ac,hvsvs113⟩ := row_slice (hM119.row 4 rfl)
  subst hvsvs113
  refine ⟨(hM119.blk 6 rfl),?_⟩
  refine dtz [9,10,11] [] 1 (lb 13 4095) [(62,.slice av ((s96.p.dests ++ [(⟨x,sortI o⟩ : PDest)]).length) ac),(65,pt bp 5)] (fun w' => []) (fun w' hS => trivial) ((hM119.blk 6 rfl)) ?_
  refine dAll 12 [] (by kernel_rfl) ?_
  refine dos [] (.store 26 (pt bp 5) (.slice av ((s96.p.dests ++ [(⟨x,sortI o⟩ : PDest)]).length) ac)) none [] (lb 13 8191) trivial (runs_st (hM119.blk 1 rfl) (by kernel_rfl)) ?_
  rintro _ w120 hC121
  have hE122 := hM119.toExt hE118 hC121 1 rfl
  have hM123 := hM119.set 1 rfl hC121
  refine ⟨(hM123.blk 6 rfl),?_⟩
  refine dDone (by kernel_rfl) ?_
  have hM124 : Hold w120 w0.heap.size ([.blk be ([sv x,.slice (some ⟨g,0,none⟩) o.length oc]) 54,.blk bp ([iv s96.p.proto,iv s96.p.cap,iv s96.p.k,.slice m97.q.a1 s96.p.nodes.length m97.q.c1,.slice m97.q.a2 s96.p.links.length m97.q.c2,.slice av ((s96.p.dests ++ [(⟨x,sortI o⟩ : PDest)]).length) ac,.slice m97.q.a4 s96.p.checks.length m97.q.c4,.slice m97.ta s96.ts.length m97.tc]) 100,.row (.slice m97.q.a1 s96.p.nodes.length m97.q.c1) 52 2 s96.p.nodes.length (s96.p.nodes.flatMap nodeC),.row (.slice m97.q.a2 s96.p.links.length m97.q.c2) 61 3 s96.p.links.length (s96.p.links.flatMap linkC),.row (.slice av ((s96.p.dests ++ [(⟨x,sortI o⟩ : PDest)]).length) ac) 54 2 ((s96.p.dests ++ [(⟨x,sortI o⟩ : PDest)]).length) ((m97.q.ds ++ [(⟨⟨x,sortI o⟩,some ⟨g,0,none⟩,oc⟩ : DA)]).flatMap destC),.row (.slice m97.q.a4 s96.p.checks.length m97.q.c4) 67 5 s96.p.checks.length (s96.p.checks.flatMap checkC),.blk b2 ([sv x,.slice (some ⟨g,0,none⟩) o.length oc]) 54,.row (.slice (some ⟨g,0,none⟩) (sortI o).length oc) 3 1 ((sortI o).length) ((sortI o).flatMap intCells)] ++ (X ++ origP m97.q.ds)) := hM123
  have hM125 : Hold w120 w0.heap.size ([.blk bp ([iv s96.p.proto,iv s96.p.cap,iv s96.p.k,.slice m97.q.a1 s96.p.nodes.length m97.q.c1,.slice m97.q.a2 s96.p.links.length m97.q.c2,.slice av ((s96.p.dests ++ [(⟨x,sortI o⟩ : PDest)]).length) ac,.slice m97.q.a4 s96.p.checks.length m97.q.c4,.slice m97.ta s96.ts.length m97.tc]) 100,.row (.slice m97.q.a1 s96.p.nodes.length m97.q.c1) 52 2 s96.p.nodes.length (s96.p.nodes.flatMap nodeC),.row (.slice m97.q.a2 s96.p.links.length m97.q.c2) 61 3 s96.p.links.length (s96.p.links.flatMap linkC),.row (.slice av ((s96.p.dests ++ [(⟨x,sortI o⟩ : PDest)]).length) ac) 54 2 ((s96.p.dests ++ [(⟨x,sortI o⟩ : PDest)]).length) ((m97.q.ds ++ [(⟨⟨x,sortI o⟩,some ⟨g,0,none⟩,oc⟩ : DA)]).flatMap destC),.row (.slice m97.q.a4 s96.p.checks.length m97.q.c4) 67 5 s96.p.checks.length (s96.p.checks.flatMap checkC),.row (.slice (some ⟨g,0,none⟩) (sortI o).length oc) 3 1 ((sortI o).length) ((sortI o).flatMap intCells)] ++ (X ++ origP m97.q.ds)) := hM124.keepTail [1,2,3,4,5,7] (by decide) (by simp) rfl
  have hM126 := hM125.toTail 5 rfl rfl
  rw [show (X ++ origP m97.q.ds) ++ [_] = X ++ origP (m97.q.ds ++ [(⟨⟨x,sortI o⟩,some ⟨g,0,none⟩,oc⟩ : DA)]) from origP_snoc X m97.q.ds (⟨⟨x,sortI o⟩,some ⟨g,0,none⟩,oc⟩ : DA)] at hM126
  exact endP (hs := []) (vs := []) (ps := []) (by kernel_rfl) trivial (v := .tuple #[]) rfl (⟨⟨addDest s96.p ⟨x,sortI o⟩,s96.ts⟩,⟨{ m97.q with a3 := av,c3 := ac,ds := (m97.q.ds ++ [(⟨⟨x,sortI o⟩,some ⟨g,0,none⟩,oc⟩ : DA)]) },m97.ta,m97.tc⟩,by simp only [destS,hs9,hs19,hs38,andE_ok,hRd2,hs98],rfl,⟨hE122,hM126,by show (m97.q.ds ++ [(⟨⟨x,sortI o⟩,some ⟨g,0,none⟩,oc⟩ : DA)]).map (·.d) = (s96.p.dests ++ [(⟨x,sortI o⟩ : PDest)]); rw [List.map_append,hA99.deq]; rfl,hA99.toks,hA99.cap,hA99.inv.dest hp5 hxl (by show (sortI o).length ≤ 10001; omega)⟩⟩)
 refine dos [] (.bslice 26 1 [(0,.agg #[sv x,.slice (some ⟨g,0,none⟩) o.length oc])]) (some 61) [] (lb 13 223) trivial (runs_bslice (cs := [sv x,.slice (some ⟨g,0,none⟩) o.length oc]) (e := 54) (by kernel_rfl)) ?_
 rintro _ w127 ⟨be,rfl,hN128⟩
 have hE129 := hE106.trans hN128.ext
 have hM130 := hM107.new hN128
 refine ⟨(hM130.blk 6 rfl),?_⟩
 refine dAll 5 [] (by kernel_rfl) ?_
 refine dos [] (.load 26 (pt bp 5)) (some 59) [] (lb 13 255) trivial (runs_load (v := .slice m97.q.a3 s96.p.dests.length m97.q.c3) (ps := [cl w127 bp 5 (.slice m97.q.a3 s96.p.dests.length m97.q.c3)]) (by kernel_rfl) (A1 (cell_of (hM130.blk 1 rfl) rfl))) ?_
 rintro _ _ ⟨rfl,rfl⟩
 refine ⟨(hM130.blk 6 rfl),?_⟩
 refine dAll 8 [] (by kernel_rfl) ?_
 refine dos [] (.builtin .append #[26,26] 26 #[false,false] [.slice m97.q.a3 s96.p.dests.length m97.q.c3,.slice (some ⟨be,0,none⟩) 1 1]) (some 62) [] (lb 13 511) trivial (runs_appH (e := 54) (size := 2) (bytes := 40) (by kernel_rfl) (hM130.row 4 rfl) (m := 1) (news := [sv x,.slice (some ⟨g,0,none⟩) o.length oc]) (hM130.blk 0 rfl) rfl (by simp [Value.oneCell']) (by omega) (by omega) hM130.base) ?_
 rintro vs132 w131 ⟨hr133,hg134,ho135⟩
 have hr136 : w131.ownsRow w0.heap.size 54 2 vs132 ((s96.p.dests ++ [(⟨x,sortI o⟩ : PDest)]).length) ((m97.q.ds ++ [(⟨⟨x,sortI o⟩,some ⟨g,0,none⟩,oc⟩ : DA)]).flatMap destC) := by simpa [destC,hsl] using hr133
 have hE137 := hM130.toExtApp hE129 4 rfl hg134
 have hM138 := hM130.app 4 rfl hr136 hg134 ho135
 obtain ⟨av,ac,hvsvs132⟩ := row_slice (hM138.row 4 rfl)
 subst hvsvs132
 refine ⟨(hM138.blk 6 rfl),?_⟩
 refine dtz [9,10,11] [] 1 (lb 13 4095) [(62,.slice av ((s96.p.dests ++ [(⟨x,sortI o⟩ : PDest)]).length) ac),(65,pt bp 5)] (fun w' => []) (fun w' hS => trivial) ((hM138.blk 6 rfl)) ?_
 refine dAll 12 [] (by kernel_rfl) ?_
 refine dos [] (.store 26 (pt bp 5) (.slice av ((s96.p.dests ++ [(⟨x,sortI o⟩ : PDest)]).length) ac)) none [] (lb 13 8191) trivial (runs_st (hM138.blk 1 rfl) (by kernel_rfl)) ?_
 rintro _ w139 hC140
 have hE141 := hM138.toExt hE137 hC140 1 rfl
 have hM142 := hM138.set 1 rfl hC140
 refine ⟨(hM142.blk 6 rfl),?_⟩
 refine dDone (by kernel_rfl) ?_
 have hM143 : Hold w139 w0.heap.size ([.blk be ([sv x,.slice (some ⟨g,0,none⟩) o.length oc]) 54,.blk bp ([iv s96.p.proto,iv s96.p.cap,iv s96.p.k,.slice m97.q.a1 s96.p.nodes.length m97.q.c1,.slice m97.q.a2 s96.p.links.length m97.q.c2,.slice av ((s96.p.dests ++ [(⟨x,sortI o⟩ : PDest)]).length) ac,.slice m97.q.a4 s96.p.checks.length m97.q.c4,.slice m97.ta s96.ts.length m97.tc]) 100,.row (.slice m97.q.a1 s96.p.nodes.length m97.q.c1) 52 2 s96.p.nodes.length (s96.p.nodes.flatMap nodeC),.row (.slice m97.q.a2 s96.p.links.length m97.q.c2) 61 3 s96.p.links.length (s96.p.links.flatMap linkC),.row (.slice av ((s96.p.dests ++ [(⟨x,sortI o⟩ : PDest)]).length) ac) 54 2 ((s96.p.dests ++ [(⟨x,sortI o⟩ : PDest)]).length) ((m97.q.ds ++ [(⟨⟨x,sortI o⟩,some ⟨g,0,none⟩,oc⟩ : DA)]).flatMap destC),.row (.slice m97.q.a4 s96.p.checks.length m97.q.c4) 67 5 s96.p.checks.length (s96.p.checks.flatMap checkC),.blk b2 ([sv x,.slice (some ⟨g,0,none⟩) o.length oc]) 54,.row (.slice (some ⟨g,0,none⟩) (sortI o).length oc) 3 1 ((sortI o).length) ((sortI o).flatMap intCells)] ++ (X ++ origP m97.q.ds)) := hM142
 have hM144 : Hold w139 w0.heap.size ([.blk bp ([iv s96.p.proto,iv s96.p.cap,iv s96.p.k,.slice m97.q.a1 s96.p.nodes.length m97.q.c1,.slice m97.q.a2 s96.p.links.length m97.q.c2,.slice av ((s96.p.dests ++ [(⟨x,sortI o⟩ : PDest)]).length) ac,.slice m97.q.a4 s96.p.checks.length m97.q.c4,.slice m97.ta s96.ts.length m97.tc]) 100,.row (.slice m97.q.a1 s96.p.nodes.length m97.q.c1) 52 2 s96.p.nodes.length (s96.p.nodes.flatMap nodeC),.row (.slice m97.q.a2 s96.p.links.length m97.q.c2) 61 3 s96.p.links.length (s96.p.links.flatMap linkC),.row (.slice av ((s96.p.dests ++ [(⟨x,sortI o⟩ : PDest)]).length) ac) 54 2 ((s96.p.dests ++ [(⟨x,sortI o⟩ : PDest)]).length) ((m97.q.ds ++ [(⟨⟨x,sortI o⟩,some ⟨g,0,none⟩,oc⟩ : DA)]).flatMap destC),.row (.slice m97.q.a4 s96.p.checks.length m97.q.c4) 67 5 s96.p.checks.length (s96.p.checks.flatMap checkC),.row (.slice (some ⟨g,0,none⟩) (sortI o).length oc) 3 1 ((sortI o).length) ((sortI o).flatMap intCells)] ++ (X ++ origP m97.q.ds)) := hM143.keepTail [1,2,3,4,5,7] (by decide) (by simp) rfl
 have hM145 := hM144.toTail 5 rfl rfl
 rw [show (X ++ origP m97.q.ds) ++ [_] = X ++ origP (m97.q.ds ++ [(⟨⟨x,sortI o⟩,some ⟨g,0,none⟩,oc⟩ : DA)]) from origP_snoc X m97.q.ds (⟨⟨x,sortI o⟩,some ⟨g,0,none⟩,oc⟩ : DA)] at hM145
 exact endP (hs := []) (vs := []) (ps := []) (by kernel_rfl) trivial (v := .tuple #[]) rfl (⟨⟨addDest s96.p ⟨x,sortI o⟩,s96.ts⟩,⟨{ m97.q with a3 := av,c3 := ac,ds := (m97.q.ds ++ [(⟨⟨x,sortI o⟩,some ⟨g,0,none⟩,oc⟩ : DA)]) },m97.ta,m97.tc⟩,by simp only [destS,hs9,hs19,hs38,andE_ok,hRd2,hs98],rfl,⟨hE141,hM145,by show (m97.q.ds ++ [(⟨⟨x,sortI o⟩,some ⟨g,0,none⟩,oc⟩ : DA)]).map (·.d) = (s96.p.dests ++ [(⟨x,sortI o⟩ : PDest)]); rw [List.map_append,hA99.deq]; rfl,hA99.toks,hA99.cap,hA99.inv.dest hp5 hxl (by show (sortI o).length ≤ 10001; omega)⟩⟩)

end Go.Proofs.YtjhgghpeapmgdaaGreatDoor
