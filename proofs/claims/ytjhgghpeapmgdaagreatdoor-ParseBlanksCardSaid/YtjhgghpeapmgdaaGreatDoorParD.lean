/-
  PARSE: the contract of dest.
-/
import Derived.Test.YtjhgghpeapmgdaaGreatDoorParC
import Derived.Test.YtjhgghpeapmgdaaGreatDoorLz
import Derived.Test.YtjhgghpeapmgdaaGreatDoorMg2
namespace Go.Proofs.YtjhgghpeapmgdaaGreatDoor
open Go.Bk Go.Proofs

theorem origP_snoc (X : List Res) (ds : List DA) (d : DA) : (X ++ origP ds) ++ [.row (.slice d.a d.d.origins.length d.c) 3 1 d.d.origins.length (d.d.origins.flatMap intCells)] = X ++ origP (ds ++ [d]) := by simp [origP]

def destOL (w0 : World) (bp b2 : Nat) (X : List Res) (nm : Bytes) (p0 : PPlan) (R : PE (List Int × PSt)) : Lp (List Int × Option Addr × Nat × PSt × PM) where
  S := fun _ => [(0,none,pt bp 0),(2,none,pt b2 0)]
  J := fun x w' => ParAt w0 w' bp ([.blk b2 [.string (bs nm),.slice x.2.1 x.1.length x.2.2.1] 54,.row (.slice x.2.1 x.1.length x.2.2.1) 3 1 x.1.length (x.1.flatMap intCells)] ++ X) x.2.2.2.1 x.2.2.2.2 ∧ originsS (x.1,x.2.2.2.1) = R ∧ x.2.2.2.1.p = p0 ∧ x.1.length + x.2.2.2.1.ts.length ≤ 10001
  M := fun x => x.2.2.2.1.ts.length
set_option maxRecDepth 20000 in
theorem dest_anyP (w0 : World) (bp : Nat) (X : List Res) (s : PSt) (m : PM) (w : World) (hA : ParAt w0 w bp X s m) :
    DoesP Tryz.prog 90 [pt bp 0] w (fun v w' => ∃ s' m',destS s = .ok s' ∧ v = .tuple #[] ∧ ParAt w0 w' bp X s' m') (PanP (destS s) w0) := by
 refine startZP (c := Y90) Tryz.func90 rfl (by kernel_rfl) ?_
 show H _ 66 [] _ (kAt Y90 [] []) (stz [(0,pt bp 0)]) w
 have hE1 : Ext w0 w := hA.ext
 have hM2 := hA.hold
 have hp3 := hA.inv.pos
 have ha4 := hA.toks.addrE tokCells_len (by decide) hp3
 refine Zh 9 [.c 0 5] hM2 trivial ?_
 have hA5 : ParAt w0 w bp X s m := ⟨hE1,hM2,hA.deq,hA.toks,hA.cap,hA.inv⟩
 refine ZlP 0 E113 (head_any w0 bp X s m wdDest 4 (s.p.dests.length : Int) w hA5) (fun x w' ⟨e,a,he,hx,hE⟩ => ⟨e,a,by simp only [destS,he,andE_error],hx,hE⟩) ?_
 rintro _ w6 ⟨s7,m8,hs9,rfl,hA10⟩
 have hE11 : Ext w0 w6 := hA10.ext
 have hM12 := hA10.hold
 have hp13 := hA10.inv.pos
 have ha14 := hA10.toks.addrE tokCells_len (by decide) hp13
 have hp1 : s7.p = s.p ∧ s.p.dests.length < 4 := headS_plan hs9
 have hA15 : ParAt w0 w6 bp X s7 m8 := ⟨hE11,hM12,hA10.deq,hA10.toks,hA10.cap,hA10.inv⟩
 refine ZlP 4 E114 (fresh_any w0 bp X s7 m8 w6 hA15) (fun x w' ⟨e,a,he,hx,hE⟩ => ⟨e,a,by simp only [destS,hs9,he,andE_ok,andE_error],hx,hE⟩) ?_
 rintro _ w16 ⟨x,s17,m18,hs19,rfl,hA20,hxl⟩
 have hE21 : Ext w0 w16 := hA20.ext
 have hM22 := hA20.hold
 have hp23 := hA20.inv.pos
 have ha24 := hA20.toks.addrE tokCells_len (by decide) hp23
 refine Za 1 54 [sv ([]),.slice none 0 0] hE21 hM22 ?_
 intro b2 w25 hE27 hM28
 refine Zt 0 0 0 (.agg #[sv x,.slice none 0 0]) rfl hE27 hM28 ?_
 intro w29 hE31 hM32
 have hA34 : ParAt w0 w29 bp ([.blk b2 ([sv x,.slice none 0 0]) 54] ++ X) s17 m18 := ⟨hE31,(hM32.pick 6 [1,2,3,4,5,0] (by kernel_rfl) (by kernel_rfl)),hA20.deq,hA20.toks,hA20.cap,hA20.inv⟩
 refine ZlP 4 E110 (word_any w0 bp ([.blk b2 ([sv x,.slice none 0 0]) 54] ++ X) s17 m18 wdAt w29 hA34) (fun x w' ⟨e,a,he,hx,hE⟩ => ⟨e,a,by simp only [destS,hs9,hs19,he,andE_ok,andE_error],hx,hE⟩) ?_
 rintro _ w35 ⟨t33,s36,m37,hs38,rfl,hA39⟩
 have hE40 : Ext w0 w35 := hA39.ext
 have hM41 := hA39.hold
 have hp42 := hA39.inv.pos
 have ha43 := hA39.toks.addrE tokCells_len (by decide) hp42
 have hp3 : s36.p = s.p := by rw [wordS_plan hs38,freshS_plan hs19,hp1.1]
 have hlen3 : s36.ts.length ≤ 10001 := hA39.inv.len
 obtain ⟨R,hRd⟩ : ∃ R,originsS ([],s36) = R := ⟨_,rfl⟩
 have hM44 := hM41.nilRow (e := 3) (size := 1)
 have hA45 : ParAt w0 w35 bp ([.blk b2 ([sv x,.slice none 0 0]) 54,.row (.slice none 0 0) 3 1 0 ([])] ++ X) s36 m37 := ⟨hE40,(hM44.pick 7 [1,2,3,4,5,6,0] (by kernel_rfl) (by kernel_rfl)),hA39.deq,hA39.toks,hA39.cap,hA39.inv⟩
 refine Zs 3 [] [] trivial ?_
 refine ZLoop (destOL w0 bp b2 X x s.p R) (k' := (kEnd Y90 [1,1,1,0,0] [])) (body := (cAt Y90 [1,1,1,0,0,0])) (by kernel_rfl) ([],none,0,s36,m37) [0,2] (by kernel_rfl) (⟨hA45,hRd,hp3,by simpa using hlen3⟩) ?_
 rintro ⟨o,oa,oc,sz,mz⟩ wz ⟨hAz,hRz,hpz,hlz⟩
 simp only at hAz hRz hpz hlz
 show H _ _ _ _ (kAt (cAt Y90 [1,1,1,0,0,0]) [] (.inv (LI 66 [] (destOL w0 bp b2 X x s.p R) (o,oa,oc,sz,mz)) :: (kEnd Y90 [1,1,1,0,0] []))) (stz [(0,pt bp 0),(2,pt b2 0)]) wz
 have hE46 : Ext w0 wz := hAz.ext
 have hM47 := hAz.hold
 have hp48 := hAz.inv.pos
 have ha49 := hAz.toks.addrE tokCells_len (by decide) hp48
 refine Zf 18 [.c 5 1,.gn 0,.gn 0,.gn 0,.y,.y,.y,.y,.gc 0 0 7,.gn 0,.p (fun _ => (!(decide ((o.length:Int) = (0 : Int)))) = true → (0 ≤ (0 : Int) ∧ (0 : Int) < (sz.ts.length:Int))),.p (fun _ => (!(decide ((o.length:Int) = (0 : Int)))) = true → (mz.ta : Option Addr) = some ⟨(slB mz.ta),slO mz.ta,none⟩),.gn 0,.gn 0,.p (fun _ => (!(decide ((o.length:Int) = (0 : Int)))) = true → cl wz (slB mz.ta) (slO mz.ta + 0) (iv sz.hd.kind)),.gn 0,.gn 0,.y,.y,.y,.v (iv sz.hd.kind),.y] hM47 [] trivial [!(decide ((o.length:Int) = (0 : Int)))] (AC (by intro h; (try simp only [Bool.not_eq_true',decide_eq_false_iff_not] at h); first | done | omega) (AC (by intro _; assumption) (A1 (fun _ => hE46.cell (hd_cell hAz.toks hp48 0 rfl))))) ?_
 refine Zr 0 _ (((o.length:Int) = (0 : Int)) ∨ (¬ ((sz.hd.kind : Int) = (3 : Int)))) ((iffOr iffDec (iffNot iffDec))) (fun h1 => ?_) (fun h1 => ?_)
 ·generalize hKT : ((.inv (LI 66 [] (destOL w0 bp b2 X x s.p R) (o,oa,oc,sz,mz)) :: (kEnd Y90 [1,1,1,0,0] [])) : List Fr) = KT
  have hc : origC (o,sz) = true := by unfold origC; simp only [Bool.or_eq_true,decide_eq_true_eq,Bool.not_eq_true',decide_eq_false_iff_not]; omega
  rw [originsS_step,if_pos hc] at hRz
  have hA50 : ParAt w0 wz bp ([.blk b2 ([sv x,.slice oa o.length oc]) 54,.row (.slice oa o.length oc) 3 1 o.length (o.flatMap intCells)] ++ X) sz mz := ⟨hE46,hM47,hAz.deq,hAz.toks,hAz.cap,hAz.inv⟩
  refine ZlP 5 E116 (known_any w0 bp ([.blk b2 ([sv x,.slice oa o.length oc]) 54,.row (.slice oa o.length oc) 3 1 o.length (o.flatMap intCells)] ++ X) sz mz 21 nodeIx wz hA50 E21 nodeIx_any) (fun x w' ⟨e,a,he,hx,hE⟩ => ⟨e,a,by have h9 : R = .error (e,a) := (by rw [← hRz]; simp only [origS,he,andE_error]); simp only [destS,hs9,hs19,hs38,andE_ok,hRd,h9,andE_error],hx,hE⟩) ?_
  rintro _ w51 ⟨r,tk,s52,m53,hs54,rfl,hA55⟩
  have hE56 : Ext w0 w51 := hA55.ext
  have hM57 := hA55.hold
  have hp58 := hA55.inv.pos
  have ha59 := hA55.toks.addrE tokCells_len (by decide) hp58
  refine Za 3 49 [iv 0,sv ([]),iv 0,iv 0] hE56 hM57 ?_
  intro b4 w60 hE62 hM63
  refine Zt 1 0 0 (vT tk) rfl hE62 hM63 ?_
  intro w64 hE66 hM67
  refine Zh 7 [.c 6 1] hM67 trivial ?_
  refine Zl 0 E119 (contInt o oa oc r w64 (row_atP (hM67.row 7 rfl)).1 (by omega)) ?_
  rintro _ w68 ⟨rfl,hxc⟩
  obtain ⟨hE69,hM70⟩ := Xt hE66 hM67 hxc
  refine Zq 1 (r ∈ o) (fun h2 => ?_) (fun h2 => ?_)
  ·refine Zh 2 [.a 0 0 4] hM70 trivial ?_
   refine ZlP 0 E93 (fail_any tk 41 w68) (fun x w' ⟨hx,hE⟩ => ⟨41,tk.at',by have h9 : R = .error (41,tk.at') := (by rw [← hRz]; simp only [origS,hs54,andE_ok]; rw [if_pos (decide_eq_true h2)]; rfl); simp only [destS,hs9,hs19,hs38,andE_ok,hRd,h9,andE_error],hx,hE69.trans hE⟩) ?_
   rintro _ _ ⟨⟩
  have hlt4 := knownS_lt hs54
  simp only at hlt4
  have hon : origS (o,sz) = .ok (o ++ [r],s52) := by simp only [origS,hs54,andE_ok]; exact if_neg (by simpa using h2)
  rw [hon,andE_ok] at hRz
  refine Zh 5 [.c 6 1] hM70 trivial ?_
  refine Zd 0 1 [iv r] 3 hE69 hM70 ?_
  intro be w71 hE73 hM74
  refine Zp 0 8 0 1 8 ((o ++ [r]).length) ((o ++ [r]).flatMap intCells) rfl rfl ⟨by omega,by omega⟩ (fun _ _ h => by simpa [intCells] using h) hE73 hM74 ?_
  intro ov oc2 w75 hE76 hM77
  refine Zt 1 7 1 (.slice ov ((o ++ [r]).length) oc2) rfl hE76 hM77 ?_
  intro w78 hE80 hM81
  have hA82 : ParAt w0 w78 bp ([.blk b2 ([sv x,.slice ov ((o ++ [r]).length) oc2]) 54,.row (.slice ov ((o ++ [r]).length) oc2) 3 1 ((o ++ [r]).length) ((o ++ [r]).flatMap intCells)] ++ X) s52 m53 := ⟨hE80,(hM81.pick 9 [2,3,4,5,6,7,8] (by kernel_rfl) (by kernel_rfl)),hA55.deq,hA55.toks,hA55.cap,hA55.inv⟩
  subst hKT
  exact ZA 2 (destOL w0 bp b2 X x s.p R) (o,oa,oc,sz,mz) (o ++ [r],ov,oc2,s52,m53) [0,2] (⟨hA82,hRz,(knownS_plan hs54).trans hpz,by show (o ++ [r]).length + s52.ts.length ≤ 10001; rw [List.length_append]; show o.length + 1 + s52.ts.length ≤ 10001; omega⟩) (hlt4)
 have hc : ¬ origC (o,sz) = true := by unfold origC; simp only [Bool.or_eq_true,decide_eq_true_eq,Bool.not_eq_true',decide_eq_false_iff_not]; omega
 rw [originsS_step,if_neg hc] at hRz
 obtain ⟨g,hg⟩ : ∃ g,oa = some ⟨g,0,none⟩ := by rcases (hM47.row 6 rfl).2 with ⟨h0,_⟩ | ⟨g,cap,cur,hv,_⟩; (simp only [Value.slice.injEq] at h0; omega); (simp only [Value.slice.injEq] at hv; exact ⟨g,hv.1⟩)
 subst hg
 have hM83 : Hold wz w0.heap.size ([.blk bp ([iv sz.p.proto,iv sz.p.cap,iv sz.p.k,.slice mz.q.a1 sz.p.nodes.length mz.q.c1,.slice mz.q.a2 sz.p.links.length mz.q.c2,.slice mz.q.a3 sz.p.dests.length mz.q.c3,.slice mz.q.a4 sz.p.checks.length mz.q.c4,.slice mz.ta sz.ts.length mz.tc]) 100,.row (.slice mz.q.a1 sz.p.nodes.length mz.q.c1) 52 2 sz.p.nodes.length (sz.p.nodes.flatMap nodeC),.row (.slice mz.q.a2 sz.p.links.length mz.q.c2) 61 3 sz.p.links.length (sz.p.links.flatMap linkC),.row (.slice mz.q.a3 sz.p.dests.length mz.q.c3) 54 2 sz.p.dests.length (mz.q.ds.flatMap destC),.row (.slice mz.q.a4 sz.p.checks.length mz.q.c4) 67 5 sz.p.checks.length (sz.p.checks.flatMap checkC),.blk b2 ([sv x,.slice (some ⟨g,0,none⟩) o.length oc]) 54,.row (.slice (some ⟨g,0,none⟩) o.length oc) 3 1 o.length (o.flatMap intCells)] ++ (X ++ origP mz.q.ds)) := hM47
 refine Zh 5 [.c 5 1] hM83 trivial ?_
 refine Zl 0 E120 (sortI_any w0.heap.size g oc o wz (by omega) (hM83.row 6 rfl)) ?_
 rintro _ w84 ⟨rfl,hr85,hg86⟩
 have hE87 := hM83.toExtApp hE46 6 rfl hg86
 have hM88 : Hold w84 w0.heap.size ([.blk bp ([iv sz.p.proto,iv sz.p.cap,iv sz.p.k,.slice mz.q.a1 sz.p.nodes.length mz.q.c1,.slice mz.q.a2 sz.p.links.length mz.q.c2,.slice mz.q.a3 sz.p.dests.length mz.q.c3,.slice mz.q.a4 sz.p.checks.length mz.q.c4,.slice mz.ta sz.ts.length mz.tc]) 100,.row (.slice mz.q.a1 sz.p.nodes.length mz.q.c1) 52 2 sz.p.nodes.length (sz.p.nodes.flatMap nodeC),.row (.slice mz.q.a2 sz.p.links.length mz.q.c2) 61 3 sz.p.links.length (sz.p.links.flatMap linkC),.row (.slice mz.q.a3 sz.p.dests.length mz.q.c3) 54 2 sz.p.dests.length (mz.q.ds.flatMap destC),.row (.slice mz.q.a4 sz.p.checks.length mz.q.c4) 67 5 sz.p.checks.length (sz.p.checks.flatMap checkC),.blk b2 ([sv x,.slice (some ⟨g,0,none⟩) o.length oc]) 54,.row (.slice (some ⟨g,0,none⟩) (sortI o).length oc) 3 1 ((sortI o).length) ((sortI o).flatMap intCells)] ++ (X ++ origP mz.q.ds)) := hM83.app 6 rfl hr85 hg86 (.inl rfl)
 have hRd2 := hRd
 rw [← hRz] at hRd2
 have hA89 : ParAt w0 w84 bp ([.blk b2 ([sv x,.slice (some ⟨g,0,none⟩) o.length oc]) 54,.row (.slice (some ⟨g,0,none⟩) (sortI o).length oc) 3 1 ((sortI o).length) ((sortI o).flatMap intCells)] ++ X) sz mz := ⟨hE87,hM88,hAz.deq,hAz.toks,hAz.cap,hAz.inv⟩
 refine ZlP 4 E112 (stop_any w0 bp ([.blk b2 ([sv x,.slice (some ⟨g,0,none⟩) o.length oc]) 54,.row (.slice (some ⟨g,0,none⟩) (sortI o).length oc) 3 1 ((sortI o).length) ((sortI o).flatMap intCells)] ++ X) sz mz w84 hA89) (fun x w' ⟨e,a,he,hx,hE⟩ => ⟨e,a,by simp only [destS,hs9,hs19,hs38,andE_ok,hRd2,he,andE_error],hx,hE⟩) ?_
 rintro _ w90 ⟨s91,m92,hs93,rfl,hA94⟩
 have hE95 : Ext w0 w90 := hA94.ext
 have hM96 := hA94.hold
 have hp97 := hA94.inv.pos
 have ha98 := hA94.toks.addrE tokCells_len (by decide) hp97
 have hp5 : s91.p.dests.length < 4 := by rw [stopS_plan hs93,hpz]; exact hp1.2
 have hsl := sortI_len o
 refine Zs 1 [] [] trivial ?_
 refine ZB 13 [] 10 (opsAt (cAt Y90 (ro1 6 []))) (fun _ w' => w'.heap[b2]? = some (.cells #[sv x,.slice (some ⟨g,0,none⟩) o.length oc] 54 (0,0))) ?_
 intro w99 hx100
 obtain ⟨hE101,hM102⟩ := Xt hE95 hM96 hx100
 refine dx [0,1,2,3,4,6] [.ld (.agg #[sv x,.slice (some ⟨g,0,none⟩) o.length oc])] 7 (lb 13 95) (fun w' => [cl w' b2 0 (sv x),cl w' b2 1 (.slice (some ⟨g,0,none⟩) o.length oc)]) (fun w' hS => (AC (cell_of hS rfl) (A1 (cell_of hS rfl)))) ((hM102.blk 5 rfl)) ?_
 refine dAll 5 [7] (by kernel_rfl) ?_
 refine ⟨?_,?_⟩
 ·refine Wo [] (.load 26 (pt bp 5)) [] trivial (runs_load (v := .slice m92.q.a3 s91.p.dests.length m92.q.c3) (ps := [cl w99 bp 5 (.slice m92.q.a3 s91.p.dests.length m92.q.c3)]) (by kernel_rfl) (A1 (cell_of (hM102.blk 0 rfl) rfl))) ?_
  rintro _ _ ⟨rfl,rfl⟩
  refine ⟨(hM102.blk 5 rfl),?_⟩
  refine d1 7 ?_
  refine Wd 1 [sv x,.slice (some ⟨g,0,none⟩) o.length oc] 54 hE101 hM102 ?_
  intro be w103 hx107 hE105 hM106
  refine ⟨(hM106.blk 6 rfl),?_⟩
  refine d1 8 ?_
  refine Wp 4 0 1 40 ((s91.p.dests ++ [(⟨x,sortI o⟩ : PDest)]).length) ((m92.q.ds ++ [(⟨⟨x,sortI o⟩,some ⟨g,0,none⟩,oc⟩ : DA)]).flatMap destC) rfl rfl ⟨by omega,by omega⟩ (fun _ _ h => by simpa [destC,hsl] using h) hE105 hM106 ?_
  intro av ac w108 hE109 hM110
  refine ⟨(hM110.blk 6 rfl),?_⟩
  refine dx0 [9,10,11] [] 1 (lb 13 4095) ((hM110.blk 6 rfl)) ?_
  refine d1 12 ?_
  refine Wt 1 5 (.slice av ((s91.p.dests ++ [(⟨x,sortI o⟩ : PDest)]).length) ac) rfl hE109 hM110 ?_
  intro w111 hE113 hM114
  refine ⟨(hM114.blk 6 rfl),?_⟩
  refine ZD ?_
  have hM115 : Hold w111 w0.heap.size ([.blk be ([sv x,.slice (some ⟨g,0,none⟩) o.length oc]) 54,.blk bp ([iv s91.p.proto,iv s91.p.cap,iv s91.p.k,.slice m92.q.a1 s91.p.nodes.length m92.q.c1,.slice m92.q.a2 s91.p.links.length m92.q.c2,.slice av ((s91.p.dests ++ [(⟨x,sortI o⟩ : PDest)]).length) ac,.slice m92.q.a4 s91.p.checks.length m92.q.c4,.slice m92.ta s91.ts.length m92.tc]) 100,.row (.slice m92.q.a1 s91.p.nodes.length m92.q.c1) 52 2 s91.p.nodes.length (s91.p.nodes.flatMap nodeC),.row (.slice m92.q.a2 s91.p.links.length m92.q.c2) 61 3 s91.p.links.length (s91.p.links.flatMap linkC),.row (.slice av ((s91.p.dests ++ [(⟨x,sortI o⟩ : PDest)]).length) ac) 54 2 ((s91.p.dests ++ [(⟨x,sortI o⟩ : PDest)]).length) ((m92.q.ds ++ [(⟨⟨x,sortI o⟩,some ⟨g,0,none⟩,oc⟩ : DA)]).flatMap destC),.row (.slice m92.q.a4 s91.p.checks.length m92.q.c4) 67 5 s91.p.checks.length (s91.p.checks.flatMap checkC),.blk b2 ([sv x,.slice (some ⟨g,0,none⟩) o.length oc]) 54,.row (.slice (some ⟨g,0,none⟩) (sortI o).length oc) 3 1 ((sortI o).length) ((sortI o).flatMap intCells)] ++ (X ++ origP m92.q.ds)) := hM114
  have hM116 : Hold w111 w0.heap.size ([.blk bp ([iv s91.p.proto,iv s91.p.cap,iv s91.p.k,.slice m92.q.a1 s91.p.nodes.length m92.q.c1,.slice m92.q.a2 s91.p.links.length m92.q.c2,.slice av ((s91.p.dests ++ [(⟨x,sortI o⟩ : PDest)]).length) ac,.slice m92.q.a4 s91.p.checks.length m92.q.c4,.slice m92.ta s91.ts.length m92.tc]) 100,.row (.slice m92.q.a1 s91.p.nodes.length m92.q.c1) 52 2 s91.p.nodes.length (s91.p.nodes.flatMap nodeC),.row (.slice m92.q.a2 s91.p.links.length m92.q.c2) 61 3 s91.p.links.length (s91.p.links.flatMap linkC),.row (.slice av ((s91.p.dests ++ [(⟨x,sortI o⟩ : PDest)]).length) ac) 54 2 ((s91.p.dests ++ [(⟨x,sortI o⟩ : PDest)]).length) ((m92.q.ds ++ [(⟨⟨x,sortI o⟩,some ⟨g,0,none⟩,oc⟩ : DA)]).flatMap destC),.row (.slice m92.q.a4 s91.p.checks.length m92.q.c4) 67 5 s91.p.checks.length (s91.p.checks.flatMap checkC),.row (.slice (some ⟨g,0,none⟩) (sortI o).length oc) 3 1 ((sortI o).length) ((sortI o).flatMap intCells)] ++ (X ++ origP m92.q.ds)) := hM115.keepTail [1,2,3,4,5,7] (by decide) (by simp) rfl
  have hM117 := hM116.toTail 5 rfl rfl
  rw [show (X ++ origP m92.q.ds) ++ [_] = X ++ origP (m92.q.ds ++ [(⟨⟨x,sortI o⟩,some ⟨g,0,none⟩,oc⟩ : DA)]) from origP_snoc X m92.q.ds (⟨⟨x,sortI o⟩,some ⟨g,0,none⟩,oc⟩ : DA)] at hM117
  exact ZeP 0 [] [] [] trivial (v := .tuple #[]) rfl (⟨⟨addDest s91.p ⟨x,sortI o⟩,s91.ts⟩,⟨{ m92.q with a3 := av,c3 := ac,ds := (m92.q.ds ++ [(⟨⟨x,sortI o⟩,some ⟨g,0,none⟩,oc⟩ : DA)]) },m92.ta,m92.tc⟩,by simp only [destS,hs9,hs19,hs38,andE_ok,hRd2,hs93],rfl,⟨hE113,hM117,by show (m92.q.ds ++ [(⟨⟨x,sortI o⟩,some ⟨g,0,none⟩,oc⟩ : DA)]).map (·.d) = (s91.p.dests ++ [(⟨x,sortI o⟩ : PDest)]); rw [List.map_append,hA94.deq]; rfl,hA94.toks,hA94.cap,hA94.inv.dest hp5 hxl (by show (sortI o).length ≤ 10001; omega)⟩⟩)
 refine Wd 1 [sv x,.slice (some ⟨g,0,none⟩) o.length oc] 54 hE101 hM102 ?_
 intro be w118 hx122 hE120 hM121
 refine ⟨(hM121.blk 6 rfl),?_⟩
 refine d1 5 ?_
 refine Wo [] (.load 26 (pt bp 5)) [] trivial (runs_load (v := .slice m92.q.a3 s91.p.dests.length m92.q.c3) (ps := [cl w118 bp 5 (.slice m92.q.a3 s91.p.dests.length m92.q.c3)]) (by kernel_rfl) (A1 (cell_of (hM121.blk 1 rfl) rfl))) ?_
 rintro _ _ ⟨rfl,rfl⟩
 refine ⟨(hM121.blk 6 rfl),?_⟩
 refine d1 8 ?_
 refine Wp 4 0 1 40 ((s91.p.dests ++ [(⟨x,sortI o⟩ : PDest)]).length) ((m92.q.ds ++ [(⟨⟨x,sortI o⟩,some ⟨g,0,none⟩,oc⟩ : DA)]).flatMap destC) rfl rfl ⟨by omega,by omega⟩ (fun _ _ h => by simpa [destC,hsl] using h) hE120 hM121 ?_
 intro av ac w123 hE124 hM125
 refine ⟨(hM125.blk 6 rfl),?_⟩
 refine dx0 [9,10,11] [] 1 (lb 13 4095) ((hM125.blk 6 rfl)) ?_
 refine d1 12 ?_
 refine Wt 1 5 (.slice av ((s91.p.dests ++ [(⟨x,sortI o⟩ : PDest)]).length) ac) rfl hE124 hM125 ?_
 intro w126 hE128 hM129
 refine ⟨(hM129.blk 6 rfl),?_⟩
 refine ZD ?_
 have hM130 : Hold w126 w0.heap.size ([.blk be ([sv x,.slice (some ⟨g,0,none⟩) o.length oc]) 54,.blk bp ([iv s91.p.proto,iv s91.p.cap,iv s91.p.k,.slice m92.q.a1 s91.p.nodes.length m92.q.c1,.slice m92.q.a2 s91.p.links.length m92.q.c2,.slice av ((s91.p.dests ++ [(⟨x,sortI o⟩ : PDest)]).length) ac,.slice m92.q.a4 s91.p.checks.length m92.q.c4,.slice m92.ta s91.ts.length m92.tc]) 100,.row (.slice m92.q.a1 s91.p.nodes.length m92.q.c1) 52 2 s91.p.nodes.length (s91.p.nodes.flatMap nodeC),.row (.slice m92.q.a2 s91.p.links.length m92.q.c2) 61 3 s91.p.links.length (s91.p.links.flatMap linkC),.row (.slice av ((s91.p.dests ++ [(⟨x,sortI o⟩ : PDest)]).length) ac) 54 2 ((s91.p.dests ++ [(⟨x,sortI o⟩ : PDest)]).length) ((m92.q.ds ++ [(⟨⟨x,sortI o⟩,some ⟨g,0,none⟩,oc⟩ : DA)]).flatMap destC),.row (.slice m92.q.a4 s91.p.checks.length m92.q.c4) 67 5 s91.p.checks.length (s91.p.checks.flatMap checkC),.blk b2 ([sv x,.slice (some ⟨g,0,none⟩) o.length oc]) 54,.row (.slice (some ⟨g,0,none⟩) (sortI o).length oc) 3 1 ((sortI o).length) ((sortI o).flatMap intCells)] ++ (X ++ origP m92.q.ds)) := hM129
 have hM131 : Hold w126 w0.heap.size ([.blk bp ([iv s91.p.proto,iv s91.p.cap,iv s91.p.k,.slice m92.q.a1 s91.p.nodes.length m92.q.c1,.slice m92.q.a2 s91.p.links.length m92.q.c2,.slice av ((s91.p.dests ++ [(⟨x,sortI o⟩ : PDest)]).length) ac,.slice m92.q.a4 s91.p.checks.length m92.q.c4,.slice m92.ta s91.ts.length m92.tc]) 100,.row (.slice m92.q.a1 s91.p.nodes.length m92.q.c1) 52 2 s91.p.nodes.length (s91.p.nodes.flatMap nodeC),.row (.slice m92.q.a2 s91.p.links.length m92.q.c2) 61 3 s91.p.links.length (s91.p.links.flatMap linkC),.row (.slice av ((s91.p.dests ++ [(⟨x,sortI o⟩ : PDest)]).length) ac) 54 2 ((s91.p.dests ++ [(⟨x,sortI o⟩ : PDest)]).length) ((m92.q.ds ++ [(⟨⟨x,sortI o⟩,some ⟨g,0,none⟩,oc⟩ : DA)]).flatMap destC),.row (.slice m92.q.a4 s91.p.checks.length m92.q.c4) 67 5 s91.p.checks.length (s91.p.checks.flatMap checkC),.row (.slice (some ⟨g,0,none⟩) (sortI o).length oc) 3 1 ((sortI o).length) ((sortI o).flatMap intCells)] ++ (X ++ origP m92.q.ds)) := hM130.keepTail [1,2,3,4,5,7] (by decide) (by simp) rfl
 have hM132 := hM131.toTail 5 rfl rfl
 rw [show (X ++ origP m92.q.ds) ++ [_] = X ++ origP (m92.q.ds ++ [(⟨⟨x,sortI o⟩,some ⟨g,0,none⟩,oc⟩ : DA)]) from origP_snoc X m92.q.ds (⟨⟨x,sortI o⟩,some ⟨g,0,none⟩,oc⟩ : DA)] at hM132
 exact ZeP 0 [] [] [] trivial (v := .tuple #[]) rfl (⟨⟨addDest s91.p ⟨x,sortI o⟩,s91.ts⟩,⟨{ m92.q with a3 := av,c3 := ac,ds := (m92.q.ds ++ [(⟨⟨x,sortI o⟩,some ⟨g,0,none⟩,oc⟩ : DA)]) },m92.ta,m92.tc⟩,by simp only [destS,hs9,hs19,hs38,andE_ok,hRd2,hs93],rfl,⟨hE128,hM132,by show (m92.q.ds ++ [(⟨⟨x,sortI o⟩,some ⟨g,0,none⟩,oc⟩ : DA)]).map (·.d) = (s91.p.dests ++ [(⟨x,sortI o⟩ : PDest)]); rw [List.map_append,hA94.deq]; rfl,hA94.toks,hA94.cap,hA94.inv.dest hp5 hxl (by show (sortI o).length ≤ 10001; omega)⟩⟩)

end Go.Proofs.YtjhgghpeapmgdaaGreatDoor
