/-
  PLAN: the walk of PlanTells.
-/
import Derived.Test.YtcbclephakfemaaGreatRRRDoorPlanWd
import Derived.Test.YtcbclephakfemaaGreatRRRDoorPlanR1
import Derived.Test.YtcbclephakfemaaGreatRRRDoorPlanRs
import Derived.Test.YtcbclephakfemaaGreatRRRDoorPlanR3
import Derived.Test.YtcbclephakfemaaGreatRRRDoorPlanJ
import Derived.Test.YtcbclephakfemaaGreatRRRDoorPlanL
import Derived.Test.YtcbclephakfemaaGreatRRRDoorPlanM
import Derived.Test.YtcbclephakfemaaGreatRRRDoorLz
import Derived.Test.YtcbclephakfemaaGreatRRRDoorFns
namespace Go.Proofs.YtcbclephakfemaaGreatRRRDoor
open Go.Bk Go.Proofs

def planC (x : PPlan × PAd) : List Value := pc x.1 x.2
theorem planC_len (x : PPlan × PAd) : (planC x).length = 7 := rfl
def d0P : PPlan × PAd := (⟨0,0,0,[],[],[],[]⟩,⟨none,0,none,0,none,0,none,0,[]⟩)
theorem strs_cell {w : World} {b : Nat} {t : TypeId} {ss : List Bytes} (h : w.heap[b]? = some (.cells (ss.map sv).toArray t (0,0))) {k : Nat} (hk : k < ss.length) : w.cell? ⟨b,0 + k * 1,none⟩ = some (sv (ss.getD k [])) := by
  refine cell_of h ?_
  simp [List.getD_eq_getElem?_getD,hk]

def tellsO (name : Bytes) (b8 bl : Nat) (w6 : World) : Lp Nat where
  S := fun i => [(2,none,sv name),(7,none,.bool true),(8,none,pt b8 0),(25,none,.slice (some ⟨bl,0,none⟩) 3 3),(26,none,iv 3),(27,none,iv (i:Int))]
  J := fun i w' => Ext w6 w' ∧ i ≤ 3
  M := fun i => 3 - i
def tellsI (name : Bytes) (b8 bl bp bs i : Nat) (v9 : World) : Lp Nat where
  S := fun j => [(2,none,sv name),(7,none,.bool true),(8,none,pt b8 0),(10,none,pt bp 0),(25,none,.slice (some ⟨bl,0,none⟩) 3 3),(26,none,iv 3),(27,none,iv (i:Int)),(66,none,.slice (some ⟨bs,0,none⟩) 4 4),(67,none,iv 4),(68,none,iv (j:Int))]
  J := fun j w' => Ext v9 w' ∧ j ≤ 4
  M := fun j => 4 - j
set_option maxRecDepth 20000 in
set_option maxHeartbeats 1000000 in
theorem PlanTells_any (one two : List Int) (a a2 : Option Addr) (c c2 : Nat) (name : Bytes) (w : World) (hG : Glob w) (hc : Cells w a (one.flatMap intCells)) (hc2 : Cells w a2 (two.flatMap intCells)) (hs : Small one) (hs2 : Small two) (hcap : one.length ≤ c) (hcap2 : two.length ≤ c2) (_hnl : name.length ≤ 140737488351232) :
    Does Tryz.prog 3 [.slice a one.length c,.slice a2 two.length c2,sv name] w (fun v w' => v = .bool true ∧ Ext w w') := by
 refine startZ (c := Y3) Tryz.func3 rfl (by kernel_rfl) ?_
 show H _ 91 [] _ (kAt Y3 [] []) (stz [(0,.slice a one.length c),(1,.slice a2 two.length c2),(2,sv name)]) w
 have hE1 : Ext w w := Ext.refl w
 have hM2 : Hold w w.heap.size [] := Hold.nil hE1.le
 refine Zl 6 E4 (awake_any w hG) ?_
 rintro _ w0 ⟨rfl,hx0⟩
 obtain ⟨hE3,hM4⟩ := Xt hE1 hM2 hx0
 refine Zl 5 E5 (Wild_any two a2 c2 w0 (hc2.ext hE3) hs2 hcap2) ?_
 rintro _ w1 ⟨Q,qq,rfl,hx1,hA1⟩
 obtain ⟨hE5,hM6⟩ := Xt hE3 hM4 hx1
 have k1 := Ext.refl w1
 refine Z0 0 (.alloc 29) (runs_alloc (z := .agg #[iv 0,iv 0,iv 0,.slice none 0 0,.slice none 0 0,.slice none 0 0,.slice none 0 0]) (by kernel_rfl)) ?_
 rintro _ w2 ⟨b8,rfl,hN7⟩
 have hl10 := Nat.le_trans k1.le (Nat.le_of_eq hN7.lo.symm)
 have hE8 := hE5.trans hN7.ext
 have hM9 := hM6.new hN7
 have hv11 := Ext.trans k1 hN7.ext
 refine Z0 0 (.store 29 (pt b8 0) (pv Q qq)) (runs_st (hM9.blk 0 rfl) (by kernel_rfl)) ?_
 rintro _ w3 hC12
 have hE13 := hM9.toExt hE8 hC12 0 rfl
 have hM14 := hM9.set 0 rfl hC12
 have hv15 := hC12.ext hv11 hl10
 refine Zs 3 [] [] trivial ?_
 refine ZB 8 (kAt Y3 [1,1,1,0,1] []) 3 (opsAt (cAt Y3 [1,1,1,0,0])) (fun w1 => Ext w1) ?_
 intro w16 hx17
 obtain ⟨hE18,hM19⟩ := Xt hE13 hM14 hx17
 have hv20 := Ext.trans hv15 hx17
 refine dh [0,2,4,7] [.a 0 0 7] 4 (lb 8 149) hM19 (fun _ h => h) [] trivial [] (fun _ _ => trivial) (Ext.refl _) ?_
 refine d1 1 ?_
 refine Wl E5 (Wild_any one a c w16 (hc.ext hE18) hs hcap) ?_
 rintro _ w4 ⟨P0,q0,rfl,hx4,hA4⟩
 obtain ⟨hE21,hM22⟩ := Xt hE18 hM19 hx4
 have hv23 := Ext.trans hv20 hx4
 have k4 := Ext.refl w4
 refine ⟨hx4,?_⟩
 refine dMore (Ext w4) (fun w' h => Ext.trans hx4 h) ?_
 refine d1 3 ?_
 refine Wl E6 (Net_any one a c w4 (hc.ext hE21) hs hcap) ?_
 rintro _ w5 ⟨q1,rfl,hx5,hN5⟩
 obtain ⟨hE24,hM25⟩ := Xt hE21 hM22 hx5
 have hv26 := Ext.trans hv23 hx5
 have hv27 := Ext.trans k4 hx5
 have hA5 := hN5.plan (netP_right one)
 have k5 := Ext.refl w5
 refine ⟨hx5,?_⟩
 refine dMore (Ext w5) (fun w' h => Ext.trans hx5 h) ?_
 refine d1 5 ?_
 refine Wo [] (.bslice 31 3 [(0,(pv P0 q0)),(1,.agg #[iv ((netP one).proto),iv ((netP one).cap),iv ((netP one).k),.slice q1.a1 ((netP one).nodes.length) q1.c1,.slice q1.a2 ((netP one).links.length) q1.c2,.slice q1.a3 ((netP one).dests.length) q1.c3,.slice q1.a4 ((netP one).checks.length) q1.c4]),(2,(pv Q qq))]) [] trivial (runs_bslice (cs := [iv P0.proto,iv P0.cap,iv P0.k,.slice q0.a1 P0.nodes.length q0.c1,.slice q0.a2 P0.links.length q0.c2,.slice q0.a3 P0.dests.length q0.c3,.slice q0.a4 P0.checks.length q0.c4,iv ((netP one).proto),iv ((netP one).cap),iv ((netP one).k),.slice q1.a1 ((netP one).nodes.length) q1.c1,.slice q1.a2 ((netP one).links.length) q1.c2,.slice q1.a3 ((netP one).dests.length) q1.c3,.slice q1.a4 ((netP one).checks.length) q1.c4,iv Q.proto,iv Q.cap,iv Q.k,.slice qq.a1 Q.nodes.length qq.c1,.slice qq.a2 Q.links.length qq.c2,.slice qq.a3 Q.dests.length qq.c3,.slice qq.a4 Q.checks.length qq.c4]) (e := 29) (by kernel_rfl)) ?_
 rintro _ w6 ⟨bl,rfl,hN28⟩
 have hl31 := Nat.le_trans hv26.le (Nat.le_of_eq hN28.lo.symm)
 have hl32 := Nat.le_trans hv27.le (Nat.le_of_eq hN28.lo.symm)
 have hl33 := Nat.le_trans k5.le (Nat.le_of_eq hN28.lo.symm)
 have hE29 := hE24.trans hN28.ext
 have hM30 := hM25.new hN28
 have hv34 := Ext.trans hv26 hN28.ext
 have hv35 := Ext.trans hv27 hN28.ext
 have hv36 := Ext.trans k5 hN28.ext
 refine ⟨hN28.ext,?_⟩
 refine dMore (Ext w6) (fun w' h => Ext.trans hN28.ext h) ?_
 refine dx0 [6] [] 0 (lb 8 255) (Ext.refl _) ?_
 refine ZD ?_
 obtain ⟨Ps,hPs⟩ : ∃ l,[(P0,q0),(netP one,q1),(Q,qq)] = l := ⟨_,rfl⟩
 have hPl : Ps.length = 3 := by rw [← hPs]; rfl
 have hPa : ∀ x ∈ Ps,PlanAt w6 x.1 x.2 := by
   intro x hx
   rw [← hPs] at hx
   simp only [List.mem_cons,List.not_mem_nil,or_false] at hx
   rcases hx with rfl | rfl | rfl
   · exact hA4.ext hv35
   · exact hA5.ext hv36
   · exact hA1.ext hv34
 have hbl : Cells w6 (some ⟨bl,0,none⟩) (Ps.flatMap planC) := by have h := blk_cells (hM30.blk 0 rfl); rw [← hPs]; exact h
 have hb8 := (hM30.blk 1 rfl)
 have hAQ := hA1.ext hv34
 have hG6 := hG.ext hE29
 refine Zs 1 [] [] trivial ?_
 refine ZLoop (tellsO name b8 bl w6) (k' := (kEnd Y3 [1,1,1,0,1,0] [])) (body := (cAt Y3 [1,1,1,0,1,0,0])) (by kernel_rfl) 0 [2,7,8,25,26,27] (by kernel_rfl) (⟨Ext.refl _,by omega⟩) ?_
 rintro i v0 ⟨K6,hi⟩
 refine Zq 5 ((i:Int) < (3 : Int)) (fun hc2 => ?_) (fun hc2 => ?_)
 ·have hi3 : i < Ps.length := by omega
  have hPx := hPa _ (getD_mem' d0P hi3)
  have hcl := fun j v (h : (planC (Ps.getD i d0P))[j]? = some v) => cellAt planC_len d0P hbl hi3 (j := j) h
  obtain ⟨x,hx⟩ : ∃ x,Ps.getD i d0P = x := ⟨_,rfl⟩
  rw [hx] at hPx hcl
  obtain ⟨P,q⟩ := x
  simp only at hPx
  have hM37 : Hold v0 w6.heap.size [] := Hold.nil K6.le
  refine Zs 7 [.ld (pv P q)] [(0 ≤ (i:Int) ∧ (i:Int) < (3 : Int)),((some ⟨bl,0,none⟩) : Option Addr) = some ⟨bl,0,none⟩,cl v0 bl (0 + i * 7) (iv P.proto),cl v0 bl (0 + i * 7 + 1) (iv P.cap),cl v0 bl (0 + i * 7 + 2) (iv P.k),cl v0 bl (0 + i * 7 + 3) (.slice q.a1 P.nodes.length q.c1),cl v0 bl (0 + i * 7 + 4) (.slice q.a2 P.links.length q.c2),cl v0 bl (0 + i * 7 + 5) (.slice q.a3 P.dests.length q.c3),cl v0 bl (0 + i * 7 + 6) (.slice q.a4 P.checks.length q.c4)] (AC (by omega) (AC rfl (AC (K6.cell (hcl 0 _ rfl)) (AC (K6.cell (hcl 1 _ rfl)) (AC (K6.cell (hcl 2 _ rfl)) (AC (K6.cell (hcl 3 _ rfl)) (AC (K6.cell (hcl 4 _ rfl)) (AC (K6.cell (hcl 5 _ rfl)) (A1 (K6.cell (hcl 6 _ rfl))))))))))) ?_
  refine Za 0 29 [iv 0,iv 0,iv 0,.slice none 0 0,.slice none 0 0,.slice none 0 0,.slice none 0 0] K6 hM37 ?_
  intro bp v1 hE39 hM40
  refine Zt 0 0 0 (pv P q) rfl hE39 hM40 ?_
  intro v2 hE42 hM43
  refine Zh 4 [.a 0 0 7] hM43 trivial ?_
  refine Zl 0 E7 (Print_any P q v2 (hPx.ext hE42) (hG6.ext hE42)) ?_
  rintro _ v3 ⟨rfl,hy1⟩
  obtain ⟨hE44,hM45⟩ := Xt hE42 hM43 hy1
  refine Zh 9 [.a 0 0 7] hM45 trivial ?_
  refine Zl 0 E8 (rPrint_any P q v3 (hPx.ext hE44)) ?_
  rintro _ v4 ⟨rfl,hy2⟩
  obtain ⟨hE46,hM47⟩ := Xt hE44 hM45 hy2
  refine Zs 8 [] [] trivial ?_
  refine ZB 24 (kAt (cAt Y3 [1,1,1,0,1,0,0]) [1,1,0,0,1,1,1,0,1] (.inv (LI 91 [] (tellsO name b8 bl w6) i) :: (kEnd Y3 [1,1,1,0,1,0] []))) 8 (opsAt (cAt (cAt Y3 [1,1,1,0,1,0,0]) [1,1,0,0,1,1,1,0,0])) (fun w1 => Ext w1) ?_
  intro w48 hx49
  obtain ⟨hE50,hM51⟩ := Xt hE46 hM47 hx49
  have kf52 : (!(decide (((printB P).1) = ((printB P).1)))) = false := by rw [show (decide (((printB P).1) = ((printB P).1))) = true from decide_eq_true rfl]; first | done | rfl
  have kf53 : (!(decide ((printB P).2 = (printB P).2))) = false := by rw [show (decide ((printB P).2 = (printB P).2)) = true from decide_eq_true rfl]; first | done | rfl
  have kf54 : ((!(decide (((printB P).1) = ((printB P).1)))) || (!(decide ((printB P).2 = (printB P).2)))) = false := by rw [show (!(decide (((printB P).1) = ((printB P).1)))) = false from kf52,show (!(decide ((printB P).2 = (printB P).2))) = false from kf53]; first | done | rfl
  refine dh [0,1,2,3,4,5,6,7,8,9,11] [.xg 0,.xg 0,.xg 0,.xg 1,.a 0 0 7,.xg 1,.a 0 0 7] 13 (lb 24 3071) hM51 (fun _ h => h) [(!(decide (((printB P).1) = ((printB P).1)))) = false,((!(decide (((printB P).1) = ((printB P).1)))) || (!(decide ((printB P).2 = (printB P).2)))) = false] (AC kf52 (A1 kf54)) [] (fun _ _ => trivial) (Ext.refl _) ?_
  refine d1 10 ?_
  refine Wo [.exec] _ [((!(decide (((printB P).1) = ((printB P).1)))) || (!(decide ((printB P).2 = (printB P).2)))) = false] (A1 kf54) (runs_call E9 (Right_any P q w48 (hPx.ext hE50))) ?_
  rintro _ v5 ⟨rfl,hy3⟩
  obtain ⟨hE55,hM56⟩ := Xt hE50 hM51 hy3
  refine ⟨hy3,?_⟩
  refine dMore (Ext v5) (fun w' h => Ext.trans hy3 h) ?_
  refine d1 12 ?_
  refine Wo [.exec] _ [((!(decide (((printB P).1) = ((printB P).1)))) || (!(decide ((printB P).2 = (printB P).2)))) = false] (A1 kf54) (runs_call E10 (rRight_any P q v5 (hPx.ext hE55))) ?_
  rintro _ v6 ⟨rfl,hy4⟩
  obtain ⟨hE57,hM58⟩ := Xt hE55 hM56 hy4
  refine ⟨hy4,?_⟩
  refine dMore (Ext v6) (fun w' h => Ext.trans hy4 h) ?_
  have kf59 : (!((rightB P) == (rightB P))) = false := by rw [show ((rightB P) == (rightB P)) = true from beq_self_eq_true _]; first | done | rfl
  have kf60 : (((!(decide (((printB P).1) = ((printB P).1)))) || (!(decide ((printB P).2 = (printB P).2)))) || (!((rightB P) == (rightB P)))) = false := by rw [show ((!(decide (((printB P).1) = ((printB P).1)))) || (!(decide ((printB P).2 = (printB P).2)))) = false from kf54,show (!((rightB P) == (rightB P))) = false from kf59]; first | done | rfl
  refine dh [13,14,15,16,17,19,20] [.p (fun _ => ((!(decide (((printB P).1) = ((printB P).1)))) || (!(decide ((printB P).2 = (printB P).2)))) = false),.xg 0,.x,.a 0 0 7,.xg 0,.p (fun w' => (w').cell? ⟨b8,0,none⟩ = some (iv Q.proto)),.p (fun w' => (w').cell? ⟨b8,1,none⟩ = some (iv Q.cap)),.p (fun w' => (w').cell? ⟨b8,2,none⟩ = some (iv Q.k)),.p (fun w' => (w').cell? ⟨b8,3,none⟩ = some (.slice qq.a1 Q.nodes.length qq.c1)),.p (fun w' => (w').cell? ⟨b8,4,none⟩ = some (.slice qq.a2 Q.links.length qq.c2)),.p (fun w' => (w').cell? ⟨b8,5,none⟩ = some (.slice qq.a3 Q.dests.length qq.c3)),.p (fun w' => (w').cell? ⟨b8,6,none⟩ = some (.slice qq.a4 Q.checks.length qq.c4)),.v (pv Q qq),.xg 0,.a 0 0 7,.xg 0,.p (fun w' => (w').cell? ⟨b8,0,none⟩ = some (iv Q.proto)),.p (fun w' => (w').cell? ⟨b8,1,none⟩ = some (iv Q.cap)),.p (fun w' => (w').cell? ⟨b8,2,none⟩ = some (iv Q.k)),.p (fun w' => (w').cell? ⟨b8,3,none⟩ = some (.slice qq.a1 Q.nodes.length qq.c1)),.p (fun w' => (w').cell? ⟨b8,4,none⟩ = some (.slice qq.a2 Q.links.length qq.c2)),.p (fun w' => (w').cell? ⟨b8,5,none⟩ = some (.slice qq.a3 Q.dests.length qq.c3)),.p (fun w' => (w').cell? ⟨b8,6,none⟩ = some (.slice qq.a4 Q.checks.length qq.c4)),.v (pv Q qq)] 4 (lb 24 1835007) hM58 (fun _ h => h) [(((!(decide (((printB P).1) = ((printB P).1)))) || (!(decide ((printB P).2 = (printB P).2)))) || (!((rightB P) == (rightB P)))) = false] (A1 kf60) [] (fun w' hS => (AC kf54 (AC (hS.cell (cell_of (hE57.heap hb8) rfl)) (AC (hS.cell (cell_of (hE57.heap hb8) rfl)) (AC (hS.cell (cell_of (hE57.heap hb8) rfl)) (AC (hS.cell (cell_of (hE57.heap hb8) rfl)) (AC (hS.cell (cell_of (hE57.heap hb8) rfl)) (AC (hS.cell (cell_of (hE57.heap hb8) rfl)) (AC (hS.cell (cell_of (hE57.heap hb8) rfl)) (AC (hS.cell (cell_of (hE57.heap hb8) rfl)) (AC (hS.cell (cell_of (hE57.heap hb8) rfl)) (AC (hS.cell (cell_of (hE57.heap hb8) rfl)) (AC (hS.cell (cell_of (hE57.heap hb8) rfl)) (AC (hS.cell (cell_of (hE57.heap hb8) rfl)) (AC (hS.cell (cell_of (hE57.heap hb8) rfl)) (A1 (hS.cell (cell_of (hE57.heap hb8) rfl)))))))))))))))))) (Ext.refl _) ?_
  refine d1 18 ?_
  refine Wo [.exec] _ [(((!(decide (((printB P).1) = ((printB P).1)))) || (!(decide ((printB P).2 = (printB P).2)))) || (!((rightB P) == (rightB P)))) = false] (A1 kf60) (runs_call E11 (Same_any P Q q qq v6 (hPx.ext hE57) (hAQ.ext hE57))) ?_
  rintro _ v7 ⟨rfl,hy5⟩
  obtain ⟨hE61,hM62⟩ := Xt hE57 hM58 hy5
  refine ⟨hy5,?_⟩
  refine dMore (Ext v7) (fun w' h => Ext.trans hy5 h) ?_
  refine d1 21 ?_
  refine Wo [.exec] _ [(((!(decide (((printB P).1) = ((printB P).1)))) || (!(decide ((printB P).2 = (printB P).2)))) || (!((rightB P) == (rightB P)))) = false] (A1 kf60) (runs_call E12 (rSame_any P Q q qq v7 (hPx.ext hE61) (hAQ.ext hE61))) ?_
  rintro _ v8 ⟨rfl,hy6⟩
  obtain ⟨hE63,hM64⟩ := Xt hE61 hM62 hy6
  refine ⟨hy6,?_⟩
  refine dMore (Ext v8) (fun w' h => Ext.trans hy6 h) ?_
  refine dx [22,23] [.exec] 0 (lb 24 16777215) (fun w' => [(((!(decide (((printB P).1) = ((printB P).1)))) || (!(decide ((printB P).2 = (printB P).2)))) || (!((rightB P) == (rightB P)))) = false]) (fun w' hS => (A1 kf60)) (Ext.refl _) ?_
  refine ZD ?_
  have kf65 : (!((decide (P = Q)) == (decide (P = Q)))) = false := by rw [show ((decide (P = Q)) == (decide (P = Q))) = true from beq_self_eq_true _]; first | done | rfl
  have kf66 : ((((!(decide (((printB P).1) = ((printB P).1)))) || (!(decide ((printB P).2 = (printB P).2)))) || (!((rightB P) == (rightB P)))) || (!((decide (P = Q)) == (decide (P = Q))))) = false := by rw [show (((!(decide (((printB P).1) = ((printB P).1)))) || (!(decide ((printB P).2 = (printB P).2)))) || (!((rightB P) == (rightB P)))) = false from kf60,show (!((decide (P = Q)) == (decide (P = Q)))) = false from kf65]; first | done | rfl
  refine Zs 5 [.skip] [((((!(decide (((printB P).1) = ((printB P).1)))) || (!(decide ((printB P).2 = (printB P).2)))) || (!((rightB P) == (rightB P)))) || (!((decide (P = Q)) == (decide (P = Q))))) = false] (A1 kf66) ?_
  refine Zd 0 4 [sv name,sv ([97]),sv ([120]),sv ([103])] 9 hE63 hM64 ?_
  intro bs v9 hE68 hM69
  have hss := (hM69.blk 0 rfl)
  have hPv := hPx.ext hE68
  have hbp := (hM69.blk 1 rfl)
  refine Zs 4 [] [] trivial ?_
  refine ZLoop (tellsI name b8 bl bp bs i v9) (k' := (kEnd (cAt Y3 [1,1,1,0,1,0,0]) [1,1,0,0,1,1,1,1,1,0] (.inv (LI 91 [] (tellsO name b8 bl w6) i) :: (kEnd Y3 [1,1,1,0,1,0] [])))) (body := (cAt (cAt Y3 [1,1,1,0,1,0,0]) [1,1,0,0,1,1,1,1,1,0,0])) (by kernel_rfl) 0 [2,7,8,10,25,26,27,66,67,68] (by kernel_rfl) (⟨Ext.refl _,by omega⟩) ?_
  rintro j u0 ⟨K9,hj⟩
  refine Zq 5 ((j:Int) < (4 : Int)) (fun hc3 => ?_) (fun hc3 => ?_)
  ·refine Zs 10 [.ld (sv ([name,[97],[120],[103]].getD j []))] [(0 ≤ (j:Int) ∧ (j:Int) < (4 : Int)),((some ⟨bs,0,none⟩) : Option Addr) = some ⟨bs,0,none⟩,cl u0 bs (0 + j * 1) (sv ([name,[97],[120],[103]].getD j []))] (AC (by omega) (AC rfl (A1 (K9.cell (strs_cell hss (show j < 4 by omega)))))) ?_
   refine ZB 16 (kAt (cAt (cAt Y3 [1,1,1,0,1,0,0]) [1,1,0,0,1,1,1,1,1,0,0]) [1,1,0,0,1,1] (.inv (LI 91 [] (tellsI name b8 bl bp bs i v9) j) :: (kEnd (cAt Y3 [1,1,1,0,1,0,0]) [1,1,0,0,1,1,1,1,1,0] (.inv (LI 91 [] (tellsO name b8 bl w6) i) :: (kEnd Y3 [1,1,1,0,1,0] []))))) 13 (opsAt (cAt (cAt (cAt Y3 [1,1,1,0,1,0,0]) [1,1,0,0,1,1,1,1,1,0,0]) [1,1,0,0,1,0])) (fun w1 => Ext w1) ?_
   intro w70 hx71
   have hE72 := K9.trans hx71
   have ho73 := hx71.heap (K9.heap hbp)
   refine dx [0,1,3,4] [.ld (pv P q),.ld (pv P q)] 12 (lb 16 27) (fun w' => [cl w' bp 0 (iv P.proto),cl w' bp 1 (iv P.cap),cl w' bp 2 (iv P.k),cl w' bp 3 (.slice q.a1 P.nodes.length q.c1),cl w' bp 4 (.slice q.a2 P.links.length q.c2),cl w' bp 5 (.slice q.a3 P.dests.length q.c3),cl w' bp 6 (.slice q.a4 P.checks.length q.c4),cl w' bp 0 (iv P.proto),cl w' bp 1 (iv P.cap),cl w' bp 2 (iv P.k),cl w' bp 3 (.slice q.a1 P.nodes.length q.c1),cl w' bp 4 (.slice q.a2 P.links.length q.c2),cl w' bp 5 (.slice q.a3 P.dests.length q.c3),cl w' bp 6 (.slice q.a4 P.checks.length q.c4)]) (fun w' hS => (AC (hS.cell (cell_of ho73 rfl)) (AC (hS.cell (cell_of ho73 rfl)) (AC (hS.cell (cell_of ho73 rfl)) (AC (hS.cell (cell_of ho73 rfl)) (AC (hS.cell (cell_of ho73 rfl)) (AC (hS.cell (cell_of ho73 rfl)) (AC (hS.cell (cell_of ho73 rfl)) (AC (hS.cell (cell_of ho73 rfl)) (AC (hS.cell (cell_of ho73 rfl)) (AC (hS.cell (cell_of ho73 rfl)) (AC (hS.cell (cell_of ho73 rfl)) (AC (hS.cell (cell_of ho73 rfl)) (AC (hS.cell (cell_of ho73 rfl)) (A1 (hS.cell (cell_of ho73 rfl))))))))))))))))) (Ext.refl _) ?_
   obtain ⟨nm,hnm⟩ : ∃ x,[name,[97],[120],[103]].getD j [] = x := ⟨_,rfl⟩
   refine dw 16 (sv ([name,[97],[120],[103]].getD j [])) (sv nm) (by rw [hnm]) ?_
   refine dw 73 (sv ([name,[97],[120],[103]].getD j [])) (sv nm) (by rw [hnm]) ?_
   refine dw 76 (sv ([name,[97],[120],[103]].getD j [])) (sv nm) (by rw [hnm]) ?_
   obtain ⟨ni,hni⟩ : ∃ z,idxI (fun x => decide (x.name = nm)) P.nodes = z := ⟨_,rfl⟩
   obtain ⟨di,hdi⟩ : ∃ z,idxI (fun x => decide (x.name = nm)) P.dests = z := ⟨_,rfl⟩
   refine d1 2 ?_
   refine Wl E13 (by have h := Node_any P q nm w70 (hPv.ext hE72); rw [hni] at h; exact h) ?_
   rintro _ u1 ⟨rfl,hz1⟩
   have hE74 := hE72.trans hz1
   have ho75 := hz1.heap ho73
   refine ⟨hz1,?_⟩
   refine dMore (Ext u1) (fun w' h => Ext.trans hz1 h) ?_
   refine d1 5 ?_
   refine Wl E14 (by have h := rNode_any P q nm u1 (hPv.ext hE74); rw [hni] at h; exact h) ?_
   rintro _ u2 ⟨rfl,hz2⟩
   have hE76 := hE74.trans hz2
   have ho77 := hz2.heap (hE74.heap hbp)
   refine ⟨hz2,?_⟩
   refine dMore (Ext u2) (fun w' h => Ext.trans hz2 h) ?_
   have kf78 : (!(decide ((ni : Int) = ni))) = false := by rw [show (decide ((ni : Int) = ni)) = true from decide_eq_true rfl]; first | done | rfl
   refine dx [6,7,8,9,11,12] [.exec,.ld (pv P q),.exec,.exec,.ld (pv P q),.exec] 4 (lb 16 7167) (fun w' => ((fun (z1 : Bool) => ([z1 = false,cl w' bp 0 (iv P.proto),cl w' bp 1 (iv P.cap),cl w' bp 2 (iv P.k),cl w' bp 3 (.slice q.a1 P.nodes.length q.c1),cl w' bp 4 (.slice q.a2 P.links.length q.c2),cl w' bp 5 (.slice q.a3 P.dests.length q.c3),cl w' bp 6 (.slice q.a4 P.checks.length q.c4),z1 = false,z1 = false,cl w' bp 0 (iv P.proto),cl w' bp 1 (iv P.cap),cl w' bp 2 (iv P.k),cl w' bp 3 (.slice q.a1 P.nodes.length q.c1),cl w' bp 4 (.slice q.a2 P.links.length q.c2),cl w' bp 5 (.slice q.a3 P.dests.length q.c3),cl w' bp 6 (.slice q.a4 P.checks.length q.c4),z1 = false] : List Prop)) (!(decide ((ni : Int) = ni))))) (fun w' hS => (AC kf78 (AC (hS.cell (cell_of (hE76.heap hbp) rfl)) (AC (hS.cell (cell_of (hE76.heap hbp) rfl)) (AC (hS.cell (cell_of (hE76.heap hbp) rfl)) (AC (hS.cell (cell_of (hE76.heap hbp) rfl)) (AC (hS.cell (cell_of (hE76.heap hbp) rfl)) (AC (hS.cell (cell_of (hE76.heap hbp) rfl)) (AC (hS.cell (cell_of (hE76.heap hbp) rfl)) (AC kf78 (AC kf78 (AC (hS.cell (cell_of (hE76.heap hbp) rfl)) (AC (hS.cell (cell_of (hE76.heap hbp) rfl)) (AC (hS.cell (cell_of (hE76.heap hbp) rfl)) (AC (hS.cell (cell_of (hE76.heap hbp) rfl)) (AC (hS.cell (cell_of (hE76.heap hbp) rfl)) (AC (hS.cell (cell_of (hE76.heap hbp) rfl)) (AC (hS.cell (cell_of (hE76.heap hbp) rfl)) (A1 kf78))))))))))))))))))) (Ext.refl _) ?_
   refine d1 10 ?_
   refine Wo [.exec] (.call 15 [(pv P q),sv nm]) [(!(decide ((ni : Int) = ni))) = false] (A1 kf78) (runs_call E15 (by have h := Dest_any P q nm u2 (hPv.ext hE76); rw [hdi] at h; exact h)) ?_
   rintro _ u3 ⟨rfl,hz3⟩
   have hE79 := hE76.trans hz3
   have ho80 := hz3.heap (hE76.heap hbp)
   refine ⟨hz3,?_⟩
   refine dMore (Ext u3) (fun w' h => Ext.trans hz3 h) ?_
   refine d1 13 ?_
   refine Wo [.exec] (.call 16 [(pv P q),sv nm]) [(!(decide ((ni : Int) = ni))) = false] (A1 kf78) (runs_call E16 (by have h := rDest_any P q nm u3 (hPv.ext hE79); rw [hdi] at h; exact h)) ?_
   rintro _ u4 ⟨rfl,hz4⟩
   have hE81 := hE79.trans hz4
   have ho82 := hz4.heap (hE79.heap hbp)
   refine ⟨hz4,?_⟩
   refine dMore (Ext u4) (fun w' h => Ext.trans hz4 h) ?_
   refine dx [14,15] [.exec] 0 (lb 16 65535) (fun w' => [(!(decide ((ni : Int) = ni))) = false]) (fun w' hS => (A1 kf78)) (Ext.refl _) ?_
   refine ZD ?_
   have kf83 : (!(decide ((di : Int) = di))) = false := by rw [show (decide ((di : Int) = di)) = true from decide_eq_true rfl]; first | done | rfl
   have kf84 : ((!(decide ((ni : Int) = ni))) || (!(decide ((di : Int) = di)))) = false := by rw [show (!(decide ((ni : Int) = ni))) = false from kf78,show (!(decide ((di : Int) = di))) = false from kf83]; first | done | rfl
   refine Zs 7 [.skip] [((!(decide ((ni : Int) = ni))) || (!(decide ((di : Int) = di)))) = false,I64 ((j + 1:Nat):Int)] (AC kf84 (A1 (i64 (by omega)))) ?_
   exact ZA 0 (tellsI name b8 bl bp bs i v9) j (j + 1) [2,7,8,10,25,26,27,66,67,68] (⟨hE81,by omega⟩) (show 4 - (j + 1) < 4 - j by omega)
  refine Zs 6 [] [I64 ((i + 1:Nat):Int)] (A1 (i64 (by omega))) ?_
  exact ZA 0 (tellsO name b8 bl w6) i (i + 1) [2,7,8,25,26,27] (⟨hE68.trans K9,by omega⟩) (show 3 - (i + 1) < 3 - i by omega)
 exact Z1 6 (.bool true) (⟨rfl,hE29.trans K6⟩)

end Go.Proofs.YtcbclephakfemaaGreatRRRDoor
