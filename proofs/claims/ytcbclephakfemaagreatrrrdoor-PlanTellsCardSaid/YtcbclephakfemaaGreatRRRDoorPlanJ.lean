/-
  PLAN: the contract of Print.
-/
import Derived.Test.YtcbclephakfemaaGreatRRRDoorPlanI
import Derived.Test.YtcbclephakfemaaGreatRRRDoorLz
import Derived.Test.YtcbclephakfemaaGreatRRRDoorFns
namespace Go.Proofs.YtcbclephakfemaaGreatRRRDoor
open Go.Bk Go.Proofs

theorem flatS {α : Type} {f : α → Bytes} (d : α) {l : List α} {k : Nat} (h : k < l.length) : (l.take (k + 1)).flatMap f = (l.take k).flatMap f ++ f (l.getD k d) := by rw [take_succ_getD' d h]; simp
theorem bld_new {w w' : World} {b : Nat} (hN : New w w' b (.cells #[.pointer none,.slice none 0 0] 59 (0,0))) : Bld w' w.heap.size b [] := .inl ⟨Nat.le_of_eq hN.lo.symm,_,hN.own,ownsRow_nil,by simp [Value.ownBlock]⟩

def nodesPP (p : PPlan) (q : PAd) (b1 b2 : Nat) (v0 : World) : Lp Nat where
  S := fun k => [(1,none,pt b1 0),(4,none,pt b2 0),(40,none,.slice q.a1 p.nodes.length q.c1),(41,none,iv (p.nodes.length:Int)),(42,none,iv (k:Int))]
  J := fun k w' => Ext v0 w' ∧ Bld w' v0.heap.size b2 ((protoL p ++ lineW [wdFailures,Lib.itoa p.k]) ++ (p.nodes.take k).flatMap nodeL) ∧ k ≤ p.nodes.length
  M := fun k => p.nodes.length - k
def linksPP (p : PPlan) (q : PAd) (b1 b2 : Nat) (v0 : World) : Lp Nat where
  S := fun k => [(1,none,pt b1 0),(4,none,pt b2 0),(56,none,.slice q.a2 p.links.length q.c2),(57,none,iv (p.links.length:Int)),(58,none,iv (k:Int))]
  J := fun k w' => Ext v0 w' ∧ Bld w' v0.heap.size b2 (((protoL p ++ lineW [wdFailures,Lib.itoa p.k]) ++ p.nodes.flatMap nodeL) ++ (p.links.take k).flatMap (linkL p)) ∧ k ≤ p.links.length
  M := fun k => p.links.length - k
def destsPP (p : PPlan) (q : PAd) (b1 b2 : Nat) (v0 : World) : Lp Nat where
  S := fun k => [(1,none,pt b1 0),(4,none,pt b2 0),(84,none,.slice q.a3 p.dests.length q.c3),(85,none,iv (p.dests.length:Int)),(86,none,iv (k:Int))]
  J := fun k w' => Ext v0 w' ∧ Bld w' v0.heap.size b2 ((((protoL p ++ lineW [wdFailures,Lib.itoa p.k]) ++ p.nodes.flatMap nodeL) ++ p.links.flatMap (linkL p)) ++ (p.dests.take k).flatMap (destL p)) ∧ k ≤ p.dests.length
  M := fun k => p.dests.length - k
def origPP (p : PPlan) (q : PAd) (b1 b2 b10 k : Nat) (w5 : World) : Lp (Value × Nat) where
  S := fun x => [(1,none,pt b1 0),(4,none,pt b2 0),(11,none,x.1),(84,none,.slice q.a3 p.dests.length q.c3),(85,none,iv (p.dests.length:Int)),(86,none,iv (k:Int)),(94,none,.slice (q.ds.getD k d0A).a ((q.ds.getD k d0A).d.origins.length) ((q.ds.getD k d0A).c)),(95,none,iv (((q.ds.getD k d0A).d.origins.length:Nat):Int)),(96,none,iv (x.2:Int))]
  J := fun x w' => Ext w5 w' ∧ Hold w' w5.heap.size [.row x.1 9 1 (([wdDest,(q.ds.getD k d0A).d.name,wdAt] ++ ((q.ds.getD k d0A).d.origins.take x.2).map (nmN p))).length ((([wdDest,(q.ds.getD k d0A).d.name,wdAt] ++ ((q.ds.getD k d0A).d.origins.take x.2).map (nmN p))).flatMap strC),.blk b10 ([sv ((q.ds.getD k d0A).d.name),.slice (q.ds.getD k d0A).a ((q.ds.getD k d0A).d.origins.length) ((q.ds.getD k d0A).c)]) 49] ∧ x.2 ≤ (q.ds.getD k d0A).d.origins.length
  M := fun x => (q.ds.getD k d0A).d.origins.length - x.2
def checksPP (p : PPlan) (q : PAd) (b1 b2 : Nat) (v0 : World) : Lp Nat where
  S := fun k => [(1,none,pt b1 0),(4,none,pt b2 0),(115,none,.slice q.a4 p.checks.length q.c4),(116,none,iv (p.checks.length:Int)),(117,none,iv (k:Int))]
  J := fun k w' => Ext v0 w' ∧ Bld w' v0.heap.size b2 (((((protoL p ++ lineW [wdFailures,Lib.itoa p.k]) ++ p.nodes.flatMap nodeL) ++ p.links.flatMap (linkL p)) ++ p.dests.flatMap (destL p)) ++ (p.checks.take k).flatMap (checkL p)) ∧ k ≤ p.checks.length
  M := fun k => p.checks.length - k
set_option maxRecDepth 20000 in
theorem Print_any (p : PPlan) (q : PAd) (w : World) (hP : PlanAt w p q) (hG : Glob w) :
    Does Tryz.prog 7 [(pv p q)] w (fun v w' => v = .tuple #[.string (bs (printB p).1),.int .i64 (printB p).2] ∧ Ext w w') := by
 refine startZ (c := Y7) Tryz.func7 rfl (by kernel_rfl) ?_
 show H _ 130 [] _ (kAt Y7 [] []) (stz [(0,(pv p q))]) w
 have hE1 : Ext w w := Ext.refl w
 have hM2 : Hold w w.heap.size [] := Hold.nil hE1.le
 refine Zb 2 29 (pv p q) (pc p q) hE1 hM2 ?_
 intro b1 w1 hE4 hM5
 refine Zh 7 [.a 0 0 7] hM5 trivial ?_
 refine Zl 0 E9 (Right_any p q w1 (hP.ext hE4)) ?_
 rintro _ v0 ⟨rfl,hx⟩
 obtain ⟨hE6,hM7⟩ := Xt hE4 hM5 hx
 refine Zr 2 _ (¬ ((rightB p) = true)) ((iffNot Iff.rfl)) (fun h0 => ?_) (fun h0 => ?_)
 ·exact Z2 5 (sv ([])) (iv 1) (⟨by unfold printB; rw [if_neg h0],hE6⟩)
 have h0 : rightB p = true := Classical.not_not.1 h0
 have hR := rightB_iff.1 h0
 have hE0 := hE6
 have hb1 := (hM7.blk 0 rfl)
 have hP0 := hP.ext hE0
 have hG0 := hG.ext hE0
 have hl1 := hP.l1
 have hl2 := hP.l2
 have hl3 := hP.l3
 have hl4 := hP.l4
 have hq := hP.dlen
 have m0 := hR.protoL_len
 have m1 := hR.failL_len
 have m2 := hR.flatN_len
 have m3 := hR.flatL_len
 have m4 := hR.flatD_len
 have m5 := hR.flatC_len
 have hcp := hR.cap_len
 have hk0 := hR.k0
 have hk1 := hR.k1
 have m2e := m2 p.nodes.length
 rw [List.take_length] at m2e
 have m3e := m3 p.links.length
 rw [List.take_length] at m3e
 have m4e := m4 p.dests.length
 rw [List.take_length] at m4e
 have m5e := m5 p.checks.length
 rw [List.take_length] at m5e
 refine Z0 4 (.box 59 (.agg #[.pointer none,.slice none 0 0])) (runs_box _ _) ?_
 rintro _ w2 ⟨b2,rfl,hN⟩
 have hB2 := bld_new hN
 have hE2 := hN.ext
 clear hN
 refine Zs 9 [.ld (iv p.proto)] [cl w2 b1 0 (iv p.proto)] (A1 (cell_of (Ext.heap hE2 hb1) rfl)) ?_
 have rest : ∀ wz,Ext v0 wz → Bld wz v0.heap.size b2 (protoL p) → H Tryz.prog 130 [] (bodyPost Tryz.prog Tryz.f7 (Ret fun v w' => v = .tuple #[.string (bs (printB p).1),.int .i64 (printB p).2] ∧ Ext w w')) (kAt Y7 (ro1 4 []) []) (stz [(1,pt b1 0),(2,sv ([])),(3,iv 0),(4,pt b2 0)]) wz := by
   intro wz hEz hBz
   refine Zs 5 [.ld (iv p.k)] [cl wz b1 2 (iv p.k)] (A1 (cell_of (Ext.heap hEz hb1) rfl)) ?_
   refine Zl 0 E19 (number_any p.k wz (by omega) (by omega) (hG0.ext hEz)) ?_
   rintro _ wa_1 ⟨rfl,hx_2⟩
   have hE_3 := hEz.trans hx_2
   have hB_4 := hBz.ext hx_2
   refine Z0 0 (.bslice 37 2 [(0,sv ([102,97,105,108,117,114,101,115])),(1,sv (Lib.itoa p.k))]) (runs_bslice (cs := [sv ([102,97,105,108,117,114,101,115]),sv (Lib.itoa p.k)]) (e := 9) (by kernel_rfl)) ?_
   rintro _ wa_5 ⟨bw_6,rfl,hN_7⟩
   have hx_11 := hE_3.trans hN_7.ext
   refine Zl 0 E18 (line_any v0.heap.size b2 (protoL p) bw_6 2 2 [wdFailures,Lib.itoa p.k] wa_5 rfl hx_11 (Nat.le_refl _) (hB_4.ext hN_7.ext) (blk_cells hN_7.own) (heap_lt hN_7.own) (Nat.le_refl _) (by decide) (by omega)) ?_
   rintro _ wb_8 ⟨rfl,hB_9,hE_10,hK_12⟩
   refine Zs 10 [.ld (.slice q.a1 p.nodes.length q.c1)] [cl wb_8 b1 3 (.slice q.a1 p.nodes.length q.c1)] (A1 (cell_of (Ext.heap hE_10 hb1) rfl)) ?_
   refine ZLoop (nodesPP p q b1 b2 v0) (k' := (kEnd Y7 (ro1 5 [0,1,0]) [])) (body := (cAt Y7 (ro1 5 [0,1,0,0]))) (by kernel_rfl) 0 [1,4,40,41,42] (by kernel_rfl) (⟨hE_10,by rw [List.take_zero,List.flatMap_nil,List.append_nil]; exact hB_9,Nat.zero_le _⟩) ?_
   rintro k w3 ⟨Kw3,Bw3,hk⟩
   refine Zq 5 ((k:Int) < (p.nodes.length:Int)) (fun hw3 => ?_) (fun hw3 => ?_)
   ·generalize hKTw3 : ((.inv (LI 130 [] (nodesPP p q b1 b2 v0) k) :: (kEnd Y7 (ro1 5 [0,1,0]) [])) : List Fr) = KTw3
    have hk2 : k < p.nodes.length := by omega
    have hmem := getD_mem' d0N hk2
    have ha1 := hR.asn _ hmem
    have mm := hR.nodeL_len hmem
    have ha := hP0.nodes.addrE nodeC_len (by decide) hk2
    have b2lt := (Bld.lt Bw3).2
    have hrb6 := Ext.refl w3
    refine Zs 7 [.ld (vN (p.nodes.getD k d0N))] [(0 ≤ (k:Int) ∧ (k:Int) < (p.nodes.length:Int)),(q.a1 : Option Addr) = some ⟨(slB q.a1),slO q.a1,none⟩,cl w3 (slB q.a1) (slO q.a1 + k * 2) (sv ((p.nodes.getD k d0N).name)),cl w3 (slB q.a1) (slO q.a1 + k * 2 + 1) (iv ((p.nodes.getD k d0N).asn))] (AC (by omega) (AC (by assumption) (AC (Kw3.cell (cellAt nodeC_len d0N hP0.nodes hk2 (j := 0) rfl)) (A1 (Kw3.cell (cellAt nodeC_len d0N hP0.nodes hk2 (j := 1) rfl)))))) ?_
    refine Z0 0 (.alloc 41) (runs_alloc (z := .agg #[sv ([]),iv 0]) (by kernel_rfl)) ?_
    rintro _ w3a ⟨b6,rfl,hN8⟩
    have hl9 : w3.heap.size ≤ b6 := by have := hrb6.le; have := hN8.lo; omega
    have hE10 := hrb6.trans hN8.ext
    have ho11 := hN8.own
    refine Z0 0 (.store 41 (pt b6 0) (vN (p.nodes.getD k d0N))) (runs_st ho11 (by kernel_rfl)) ?_
    rintro _ w3b hC12
    have hE13 := hC12.ext hE10 hl9
    have ho14 := hC12.own
    have hE_14 := Kw3.trans hE13
    have hB_15 := Bw3.ext hE13
    have hob6 := ho14
    have hneb6 : b6 ≠ b2 := fun e => by have h1 := hl9; omega
    refine Zs 1 [] [] trivial ?_
    refine ZB 8 (Fr.blk 1 :: (kAt (cAt Y7 (ro1 5 [0,1,0,0])) [1,1,1] KTw3)) 11 (opsAt (cAt (cAt Y7 (ro1 5 [0,1,0,0])) [1,1,0,0,1])) (fun _ w' => Ext v0 w' ∧ w'.heap[b6]? = some (.cells #[sv ((p.nodes.getD k d0N).name),iv ((p.nodes.getD k d0N).asn)] 41 (0,0))) ?_
    intro w15 hx16
    have hE17 := hE_14.trans hx16
    have hB_16 := hB_15.ext hx16
    refine dx [0,1,2,3,4] [.ld (sv ((p.nodes.getD k d0N).name)),.ld (iv ((p.nodes.getD k d0N).asn))] 3 (lb 8 31) (fun w' => [cl w' b6 0 (sv ((p.nodes.getD k d0N).name)),cl w' b6 1 (iv ((p.nodes.getD k d0N).asn))]) (fun w' hS => (AC (cell_of hS.2 rfl) (A1 (cell_of hS.2 rfl)))) (⟨hE17,(Ext.heap hx16 hob6)⟩) ?_
    refine d1 5 ?_
    refine Wl E19 (number_any (p.nodes.getD k d0N).asn w15 (by omega) (by omega) (hG0.ext hE17)) ?_
    rintro _ wa_17 ⟨rfl,hx_18⟩
    have hE_19 := hE17.trans hx_18
    have hB_20 := hB_16.ext hx_18
    refine ⟨⟨hE_19,(Ext.heap hx_18 (Ext.heap hx16 hob6))⟩,?_⟩
    refine d1 6 ?_
    refine Wo [] (.bslice 37 3 [(0,sv ([110,111,100,101])),(1,sv ((p.nodes.getD k d0N).name)),(2,sv (Lib.itoa (p.nodes.getD k d0N).asn))]) [] trivial (runs_bslice (cs := [sv ([110,111,100,101]),sv ((p.nodes.getD k d0N).name),sv (Lib.itoa (p.nodes.getD k d0N).asn)]) (e := 9) (by kernel_rfl)) ?_
    rintro _ wa_21 ⟨bw_22,rfl,hN_23⟩
    have hE_28 := hE_19.trans hN_23.ext
    have hb_29 := Ext.heap hN_23.ext (Ext.heap hx_18 (Ext.heap hx16 hob6))
    refine ⟨⟨hE_28,hb_29⟩,?_⟩
    refine d1 7 ?_
    refine Wl E18 (line_any v0.heap.size b2 ((protoL p ++ lineW [wdFailures,Lib.itoa p.k]) ++ (p.nodes.take k).flatMap nodeL) bw_22 3 3 [wdNode,(p.nodes.getD k d0N).name,Lib.itoa (p.nodes.getD k d0N).asn] wa_21 rfl hE_28 (Nat.le_refl _) (hB_20.ext hN_23.ext) (blk_cells hN_23.own) (heap_lt hN_23.own) (Nat.le_refl _) (by decide) (by have m9 := m2 k; have e : (nodeL (p.nodes.getD k d0N)).length = (lineW [wdNode,(p.nodes.getD k d0N).name,Lib.itoa (p.nodes.getD k d0N).asn]).length := rfl; simp only [List.length_append]; omega)) ?_
    rintro _ wb_24 ⟨rfl,hB_25,hE_26,hK_27⟩
    have hb_30 := hK_27 _ _ _ _ hb_29 (by decide) hneb6
    refine ⟨⟨hE_26,hb_30⟩,?_⟩
    refine ZD ?_
    refine Zs 5 [] [I64 ((k + 1:Nat):Int)] (A1 (i64 (by omega))) ?_
    subst hKTw3
    exact ZA 0 (nodesPP p q b1 b2 v0) k (k + 1) [1,4,40,41,42] (⟨hE_26,by rw [flatS d0N hk2,← List.append_assoc]; exact hB_25,by omega⟩) (show p.nodes.length - (k + 1) < p.nodes.length - k by omega)
   have hkl : k = p.nodes.length := by omega
   subst hkl
   have hB_13 := Bw3
   rw [List.take_length] at hB_13
   refine Zs 10 [.ld (.slice q.a2 p.links.length q.c2)] [cl w3 b1 4 (.slice q.a2 p.links.length q.c2)] (A1 (cell_of (Ext.heap Kw3 hb1) rfl)) ?_
   refine ZLoop (linksPP p q b1 b2 v0) (k' := (kEnd Y7 (ro1 6 [0,1,0]) [])) (body := (cAt Y7 (ro1 6 [0,1,0,0]))) (by kernel_rfl) 0 [1,4,56,57,58] (by kernel_rfl) (⟨Kw3,by rw [List.take_zero,List.flatMap_nil,List.append_nil]; exact hB_13,Nat.zero_le _⟩) ?_
   rintro k w4 ⟨Kw4,Bw4,hk⟩
   refine Zq 5 ((k:Int) < (p.links.length:Int)) (fun hw4 => ?_) (fun hw4 => ?_)
   ·generalize hKTw4 : ((.inv (LI 130 [] (linksPP p q b1 b2 v0) k) :: (kEnd Y7 (ro1 6 [0,1,0]) [])) : List Fr) = KTw4
    have hk2 : k < p.links.length := by omega
    have hmem := getD_mem' d0L hk2
    have hlk := hR.link _ hmem
    have mm := hR.linkL_len hmem
    have ha := hP0.links.addrE linkC_len (by decide) hk2
    have b2lt := (Bld.lt Bw4).2
    have hn1 : (p.links.getD k d0L).a.toNat < p.nodes.length := by omega
    have hn2 : (p.links.getD k d0L).b.toNat < p.nodes.length := by omega
    have hc := hP0.nodes.addrE nodeC_len (by decide) hn1
    have k1 : v0.cell? ⟨slB q.a1,slO q.a1 + (p.links.getD k d0L).a.toNat * 2,none⟩ = some (.string (bs (nmN p (p.links.getD k d0L).a))) := cellAt nodeC_len d0N hP0.nodes hn1 (j := 0) rfl
    have k2 : v0.cell? ⟨slB q.a1,slO q.a1 + (p.links.getD k d0L).b.toNat * 2,none⟩ = some (.string (bs (nmN p (p.links.getD k d0L).b))) := cellAt nodeC_len d0N hP0.nodes hn2 (j := 0) rfl
    have hrb8 := Ext.refl w4
    refine Zs 7 [.ld (vL (p.links.getD k d0L))] [(0 ≤ (k:Int) ∧ (k:Int) < (p.links.length:Int)),(q.a2 : Option Addr) = some ⟨(slB q.a2),slO q.a2,none⟩,cl w4 (slB q.a2) (slO q.a2 + k * 3) (iv ((p.links.getD k d0L).a)),cl w4 (slB q.a2) (slO q.a2 + k * 3 + 1) (iv ((p.links.getD k d0L).b)),cl w4 (slB q.a2) (slO q.a2 + k * 3 + 2) (iv ((p.links.getD k d0L).cost))] (AC (by omega) (AC (by assumption) (AC (Kw4.cell (cellAt linkC_len d0L hP0.links hk2 (j := 0) rfl)) (AC (Kw4.cell (cellAt linkC_len d0L hP0.links hk2 (j := 1) rfl)) (A1 (Kw4.cell (cellAt linkC_len d0L hP0.links hk2 (j := 2) rfl))))))) ?_
    refine Z0 0 (.alloc 43) (runs_alloc (z := .agg #[iv 0,iv 0,iv 0]) (by kernel_rfl)) ?_
    rintro _ w4a ⟨b8,rfl,hN18⟩
    have hl19 : w4.heap.size ≤ b8 := by have := hrb8.le; have := hN18.lo; omega
    have hE20 := hrb8.trans hN18.ext
    have ho21 := hN18.own
    refine Z0 0 (.store 43 (pt b8 0) (vL (p.links.getD k d0L))) (runs_st ho21 (by kernel_rfl)) ?_
    rintro _ w4b hC22
    have hE23 := hC22.ext hE20 hl19
    have ho24 := hC22.own
    have hE_32 := Kw4.trans hE23
    have hB_33 := Bw4.ext hE23
    have hob8 := ho24
    have hneb8 : b8 ≠ b2 := fun e => by have h1 := hl19; omega
    refine Zs 1 [] [] trivial ?_
    refine ZB 20 (Fr.blk 3 :: (kAt (cAt Y7 (ro1 6 [0,1,0,0])) [1,1,1] KTw4)) 16 (opsAt (cAt (cAt Y7 (ro1 6 [0,1,0,0])) [1,1,0,0,1])) (fun _ w' => Ext v0 w' ∧ w'.heap[b8]? = some (.cells #[iv ((p.links.getD k d0L).a),iv ((p.links.getD k d0L).b),iv ((p.links.getD k d0L).cost)] 43 (0,0))) ?_
    intro w25 hx26
    have hE27 := hE_32.trans hx26
    have hB_34 := hB_33.ext hx26
    refine dx [0,1,2,3,4,5,6,7,8,9,10,11,12,13,14,15,16] [.ld (.slice q.a1 p.nodes.length q.c1),.ld (iv ((p.links.getD k d0L).a)),.ld (sv (nmN p (p.links.getD k d0L).a)),.ld (.slice q.a1 p.nodes.length q.c1),.ld (iv ((p.links.getD k d0L).b)),.ld (sv (nmN p (p.links.getD k d0L).b)),.ld (iv ((p.links.getD k d0L).cost))] 3 (lb 20 131071) (fun w' => [cl w' b1 3 (.slice q.a1 p.nodes.length q.c1),cl w' b8 0 (iv ((p.links.getD k d0L).a)),(0 ≤ (p.links.getD k d0L).a ∧ (p.links.getD k d0L).a < (p.nodes.length:Int)),(q.a1 : Option Addr) = some ⟨(slB q.a1),slO q.a1,none⟩,cl w' (slB q.a1) (slO q.a1 + (((p.links.getD k d0L).a).toNat) * 2) (sv (nmN p (p.links.getD k d0L).a)),cl w' b1 3 (.slice q.a1 p.nodes.length q.c1),cl w' b8 1 (iv ((p.links.getD k d0L).b)),(0 ≤ (p.links.getD k d0L).b ∧ (p.links.getD k d0L).b < (p.nodes.length:Int)),(q.a1 : Option Addr) = some ⟨(slB q.a1),slO q.a1,none⟩,cl w' (slB q.a1) (slO q.a1 + (((p.links.getD k d0L).b).toNat) * 2) (sv (nmN p (p.links.getD k d0L).b)),cl w' b8 2 (iv ((p.links.getD k d0L).cost))]) (fun w' hS => (AC (cell_of (Ext.heap hS.1 hb1) rfl) (AC (cell_of hS.2 rfl) (AC (by omega) (AC (by assumption) (AC (hS.1.cell k1) (AC (cell_of (Ext.heap hS.1 hb1) rfl) (AC (cell_of hS.2 rfl) (AC (by omega) (AC (by assumption) (AC (hS.1.cell k2) (A1 (cell_of hS.2 rfl))))))))))))) (⟨hE27,(Ext.heap hx26 hob8)⟩) ?_
    refine d1 17 ?_
    refine Wl E19 (number_any (p.links.getD k d0L).cost w25 (by omega) (by omega) (hG0.ext hE27)) ?_
    rintro _ wa_35 ⟨rfl,hx_36⟩
    have hE_37 := hE27.trans hx_36
    have hB_38 := hB_34.ext hx_36
    refine ⟨⟨hE_37,(Ext.heap hx_36 (Ext.heap hx26 hob8))⟩,?_⟩
    refine d1 18 ?_
    refine Wo [] (.bslice 37 4 [(0,sv ([108,105,110,107])),(1,sv (nmN p (p.links.getD k d0L).a)),(2,sv (nmN p (p.links.getD k d0L).b)),(3,sv (Lib.itoa (p.links.getD k d0L).cost))]) [] trivial (runs_bslice (cs := [sv ([108,105,110,107]),sv (nmN p (p.links.getD k d0L).a),sv (nmN p (p.links.getD k d0L).b),sv (Lib.itoa (p.links.getD k d0L).cost)]) (e := 9) (by kernel_rfl)) ?_
    rintro _ wa_39 ⟨bw_40,rfl,hN_41⟩
    have hE_46 := hE_37.trans hN_41.ext
    have hb_47 := Ext.heap hN_41.ext (Ext.heap hx_36 (Ext.heap hx26 hob8))
    refine ⟨⟨hE_46,hb_47⟩,?_⟩
    refine d1 19 ?_
    refine Wl E18 (line_any v0.heap.size b2 (((protoL p ++ lineW [wdFailures,Lib.itoa p.k]) ++ p.nodes.flatMap nodeL) ++ (p.links.take k).flatMap (linkL p)) bw_40 4 4 [wdLink,nmN p (p.links.getD k d0L).a,nmN p (p.links.getD k d0L).b,Lib.itoa (p.links.getD k d0L).cost] wa_39 rfl hE_46 (Nat.le_refl _) (hB_38.ext hN_41.ext) (blk_cells hN_41.own) (heap_lt hN_41.own) (Nat.le_refl _) (by decide) (by have m9 := m3 k; have e : (linkL p (p.links.getD k d0L)).length = (lineW [wdLink,nmN p (p.links.getD k d0L).a,nmN p (p.links.getD k d0L).b,Lib.itoa (p.links.getD k d0L).cost]).length := rfl; simp only [List.length_append]; omega)) ?_
    rintro _ wb_42 ⟨rfl,hB_43,hE_44,hK_45⟩
    have hb_48 := hK_45 _ _ _ _ hb_47 (by decide) hneb8
    refine ⟨⟨hE_44,hb_48⟩,?_⟩
    refine ZD ?_
    refine Zs 5 [] [I64 ((k + 1:Nat):Int)] (A1 (i64 (by omega))) ?_
    subst hKTw4
    exact ZA 0 (linksPP p q b1 b2 v0) k (k + 1) [1,4,56,57,58] (⟨hE_44,by rw [flatS d0L hk2,← List.append_assoc]; exact hB_43,by omega⟩) (show p.links.length - (k + 1) < p.links.length - k by omega)
   have hkl : k = p.links.length := by omega
   subst hkl
   have hB_31 := Bw4
   rw [List.take_length] at hB_31
   refine Zs 10 [.ld (.slice q.a3 p.dests.length q.c3)] [cl w4 b1 5 (.slice q.a3 p.dests.length q.c3)] (A1 (cell_of (Ext.heap Kw4 hb1) rfl)) ?_
   refine ZLoop (destsPP p q b1 b2 v0) (k' := (kEnd Y7 (ro1 7 [0,1,0]) [])) (body := (cAt Y7 (ro1 7 [0,1,0,0]))) (by kernel_rfl) 0 [1,4,84,85,86] (by kernel_rfl) (⟨Kw4,by rw [List.take_zero,List.flatMap_nil,List.append_nil]; exact hB_31,Nat.zero_le _⟩) ?_
   rintro k w5 ⟨Kw5,Bw5,hk⟩
   refine Zq 5 ((k:Int) < (p.dests.length:Int)) (fun hw5 => ?_) (fun hw5 => ?_)
   ·generalize hKTw5 : ((.inv (LI 130 [] (destsPP p q b1 b2 v0) k) :: (kEnd Y7 (ro1 7 [0,1,0]) [])) : List Fr) = KTw5
    have hk2 : k < p.dests.length := by omega
    have hkq : k < q.ds.length := by omega
    have hdx := hP.dget k
    have hmem : (q.ds.getD k d0A).d ∈ p.dests := by rw [hdx]; exact getD_mem' d0D hk2
    have hd := hR.dest _ hmem
    have mm := hR.destL_len hmem
    have hoc := orig_count hd.1
    have hn12 := hR.n1
    have hob := (hP0.orig _ (getD_mem' d0A hkq)).1
    have ha := hP0.dests.addrE destC_len (by decide) hkq
    have hr5 := Ext.refl w5
    have hM28 : Hold w5 w5.heap.size [] := Hold.nil hr5.le
    refine Zs 7 [.ld (vD (q.ds.getD k d0A))] [(0 ≤ (k:Int) ∧ (k:Int) < (p.dests.length:Int)),(q.a3 : Option Addr) = some ⟨(slB q.a3),slO q.a3,none⟩,cl w5 (slB q.a3) (slO q.a3 + k * 2) (sv ((q.ds.getD k d0A).d.name)),cl w5 (slB q.a3) (slO q.a3 + k * 2 + 1) (.slice (q.ds.getD k d0A).a ((q.ds.getD k d0A).d.origins.length) ((q.ds.getD k d0A).c))] (AC (by omega) (AC (by assumption) (AC (Kw5.cell (cellAt destC_len d0A hP0.dests hkq (j := 0) rfl)) (A1 (Kw5.cell (cellAt destC_len d0A hP0.dests hkq (j := 1) rfl)))))) ?_
    refine Za 0 49 [sv ([]),.slice none 0 0] hr5 hM28 ?_
    intro b10 w5a hE30 hM31
    refine Zt 0 0 0 (vD (q.ds.getD k d0A)) rfl hE30 hM31 ?_
    intro w5b hE33 hM34
    refine Zh 5 [.c 0 0] hM34 trivial ?_
    refine Zd 0 3 [sv ([100,101,115,116]),sv ((q.ds.getD k d0A).d.name),sv ([97,116])] 9 hE33 hM34 ?_
    intro b11 w5c hE36 hM37
    have hM38 : Hold w5c w5.heap.size [.row (.slice (some ⟨b11,0,none⟩) 3 3) 9 1 3 ([sv ([100,101,115,116]),sv ((q.ds.getD k d0A).d.name),sv ([97,116])]),.blk b10 ([sv ((q.ds.getD k d0A).d.name),.slice (q.ds.getD k d0A).a ((q.ds.getD k d0A).d.origins.length) ((q.ds.getD k d0A).c)]) 49] := hM37.toRow 0 1 3 rfl (by simp) (by decide)
    refine Zh 11 [.c 1 1] hM38 trivial ?_
    refine ZLoop (origPP p q b1 b2 b10 k w5) (k' := (kEnd (cAt Y7 (ro1 7 [0,1,0,0])) [1,1,0,0,1,1,0,1,0] KTw5)) (body := (cAt (cAt Y7 (ro1 7 [0,1,0,0])) [1,1,0,0,1,1,0,1,0,0])) (by kernel_rfl) ((.slice (some ⟨b11,0,none⟩) 3 3),0) [1,4,11,84,85,86,94,95,96] (by kernel_rfl) (⟨hE36,hM38,Nat.zero_le _⟩) ?_
    rintro ⟨u,j⟩ u0 ⟨L1,LM,hj⟩
    simp only at L1 LM hj
    show H _ _ _ _ (kAt (cAt (cAt Y7 (ro1 7 [0,1,0,0])) [1,1,0,0,1,1,0,1,0,0]) [] (.inv (LI 130 [] (origPP p q b1 b2 b10 k w5) (u,j)) :: (kEnd (cAt Y7 (ro1 7 [0,1,0,0])) [1,1,0,0,1,1,0,1,0] KTw5))) (stz [(1,pt b1 0),(4,pt b2 0),(11,u),(84,.slice q.a3 p.dests.length q.c3),(85,iv (p.dests.length:Int)),(86,iv (k:Int)),(94,.slice (q.ds.getD k d0A).a ((q.ds.getD k d0A).d.origins.length) ((q.ds.getD k d0A).c)),(95,iv (((q.ds.getD k d0A).d.origins.length:Nat):Int)),(96,iv (j:Int))]) u0
    refine Zq 5 ((j:Int) < (((q.ds.getD k d0A).d.origins.length:Nat):Int)) (fun hj1 => ?_) (fun hj1 => ?_)
    ·have hj2 : j < (q.ds.getD k d0A).d.origins.length := by omega
     have hco := hob.addrE intCells_len (by decide) hj2
     have hpo := placeB_iff.1 (hd.1 j hj2).1
     have hon : ((q.ds.getD k d0A).d.origins.getD j 0).toNat < p.nodes.length := by omega
     have hb := hP0.nodes.addrE nodeC_len (by decide) hon
     have k1 : v0.cell? ⟨slB q.a1,slO q.a1 + ((q.ds.getD k d0A).d.origins.getD j 0).toNat * 2,none⟩ = some (.string (bs (nmN p ((q.ds.getD k d0A).d.origins.getD j 0)))) := cellAt nodeC_len d0N hP0.nodes hon (j := 0) rfl
     have hle : (([wdDest,(q.ds.getD k d0A).d.name,wdAt] ++ ((q.ds.getD k d0A).d.origins.take j).map (nmN p))).length = 3 + j := by rw [List.length_append,List.length_map,List.length_take]; show 3 + _ = _; omega
     refine Zs 17 [.ld (iv ((q.ds.getD k d0A).d.origins.getD j 0)),.ld (.slice q.a1 p.nodes.length q.c1),.ld (sv (nmN p ((q.ds.getD k d0A).d.origins.getD j 0)))] [(0 ≤ (j:Int) ∧ (j:Int) < (((q.ds.getD k d0A).d.origins.length:Nat):Int)),((q.ds.getD k d0A).a : Option Addr) = some ⟨(slB (q.ds.getD k d0A).a),slO (q.ds.getD k d0A).a,none⟩,cl u0 ((slB (q.ds.getD k d0A).a)) (slO (q.ds.getD k d0A).a + j * 1) (iv ((q.ds.getD k d0A).d.origins.getD j 0)),cl u0 b1 3 (.slice q.a1 p.nodes.length q.c1),(0 ≤ (q.ds.getD k d0A).d.origins.getD j 0 ∧ (q.ds.getD k d0A).d.origins.getD j 0 < (p.nodes.length:Int)),(q.a1 : Option Addr) = some ⟨(slB q.a1),slO q.a1,none⟩,cl u0 (slB q.a1) (slO q.a1 + (((q.ds.getD k d0A).d.origins.getD j 0).toNat) * 2) (sv (nmN p ((q.ds.getD k d0A).d.origins.getD j 0)))] (AC (by omega) (AC (by assumption) (AC ((Ext.trans Kw5 L1).cell (int_cell hob hj2)) (AC ((Ext.trans Kw5 L1).cell (cell_of hb1 rfl)) (AC (by omega) (AC (by assumption) (A1 ((Ext.trans Kw5 L1).cell (k1))))))))) ?_
     refine Zd 0 1 [sv (nmN p ((q.ds.getD k d0A).d.origins.getD j 0))] 9 L1 LM ?_
     intro b12 u1 hE40 hM41
     refine Z0 0 (.builtin .append #[37,37] 37 #[false,false] [u,.slice (some ⟨b12,0,none⟩) 1 1]) (runs_appH (e := 9) (size := 1) (bytes := 16) (by kernel_rfl) (hM41.row 1 rfl) (m := 1) (news := [sv (nmN p ((q.ds.getD k d0A).d.origins.getD j 0))]) (hM41.blk 0 rfl) rfl (by simp [Value.oneCell']) (by rw [hle]; omega) (by rw [hle]; omega) hM41.base) ?_
     rintro u3 u2 ⟨hr42,hg43,ho44⟩
     have hr45 : u2.ownsRow w5.heap.size 9 1 u3 ((([wdDest,(q.ds.getD k d0A).d.name,wdAt] ++ ((q.ds.getD k d0A).d.origins.take (j + 1)).map (nmN p))).length) ((([wdDest,(q.ds.getD k d0A).d.name,wdAt] ++ ((q.ds.getD k d0A).d.origins.take (j + 1)).map (nmN p))).flatMap strC) := by rw [take_succ_getD' 0 hj2,List.map_append,← List.append_assoc,List.map_singleton,flat_snoc,List.length_append]; exact hr42
     have hE46 := hM41.toExtApp hE40 1 rfl hg43
     have hM47 := hM41.app 1 rfl hr45 hg43 ho44
     refine Zs 7 [] [I64 ((j + 1:Nat):Int)] (A1 (i64 (by omega))) ?_
     have hM48 := hM47.pickT 3 [1,2] (by kernel_rfl)
     exact ZA 0 (origPP p q b1 b2 b10 k w5) (u,j) (u3,j + 1) [1,4,11,84,85,86,94,95,96] (⟨hE46,hM48,by show j + 1 ≤ _; omega⟩) (show (q.ds.getD k d0A).d.origins.length - (j + 1) < (q.ds.getD k d0A).d.origins.length - j by omega)
    have hje : j = (q.ds.getD k d0A).d.origins.length := by omega
    rw [hje,List.take_length] at LM
    have hrow := LM.row 0 rfl
    have hwl : (([wdDest,(q.ds.getD k d0A).d.name,wdAt] ++ (q.ds.getD k d0A).d.origins.map (nmN p))).length = 3 + (q.ds.getD k d0A).d.origins.length := by rw [List.length_append,List.length_map]; rfl
    obtain ⟨g,c,hu,hc⟩ := row_form hrow (by rw [hwl]; omega)
    subst hu
    have hgl := (hrow.lt g rfl).2
    refine Zl 4 E18 (line_any v0.heap.size b2 ((((protoL p ++ lineW [wdFailures,Lib.itoa p.k]) ++ p.nodes.flatMap nodeL) ++ p.links.flatMap (linkL p)) ++ (p.dests.take k).flatMap (destL p)) g (([wdDest,(q.ds.getD k d0A).d.name,wdAt] ++ (q.ds.getD k d0A).d.origins.map (nmN p))).length c ([wdDest,(q.ds.getD k d0A).d.name,wdAt] ++ (q.ds.getD k d0A).d.origins.map (nmN p)) u0 rfl (Kw5.trans L1) (Nat.le_refl _) (Bw5.ext L1) (row_cells hrow) hgl hc (by rw [hwl]; omega) (by have m9 := m4 k; have e : (destL p (q.ds.getD k d0A).d).length = (lineW ([wdDest,(q.ds.getD k d0A).d.name,wdAt] ++ (q.ds.getD k d0A).d.origins.map (nmN p))).length := rfl; simp only [List.length_append]; omega)) ?_
    rintro _ u9 ⟨rfl,hB9,hE9,hK9⟩
    refine Zs 6 [] [I64 ((k + 1:Nat):Int)] (A1 (i64 (by omega))) ?_
    subst hKTw5
    exact ZA 0 (destsPP p q b1 b2 v0) k (k + 1) [1,4,84,85,86] (⟨hE9,by rw [flatS d0D hk2,← List.append_assoc,← hdx]; exact hB9,by omega⟩) (show p.dests.length - (k + 1) < p.dests.length - k by omega)
   have hkl : k = p.dests.length := by omega
   subst hkl
   have hB_49 := Bw5
   rw [List.take_length] at hB_49
   refine Zs 10 [.ld (.slice q.a4 p.checks.length q.c4)] [cl w5 b1 6 (.slice q.a4 p.checks.length q.c4)] (A1 (cell_of (Ext.heap Kw5 hb1) rfl)) ?_
   refine ZLoop (checksPP p q b1 b2 v0) (k' := (kEnd Y7 (ro1 8 [0,1,0]) [])) (body := (cAt Y7 (ro1 8 [0,1,0,0]))) (by kernel_rfl) 0 [1,4,115,116,117] (by kernel_rfl) (⟨Kw5,by rw [List.take_zero,List.flatMap_nil,List.append_nil]; exact hB_49,Nat.zero_le _⟩) ?_
   rintro k w6 ⟨Kw6,Bw6,hk⟩
   refine Zq 5 ((k:Int) < (p.checks.length:Int)) (fun hw6 => ?_) (fun hw6 => ?_)
   ·generalize hKTw6 : ((.inv (LI 130 [] (checksPP p q b1 b2 v0) k) :: (kEnd Y7 (ro1 8 [0,1,0]) [])) : List Fr) = KTw6
    have hk2 : k < p.checks.length := by omega
    have hmem := getD_mem' d0C hk2
    have mm := hR.checkL_len hmem
    have ha := hP0.checks.addrE checkC_len (by decide) hk2
    have hrb15 := Ext.refl w6
    refine Zs 7 [.ld (vC (p.checks.getD k d0C))] [(0 ≤ (k:Int) ∧ (k:Int) < (p.checks.length:Int)),(q.a4 : Option Addr) = some ⟨(slB q.a4),slO q.a4,none⟩,cl w6 (slB q.a4) (slO q.a4 + k * 5) (iv ((p.checks.getD k d0C).kind)),cl w6 (slB q.a4) (slO q.a4 + k * 5 + 1) (iv ((p.checks.getD k d0C).node)),cl w6 (slB q.a4) (slO q.a4 + k * 5 + 2) (iv ((p.checks.getD k d0C).dest)),cl w6 (slB q.a4) (slO q.a4 + k * 5 + 3) (iv ((p.checks.getD k d0C).limit)),cl w6 (slB q.a4) (slO q.a4 + k * 5 + 4) (iv ((p.checks.getD k d0C).other))] (AC (by omega) (AC (by assumption) (AC (Kw6.cell (cellAt checkC_len d0C hP0.checks hk2 (j := 0) rfl)) (AC (Kw6.cell (cellAt checkC_len d0C hP0.checks hk2 (j := 1) rfl)) (AC (Kw6.cell (cellAt checkC_len d0C hP0.checks hk2 (j := 2) rfl)) (AC (Kw6.cell (cellAt checkC_len d0C hP0.checks hk2 (j := 3) rfl)) (A1 (Kw6.cell (cellAt checkC_len d0C hP0.checks hk2 (j := 4) rfl))))))))) ?_
    refine Z0 0 (.alloc 51) (runs_alloc (z := .agg #[iv 0,iv 0,iv 0,iv 0,iv 0]) (by kernel_rfl)) ?_
    rintro _ w6a ⟨b15,rfl,hN49⟩
    have hl50 : w6.heap.size ≤ b15 := by have := hrb15.le; have := hN49.lo; omega
    have hE51 := hrb15.trans hN49.ext
    have ho52 := hN49.own
    refine Z0 0 (.store 51 (pt b15 0) (vC (p.checks.getD k d0C))) (runs_st ho52 (by kernel_rfl)) ?_
    rintro _ w6b hC53
    have hE54 := hC53.ext hE51 hl50
    have ho55 := hC53.own
    have hE_51 := Kw6.trans hE54
    have hB_52 := Bw6.ext hE54
    have hob15 := ho55
    refine Zs 5 [.ld (pv p q),.ld (vC (p.checks.getD k d0C))] [cl w6b b1 0 (iv p.proto),cl w6b b1 1 (iv p.cap),cl w6b b1 2 (iv p.k),cl w6b b1 3 (.slice q.a1 p.nodes.length q.c1),cl w6b b1 4 (.slice q.a2 p.links.length q.c2),cl w6b b1 5 (.slice q.a3 p.dests.length q.c3),cl w6b b1 6 (.slice q.a4 p.checks.length q.c4),cl w6b b15 0 (iv ((p.checks.getD k d0C).kind)),cl w6b b15 1 (iv ((p.checks.getD k d0C).node)),cl w6b b15 2 (iv ((p.checks.getD k d0C).dest)),cl w6b b15 3 (iv ((p.checks.getD k d0C).limit)),cl w6b b15 4 (iv ((p.checks.getD k d0C).other))] (AC (cell_of (Ext.heap hE_51 hb1) rfl) (AC (cell_of (Ext.heap hE_51 hb1) rfl) (AC (cell_of (Ext.heap hE_51 hb1) rfl) (AC (cell_of (Ext.heap hE_51 hb1) rfl) (AC (cell_of (Ext.heap hE_51 hb1) rfl) (AC (cell_of (Ext.heap hE_51 hb1) rfl) (AC (cell_of (Ext.heap hE_51 hb1) rfl) (AC (cell_of hob15 rfl) (AC (cell_of hob15 rfl) (AC (cell_of hob15 rfl) (AC (cell_of hob15 rfl) (A1 (cell_of hob15 rfl))))))))))))) ?_
    refine Zl 0 E20 (pcheck_any v0.heap.size b2 (((((protoL p ++ lineW [wdFailures,Lib.itoa p.k]) ++ p.nodes.flatMap nodeL) ++ p.links.flatMap (linkL p)) ++ p.dests.flatMap (destL p)) ++ (p.checks.take k).flatMap (checkL p)) p q (p.checks.getD k d0C) w6b (hP0.ext hE_51) hR hmem (hG0.ext hE_51) hE_51 (Nat.le_refl _) hB_52 (by have m9 := m5 k; simp only [List.length_append]; omega)) ?_
    rintro _ u9 ⟨rfl,hB9,hE9⟩
    refine Zs 6 [] [I64 ((k + 1:Nat):Int)] (A1 (i64 (by omega))) ?_
    subst hKTw6
    exact ZA 0 (checksPP p q b1 b2 v0) k (k + 1) [1,4,115,116,117] (⟨hE9,by rw [flatS d0C hk2,← List.append_assoc]; exact hB9,by omega⟩) (show p.checks.length - (k + 1) < p.checks.length - k by omega)
   have hkl : k = p.checks.length := by omega
   subst hkl
   have hB_50 := Bw6
   rw [List.take_length] at hB_50
   have hne : (((((protoL p ++ lineW [wdFailures,Lib.itoa p.k]) ++ p.nodes.flatMap nodeL) ++ p.links.flatMap (linkL p)) ++ p.dests.flatMap (destL p)) ++ p.checks.flatMap (checkL p)) ≠ [] := fun e => by have h := congrArg List.length e; have h2 : (lineW [wdFailures,Lib.itoa p.k]).length = (joinW [wdFailures,Lib.itoa p.k]).length + 2 := (by simp [lineW]); simp only [List.length_append,List.length_nil] at h; omega
   refine Zl 6 E21 (string_any v0.heap.size b2 (((((protoL p ++ lineW [wdFailures,Lib.itoa p.k]) ++ p.nodes.flatMap nodeL) ++ p.links.flatMap (linkL p)) ++ p.dests.flatMap (destL p)) ++ p.checks.flatMap (checkL p)) w6 Kw6 (Nat.le_refl _) hB_50 hne (by simp only [List.length_append]; omega)) ?_
   rintro _ u9 ⟨rfl,hE9⟩
   exact Z2 3 (sv (((((protoL p ++ lineW [wdFailures,Lib.itoa p.k]) ++ p.nodes.flatMap nodeL) ++ p.links.flatMap (linkL p)) ++ p.dests.flatMap (destL p)) ++ p.checks.flatMap (checkL p))) (iv 0) (⟨by unfold printB; rw [if_pos h0]; rfl,hE0.trans hE9⟩)
 refine Zq 0 ((p.proto : Int) = (2 : Int)) (fun h1 => ?_) (fun h1 => ?_)
 ·refine Zs 4 [.ld (iv p.cap)] [cl w2 b1 1 (iv p.cap)] (A1 (cell_of (Ext.heap hE2 hb1) rfl)) ?_
  refine Zl 0 E19 (number_any p.cap w2 (by omega) (by omega) (hG0.ext hE2)) ?_
  rintro _ wa_53 ⟨rfl,hx_54⟩
  have hE_55 := hE2.trans hx_54
  have hB_56 := hB2.ext hx_54
  refine Z0 0 (.bslice 37 3 [(0,sv ([112,114,111,116,111,99,111,108])),(1,sv ([112,97,116,104])),(2,sv (Lib.itoa p.cap))]) (runs_bslice (cs := [sv ([112,114,111,116,111,99,111,108]),sv ([112,97,116,104]),sv (Lib.itoa p.cap)]) (e := 9) (by kernel_rfl)) ?_
  rintro _ wa_57 ⟨bw_58,rfl,hN_59⟩
  have hx_63 := hE_55.trans hN_59.ext
  refine Zl 0 E18 (line_any v0.heap.size b2 [] bw_58 3 3 [wdProtocol,wdPath,Lib.itoa p.cap] wa_57 rfl hx_63 (Nat.le_refl _) (hB_56.ext hN_59.ext) (blk_cells hN_59.own) (heap_lt hN_59.own) (Nat.le_refl _) (by decide) (by have e : protoL p = lineW [wdProtocol,wdPath,Lib.itoa p.cap] := (by unfold protoL; rw [if_pos h1]); rw [← e,List.length_nil]; omega)) ?_
  rintro _ wb_60 ⟨rfl,hB_61,hE_62,hK_64⟩
  have hB_65 : Bld wb_60 v0.heap.size b2 (protoL p) := by have e : protoL p = [] ++ lineW [wdProtocol,wdPath,Lib.itoa p.cap] := (by unfold protoL; rw [if_pos h1]; rfl); rw [e]; exact hB_61
  refine Zz 1 (kAt Y7 (ro1 4 []) []) [(1,pt b1 0),(2,sv ([])),(3,iv 0),(4,pt b2 0)] ?_
  exact rest _ hE_62 hB_65
 refine Z0 2 (.bslice 37 2 [(0,sv ([112,114,111,116,111,99,111,108])),(1,sv ([118,101,99,116,111,114]))]) (runs_bslice (cs := [sv ([112,114,111,116,111,99,111,108]),sv ([118,101,99,116,111,114])]) (e := 9) (by kernel_rfl)) ?_
 rintro _ wa_66 ⟨bw_67,rfl,hN_68⟩
 have hx_72 := hE2.trans hN_68.ext
 refine Zl 0 E18 (line_any v0.heap.size b2 [] bw_67 2 2 [wdProtocol,wdVector] wa_66 rfl hx_72 (Nat.le_refl _) (hB2.ext hN_68.ext) (blk_cells hN_68.own) (heap_lt hN_68.own) (Nat.le_refl _) (by decide) (by have e : protoL p = lineW [wdProtocol,wdVector] := (by unfold protoL; rw [if_neg h1]); rw [← e,List.length_nil]; omega)) ?_
 rintro _ wb_69 ⟨rfl,hB_70,hE_71,hK_73⟩
 have hB_74 : Bld wb_69 v0.heap.size b2 (protoL p) := by have e : protoL p = [] ++ lineW [wdProtocol,wdVector] := (by unfold protoL; rw [if_neg h1]; rfl); rw [e]; exact hB_70
 refine Zz 1 (kAt Y7 (ro1 4 []) []) [(1,pt b1 0),(2,sv ([])),(3,iv 0),(4,pt b2 0)] ?_
 exact rest _ hE_71 hB_74

end Go.Proofs.YtcbclephakfemaaGreatRRRDoor
