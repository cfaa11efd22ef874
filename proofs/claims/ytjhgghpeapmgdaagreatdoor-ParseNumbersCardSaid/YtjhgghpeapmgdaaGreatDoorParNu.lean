/-
  PARSE: ParseNumbers returns true: a number beyond is told at its place, whatever stands behind it.
-/
import Derived.Test.YtjhgghpeapmgdaaGreatDoorMg5
import Derived.Test.YtjhgghpeapmgdaaGreatDoorMg6
import Derived.Test.YtjhgghpeapmgdaaGreatDoorMg7
import Derived.Test.YtjhgghpeapmgdaaGreatDoorPlanJ
import Derived.Test.YtjhgghpeapmgdaaGreatDoorLexD
import Derived.Test.YtjhgghpeapmgdaaGreatDoorMg2
namespace Go.Proofs.YtjhgghpeapmgdaaGreatDoor
open Go.Bk Go.Proofs

theorem nu_at {w : World} {b : Nat} {t : TypeId} {x y : Bytes} {g : Nat} (h : w.heap[b]? = some (.cells ((nuList x y g).map sv).toArray t (0,0))) {k : Nat} (hk : k < 4) : w.cell? ⟨b,0 + k * 1,none⟩ = some (sv ((nuList x y g).getD k [])) := by
  have : k = 0 ∨ k = 1 ∨ k = 2 ∨ k = 3 := by omega
  rcases this with rfl | rfl | rfl | rfl <;> exact cell_of h rfl
theorem nui_at {w : World} {b : Nat} {t : TypeId} {x y : Bytes} (h : w.heap[b]? = some (.cells ((nuAt x y).map iv).toArray t (0,0))) {k : Nat} (hk : k < 4) : w.cell? ⟨b,0 + k * 1,none⟩ = some (iv ((nuAt x y).getD k 0)) := by
  have : k = 0 ∨ k = 1 ∨ k = 2 ∨ k = 3 := by omega
  rcases this with rfl | rfl | rfl | rfl <;> exact cell_of h rfl
theorem big_at {w : World} {b : Nat} {t : TypeId} (h : w.heap[b]? = some (.cells (bigList.map sv).toArray t (0,0))) {k : Nat} (hk : k < 3) : w.cell? ⟨b,0 + k * 1,none⟩ = some (sv (bigList.getD k [])) := by
  have : k = 0 ∨ k = 1 ∨ k = 2 := by omega
  rcases this with rfl | rfl | rfl <;> exact cell_of h rfl
theorem big_len {k : Nat} (hk : k < 3) : (bigList.getD k []).length ≤ 5 := by
  have : k = 0 ∨ k = 1 ∨ k = 2 := by omega
  rcases this with rfl | rfl | rfl <;> decide
theorem nu_bounds {x y : Bytes} {g : Nat} (hx : x.length ≤ 12) (hy : y.length ≤ 12) (hg : g < 3) {k : Nat} (hk : k < 4) : ((nuList x y g).getD k []).length ≤ 100 ∧ 0 ≤ (nuAt x y).getD k 0 ∧ (nuAt x y).getD k 0 ≤ 100 := by
  have hb := big_len hg
  have : k = 0 ∨ k = 1 ∨ k = 2 ∨ k = 3 := by omega
  rcases this with rfl | rfl | rfl | rfl <;> simp only [nuList,nuAt,List.getD_cons_zero,List.getD_cons_succ,List.length_append,List.length_cons,List.length_nil] <;> omega
theorem new_not : ∀ n ∈ List.range 8,∀ f ∈ List.range 3,newW ∉ namesOf n f := by decide +kernel
theorem netP_new (raw : List Int) : newW ∉ namesL (netP raw) := by
  have h1 := netN_le raw
  have h2 := netP_dests raw
  rw [netP_names]
  exact new_not _ (List.mem_range.2 (by omega)) _ (List.mem_range.2 (by omega))

set_option maxRecDepth 20000 in
set_option maxHeartbeats 2000000 in
theorem ParseNumbers_any (raw : List Int) (a : Option Addr) (c : Nat) (what big : Int) (more : Bytes) (w : World) (hG : Glob w) (hc : Cells w a (raw.flatMap intCells)) (hs : Small raw) (hcap : raw.length ≤ c) (ha0 : -9223372036854775808 ≤ what) (ha1 : what ≤ 9223372036854775807) (hb0 : -9223372036854775808 ≤ big) (hb1 : big ≤ 9223372036854775807) (hlen : more.length ≤ 140737488351232) :
    Does Tryz.prog 8 [.slice a raw.length c,iv what,iv big,sv more] w (fun v w' => v = .bool true ∧ Ext w w') := by
 refine startD (c := Y8) Tryz.func8 rfl (by kernel_rfl) ?_
 show G _ 157 [] _ (kAt Y8 [] []) (stz [(0,.slice a raw.length c),(1,iv what),(2,iv big),(3,sv more)]) w
 obtain ⟨P,hPP⟩ : ∃ P,netP raw = P := ⟨_,rfl⟩
 have hR : RightP P := hPP ▸ netP_right raw
 have hz := hPP ▸ netP_new raw
 have hnl := hPP ▸ netP_nodes raw
 have hnr := netN_le raw
 have hE1 : Ext w w := Ext.refl w
 have hM2 : Hold w w.heap.size [] := Hold.nil hE1.le
 refine sg0 6 (kOp Y8 [1,0] 0 []) [(0,.slice a raw.length c),(1,iv what),(2,iv big),(3,sv more),(8,.bool false)] ?_
 refine os0 _ (some 25) (kOp Y8 [1,0] 1 []) (runs_call E25 (awake4 w hG)) ?_
 rintro _ w0 ⟨rfl,hx0⟩
 have hE3 := hE1.trans hx0
 have hM4 := hM2.ext hx0
 refine sg0 5 (kOp Y8 [1,1,0] 1 []) [(1,iv what),(2,iv big),(3,sv more),(8,.bool false),(9,.bool true),(26,.slice a raw.length c)] ?_
 refine os0 (.call 14 [.slice a raw.length c]) (some 27) (kOp Y8 [1,1,0] 2 []) (runs_call E14 (by have h := Net_any raw a c w0 (hc.ext hE3) hs hcap; rw [hPP] at h; exact h)) ?_
 rintro _ w1 ⟨q,rfl,hx1,hN1⟩
 have hE5 := hE3.trans hx1
 have hM6 := hM4.ext hx1
 have hA := hN1.plan hR
 have hA4 := PlanAt.bare hA
 have hR4 := RightP.bare hR
 have hn0 := hR.n0
 have hn1 := hR.n1
 have hr := Ext.refl w1
 refine os0 (.alloc 29) (some 10) (kOp Y8 [1,1,0] 3 []) (runs_alloc (z := .agg #[iv 0,iv 0,iv 0,.slice none 0 0,.slice none 0 0,.slice none 0 0,.slice none 0 0]) (by kernel_rfl)) ?_
 rintro _ wa ⟨b1,rfl,hN7⟩
 have hl10 := Nat.le_trans hr.le (Nat.le_of_eq hN7.lo.symm)
 have hE8 := hE5.trans hN7.ext
 have hM9 := hM6.new hN7
 have hv11 := Ext.trans hr hN7.ext
 refine os0 (.store 29 (pt b1 0) (pv P q)) none (kOp Y8 [1,1,0] 4 []) (runs_st (hM9.blk 0 rfl) (by kernel_rfl)) ?_
 rintro _ wb hC12
 have hE13 := hM9.toExt hE8 hC12 0 rfl
 have hM14 := hM9.set 0 rfl hC12
 have hv15 := hC12.ext hv11 hl10
 refine sgz 11 [.ld (.slice q.a1 P.nodes.length q.c1)] (kOp Y8 (ro1 4 [0]) 1 []) [(1,iv what),(2,iv big),(3,sv more),(8,.bool false),(9,.bool true),(10,pt b1 0),(11,iv (P.nodes.length:Int)),(31,pt b1 4)] [cl wb b1 3 (.slice q.a1 P.nodes.length q.c1)] (A1 (cell_of (hM14.blk 0 rfl) rfl)) ?_
 refine os0 (.store 25 (pt b1 4) (.slice none 0 0)) none (kOp Y8 (ro1 4 [0]) 2 []) (runs_st (hM14.blk 0 rfl) (by kernel_rfl)) ?_
 rintro _ wc hC16
 have hE17 := hM14.toExt hE13 hC16 0 rfl
 have hM18 := hM14.set 0 rfl hC16
 have hv19 := hC16.ext hv15 hl10
 refine sg0 4 (kOp Y8 (ro1 5 [0]) 1 []) [(1,iv what),(2,iv big),(3,sv more),(8,.bool false),(9,.bool true),(10,pt b1 0),(11,iv (P.nodes.length:Int)),(32,pt b1 2)] ?_
 refine os0 (.store 3 (pt b1 2) (iv 0)) none (kOp Y8 (ro1 5 [0]) 2 []) (runs_st (hM18.blk 0 rfl) (by kernel_rfl)) ?_
 rintro _ wd hC20
 have hE21 := hM18.toExt hE17 hC20 0 rfl
 have hM22 := hM18.set 0 rfl hC20
 have hv23 := hC20.ext hv19 hl10
 refine sg0 4 (kOp Y8 (ro1 6 [0]) 1 []) [(1,iv what),(2,iv big),(3,sv more),(8,.bool false),(9,.bool true),(10,pt b1 0),(11,iv (P.nodes.length:Int)),(33,pt b1 5)] ?_
 refine os0 (.store 26 (pt b1 5) (.slice none 0 0)) none (kOp Y8 (ro1 6 [0]) 2 []) (runs_st (hM22.blk 0 rfl) (by kernel_rfl)) ?_
 rintro _ we hC24
 have hE25 := hM22.toExt hE21 hC24 0 rfl
 have hM26 := hM22.set 0 rfl hC24
 have hv27 := hC24.ext hv23 hl10
 refine sg0 4 (kOp Y8 (ro1 7 [0]) 1 []) [(1,iv what),(2,iv big),(3,sv more),(8,.bool false),(9,.bool true),(10,pt b1 0),(11,iv (P.nodes.length:Int)),(34,pt b1 6)] ?_
 refine os0 (.store 27 (pt b1 6) (.slice none 0 0)) none (kOp Y8 (ro1 7 [0]) 2 []) (runs_st (hM26.blk 0 rfl) (by kernel_rfl)) ?_
 rintro _ wf hC28
 have hE29 := hM26.toExt hE25 hC28 0 rfl
 have hM30 := hM26.set 0 rfl hC28
 have hv31 := hC28.ext hv27 hl10
 refine sgz 4 [.ld (.agg #[iv P.proto,iv P.cap,iv 0,.slice q.a1 P.nodes.length q.c1,.slice none 0 0,.slice none 0 0,.slice none 0 0])] (kOp Y8 (ro1 8 [0]) 1 []) [(1,iv what),(2,iv big),(3,sv more),(8,.bool false),(9,.bool true),(10,pt b1 0),(11,iv (P.nodes.length:Int)),(36,.agg #[iv P.proto,iv P.cap,iv 0,.slice q.a1 P.nodes.length q.c1,.slice none 0 0,.slice none 0 0,.slice none 0 0])] [cl wf b1 0 (iv P.proto),cl wf b1 1 (iv P.cap),cl wf b1 2 (iv 0),cl wf b1 3 (.slice q.a1 P.nodes.length q.c1),cl wf b1 4 (.slice none 0 0),cl wf b1 5 (.slice none 0 0),cl wf b1 6 (.slice none 0 0)] (AC (cell_of (hM30.blk 0 rfl) rfl) (AC (cell_of (hM30.blk 0 rfl) rfl) (AC (cell_of (hM30.blk 0 rfl) rfl) (AC (cell_of (hM30.blk 0 rfl) rfl) (AC (cell_of (hM30.blk 0 rfl) rfl) (AC (cell_of (hM30.blk 0 rfl) rfl) (A1 (cell_of (hM30.blk 0 rfl) rfl)))))))) ?_
 have hpl := print_len hR4
 obtain ⟨s0,hs0⟩ : ∃ s,printT (bareP P) = s := ⟨_,rfl⟩
 rw [hs0] at hpl
 refine os0 (.call 15 [.agg #[iv P.proto,iv P.cap,iv 0,.slice q.a1 P.nodes.length q.c1,.slice none 0 0,.slice none 0 0,.slice none 0 0]]) (some 37) (kOp Y8 (ro1 8 [0]) 2 []) (runs_call E15 (by have h := Print_any (bareP P) (q234 q) wf (hA4.ext hv31) (hG.ext hE29); rw [printB_right hR4,hs0] at h; exact h)) ?_
 rintro _ w2 ⟨rfl,hx2⟩
 have hE32 := hE29.trans hx2
 have hM33 := hM30.ext hx2
 have hv34 := Ext.trans hv31 hx2
 have hi0 : 0 < P.nodes.length := by omega
 have hi1 : P.nodes.length - 1 < P.nodes.length := by omega
 have ia : nodeIx (bareP P) (P.nodes.getD 0 d0N).name = ((0:Nat):Int) := RightP.nodeNode hR hi0
 have ib : nodeIx (bareP P) (P.nodes.getD (P.nodes.length - 1) d0N).name = ((P.nodes.length - 1:Nat):Int) := RightP.nodeNode hR hi1
 have na := name_node hR (getD_mem' d0N hi0)
 have nb := name_node hR (getD_mem' d0N hi1)
 have ka : w1.cell? ⟨slB q.a1,slO q.a1 + 0 * 2,none⟩ = some (sv (P.nodes.getD 0 d0N).name) := cellAt nodeC_len d0N hA.nodes hi0 (j := 0) rfl
 have ha := hA.nodes.addrE nodeC_len (by decide) hi0
 have kb : w1.cell? ⟨slB q.a1,slO q.a1 + (P.nodes.length - 1) * 2,none⟩ = some (sv (P.nodes.getD (P.nodes.length - 1) d0N).name) := cellAt nodeC_len d0N hA.nodes hi1 (j := 0) rfl
 have hnew : nodeIx (bareP P) newW < 0 := idxI_neg fun y hy => decide_eq_false fun e => hz (by rw [← e]; unfold namesL; exact List.mem_append_left _ (List.mem_map_of_mem hy))
 have hlaw := fun g k (hg : g < 3) (hk : k < 4) (more : Bytes) => numbers_law hR4 rfl rfl rfl (show (bareP P).nodes.length < 12 by show P.nodes.length < 12; omega) na nb ia ib (by omega) (by omega) (by omega) hnew hg hk more
 rw [hs0] at hlaw
 obtain ⟨x,hxe⟩ : ∃ n,(P.nodes.getD 0 d0N).name = n := ⟨_,rfl⟩
 obtain ⟨y,hye⟩ : ∃ n,(P.nodes.getD (P.nodes.length - 1) d0N).name = n := ⟨_,rfl⟩
 rw [hxe] at na ka hlaw
 rw [hye] at nb kb hlaw
 rw [show P.nodes.length - 1 = ((P.nodes.length:Int) - 1).toNat by omega] at kb
 have hxl := nameB_len na
 have hyl := nameB_len nb
 refine sgz 29 [.ld (.slice q.a1 P.nodes.length q.c1),.ld (sv x),.ld (.slice q.a1 P.nodes.length q.c1),.ld (sv y)] (kOp Y8 (ro1 11 [0]) 1 []) [(2,iv big),(3,sv more),(8,.bool false),(9,.bool true),(12,sv s0),(13,iv 0),(14,sv x),(15,sv y),(52,iv what)] [cl w2 b1 3 (.slice q.a1 P.nodes.length q.c1),(0 ≤ (0 : Int) ∧ (0 : Int) < (P.nodes.length:Int)),(q.a1 : Option Addr) = some ⟨(slB q.a1),slO q.a1,none⟩,cl w2 (slB q.a1) (slO q.a1 + 0) (sv x),cl w2 b1 3 (.slice q.a1 P.nodes.length q.c1),I64 ((P.nodes.length:Int) - (1 : Int)),(0 ≤ ((P.nodes.length:Int) - (1 : Int)) ∧ ((P.nodes.length:Int) - (1 : Int)) < (P.nodes.length:Int)),(q.a1 : Option Addr) = some ⟨(slB q.a1),slO q.a1,none⟩,cl w2 (slB q.a1) (slO q.a1 + ((((P.nodes.length:Int) - (1 : Int))).toNat) * 2) (sv y)] (AC (cell_of (hM33.blk 0 rfl) rfl) (AC (by omega) (AC (by assumption) (AC (hv34.cell ka) (AC (cell_of (hM33.blk 0 rfl) rfl) (AC (i64 (by omega)) (AC (by omega) (AC (by assumption) (A1 (hv34.cell kb)))))))))) ?_
 refine os0 _ (some 53) (kOp Y8 (ro1 11 [0]) 2 []) (runs_call E26 (pick4 what 4 w2 ha0 ha1 (by decide))) ?_
 rintro _ _ ⟨rfl,rfl⟩
 have hk := pickN_lt what (show 0 < 4 by decide)
 obtain ⟨k,hke⟩ : ∃ k,pickN what 4 = k := ⟨_,rfl⟩
 rw [hke]
 rw [hke] at hk
 refine sgz 22 [] (kOp Y8 (ro1 12 [0]) 18 []) [(2,iv big),(3,sv more),(8,.bool false),(9,.bool true),(12,sv s0),(13,iv 0),(14,sv x),(15,sv y),(16,iv (k:Int)),(59,sv ((((([108,105,110,107,32]) ++ x) ++ ([32])) ++ y) ++ ([32,48]))),(65,sv ((((([108,105,110,107,32]) ++ x) ++ ([32])) ++ y) ++ ([32,49,54]))),(71,sv ((((([108,105,110,107,32]) ++ y) ++ ([32])) ++ x) ++ ([32])))] [([108,105,110,107,32]).length + (x).length ≤ 9223372036854775807,(([108,105,110,107,32]) ++ x).length + ([32]).length ≤ 9223372036854775807,((([108,105,110,107,32]) ++ x) ++ ([32])).length + (y).length ≤ 9223372036854775807,(((([108,105,110,107,32]) ++ x) ++ ([32])) ++ y).length + ([32,48]).length ≤ 9223372036854775807,([108,105,110,107,32]).length + (x).length ≤ 9223372036854775807,(([108,105,110,107,32]) ++ x).length + ([32]).length ≤ 9223372036854775807,((([108,105,110,107,32]) ++ x) ++ ([32])).length + (y).length ≤ 9223372036854775807,(((([108,105,110,107,32]) ++ x) ++ ([32])) ++ y).length + ([32,49,54]).length ≤ 9223372036854775807,([108,105,110,107,32]).length + (y).length ≤ 9223372036854775807,(([108,105,110,107,32]) ++ y).length + ([32]).length ≤ 9223372036854775807,((([108,105,110,107,32]) ++ y) ++ ([32])).length + (x).length ≤ 9223372036854775807,(((([108,105,110,107,32]) ++ y) ++ ([32])) ++ x).length + ([32]).length ≤ 9223372036854775807] (AC (by first | omega | (simp only [List.length_append,List.length_take,List.length_cons,List.length_nil]; omega)) (AC (by first | omega | (simp only [List.length_append,List.length_take,List.length_cons,List.length_nil]; omega)) (AC (by first | omega | (simp only [List.length_append,List.length_take,List.length_cons,List.length_nil]; omega)) (AC (by first | omega | (simp only [List.length_append,List.length_take,List.length_cons,List.length_nil]; omega)) (AC (by first | omega | (simp only [List.length_append,List.length_take,List.length_cons,List.length_nil]; omega)) (AC (by first | omega | (simp only [List.length_append,List.length_take,List.length_cons,List.length_nil]; omega)) (AC (by first | omega | (simp only [List.length_append,List.length_take,List.length_cons,List.length_nil]; omega)) (AC (by first | omega | (simp only [List.length_append,List.length_take,List.length_cons,List.length_nil]; omega)) (AC (by first | omega | (simp only [List.length_append,List.length_take,List.length_cons,List.length_nil]; omega)) (AC (by first | omega | (simp only [List.length_append,List.length_take,List.length_cons,List.length_nil]; omega)) (AC (by first | omega | (simp only [List.length_append,List.length_take,List.length_cons,List.length_nil]; omega)) (A1 (by first | omega | (simp only [List.length_append,List.length_take,List.length_cons,List.length_nil]; omega)))))))))))))) ?_
 refine os0 (.bslice 37 3 [(0,sv ([49,55])),(1,sv ([57,57])),(2,sv ([54,53,53,51,53]))]) (some 72) (kOp Y8 (ro1 12 [0]) 19 []) (runs_bslice (cs := [sv ([49,55]),sv ([57,57]),sv ([54,53,53,51,53])]) (e := 9) (by kernel_rfl)) ?_
 rintro _ w3 ⟨b2,rfl,hN35⟩
 have hl38 := Nat.le_trans hv34.le (Nat.le_of_eq hN35.lo.symm)
 have hE36 := hE32.trans hN35.ext
 have hM37 := hM33.new hN35
 have hv39 := Ext.trans hv34 hN35.ext
 refine sg0 1 (kOp Y8 (ro1 12 [0]) 20 []) [(3,sv more),(8,.bool false),(9,.bool true),(12,sv s0),(13,iv 0),(14,sv x),(15,sv y),(16,iv (k:Int)),(59,sv ((((([108,105,110,107,32]) ++ x) ++ ([32])) ++ y) ++ ([32,48]))),(65,sv ((((([108,105,110,107,32]) ++ x) ++ ([32])) ++ y) ++ ([32,49,54]))),(71,sv ((((([108,105,110,107,32]) ++ y) ++ ([32])) ++ x) ++ ([32]))),(72,.slice (some ⟨b2,0,none⟩) 3 3),(73,iv big)] ?_
 refine os0 _ (some 74) (kOp Y8 (ro1 12 [0]) 21 []) (runs_call E26 (pick4 big 3 w3 hb0 hb1 (by decide))) ?_
 rintro _ _ ⟨rfl,rfl⟩
 have hg := pickN_lt big (show 0 < 3 by decide)
 obtain ⟨g,hge⟩ : ∃ k,pickN big 3 = k := ⟨_,rfl⟩
 rw [hge]
 rw [hge] at hg
 have hb5 := big_len hg
 have hb8 := nu_bounds hxl hyl hg hk
 refine sgz 3 [.ld (sv (bigList.getD g []))] (kOp Y8 (ro1 12 [0]) 24 []) [(3,sv more),(8,.bool false),(9,.bool true),(12,sv s0),(13,iv 0),(14,sv x),(15,sv y),(16,iv (k:Int)),(59,sv ((((([108,105,110,107,32]) ++ x) ++ ([32])) ++ y) ++ ([32,48]))),(65,sv ((((([108,105,110,107,32]) ++ x) ++ ([32])) ++ y) ++ ([32,49,54]))),(77,sv (((((([108,105,110,107,32]) ++ y) ++ ([32])) ++ x) ++ ([32])) ++ (bigList.getD g [])))] [(0 ≤ (g:Int) ∧ (g:Int) < (3 : Int)),((some ⟨b2,0,none⟩) : Option Addr) = some ⟨b2,0,none⟩,cl w3 b2 (0 + g * 1) (sv (bigList.getD g [])),((((([108,105,110,107,32]) ++ y) ++ ([32])) ++ x) ++ ([32])).length + (bigList.getD g []).length ≤ 9223372036854775807] (AC (by omega) (AC rfl (AC (big_at (hM37.blk 0 rfl) hg) (A1 (by first | omega | (simp only [List.length_append,List.length_take,List.length_cons,List.length_nil]; omega)))))) ?_
 refine os0 (.bslice 37 4 [(0,sv ([110,111,100,101,32,110,101,119,32,48])),(1,sv ((((([108,105,110,107,32]) ++ x) ++ ([32])) ++ y) ++ ([32,48]))),(2,sv ((((([108,105,110,107,32]) ++ x) ++ ([32])) ++ y) ++ ([32,49,54]))),(3,sv (((((([108,105,110,107,32]) ++ y) ++ ([32])) ++ x) ++ ([32])) ++ (bigList.getD g [])))]) (some 78) (kOp Y8 (ro1 12 [0]) 25 []) (runs_bslice (cs := [sv ([110,111,100,101,32,110,101,119,32,48]),sv ((((([108,105,110,107,32]) ++ x) ++ ([32])) ++ y) ++ ([32,48])),sv ((((([108,105,110,107,32]) ++ x) ++ ([32])) ++ y) ++ ([32,49,54])),sv (((((([108,105,110,107,32]) ++ y) ++ ([32])) ++ x) ++ ([32])) ++ (bigList.getD g []))]) (e := 9) (by kernel_rfl)) ?_
 rintro _ w4 ⟨b3,rfl,hN40⟩
 have hl43 := Nat.le_trans hv39.le (Nat.le_of_eq hN40.lo.symm)
 have hE41 := hE36.trans hN40.ext
 have hM42 := hM37.new hN40
 have hv44 := Ext.trans hv39 hN40.ext
 refine sgz 25 [.ld (sv ((nuList x y g).getD k []))] (kOp Y8 (ro1 13 [0]) 18 []) [(3,sv more),(8,.bool false),(9,.bool true),(12,sv s0),(13,iv 0),(16,iv (k:Int)),(17,sv ((nuList x y g).getD k [])),(87,iv ((7 + ((x).length) + ((y).length):Nat):Int)),(93,iv ((7 + ((x).length) + ((y).length):Nat):Int)),(99,iv ((7 + ((x).length) + ((y).length):Nat):Int))] [(0 ≤ (k:Int) ∧ (k:Int) < (4 : Int)),((some ⟨b3,0,none⟩) : Option Addr) = some ⟨b3,0,none⟩,cl w4 b3 (0 + k * 1) (sv ((nuList x y g).getD k [])),I64 ((7 + ((x).length):Nat):Int),I64 ((7 + ((x).length) + ((y).length):Nat):Int),I64 ((7 + ((x).length):Nat):Int),I64 ((7 + ((x).length) + ((y).length):Nat):Int),I64 ((7 + ((x).length):Nat):Int),I64 ((7 + ((x).length) + ((y).length):Nat):Int)] (AC (by omega) (AC rfl (AC (nu_at (hM42.blk 0 rfl) hk) (AC (i64 (by omega)) (AC (i64 (by omega)) (AC (i64 (by omega)) (AC (i64 (by omega)) (AC (i64 (by omega)) (A1 (i64 (by omega))))))))))) ?_
 refine os0 (.bslice 22 4 [(0,iv 9),(1,iv ((7 + ((x).length) + ((y).length):Nat):Int)),(2,iv ((7 + ((x).length) + ((y).length):Nat):Int)),(3,iv ((7 + ((x).length) + ((y).length):Nat):Int))]) (some 100) (kOp Y8 (ro1 13 [0]) 19 []) (runs_bslice (cs := [iv 9,iv ((7 + ((x).length) + ((y).length):Nat):Int),iv ((7 + ((x).length) + ((y).length):Nat):Int),iv ((7 + ((x).length) + ((y).length):Nat):Int)]) (e := 3) (by kernel_rfl)) ?_
 rintro _ w5 ⟨b4,rfl,hN45⟩
 have hl48 := Nat.le_trans hv44.le (Nat.le_of_eq hN45.lo.symm)
 have hE46 := hE41.trans hN45.ext
 have hM47 := hM42.new hN45
 have hv49 := Ext.trans hv44 hN45.ext
 refine sgz 12 [.ld (iv ((nuAt x y).getD k 0))] (kAt Y8 (ro1 14 [0,1]) []) [(3,sv more),(8,.bool false),(9,.bool true),(12,sv s0),(13,iv 0),(17,sv ((nuList x y g).getD k [])),(18,iv ((nuAt x y).getD k 0)),(106,.bool (decide ((5000 : Int) < (((more).length:Nat):Int))))] [(0 ≤ (k:Int) ∧ (k:Int) < (4 : Int)),((some ⟨b4,0,none⟩) : Option Addr) = some ⟨b4,0,none⟩,cl w5 b4 (0 + k * 1) (iv ((nuAt x y).getD k 0))] (AC (by omega) (AC rfl (A1 (nui_at (hM47.blk 0 rfl) hk)))) ?_
 refine brd ((5000 : Int) < (((more).length:Nat):Int)) (fun hm => ?_) (fun hm => ?_)
 ·refine sgz 13 [] (kOp Y8 (ro1 15 [0]) 6 []) [(3,sv (more.take 5000)),(8,.bool false),(9,.bool true),(12,sv s0),(13,iv 0),(17,sv ((nuList x y g).getD k [])),(18,iv ((nuAt x y).getD k 0)),(115,sv (((s0 ++ ((nuList x y g).getD k [])) ++ ([32])) ++ (more.take 5000)))] [(0 ≤ (5000 : Int) ∧ (5000 : Int) ≤ ((more).length : Int)),(s0).length + ((nuList x y g).getD k []).length ≤ 9223372036854775807,(s0 ++ ((nuList x y g).getD k [])).length + ([32]).length ≤ 9223372036854775807,((s0 ++ ((nuList x y g).getD k [])) ++ ([32])).length + (more.take 5000).length ≤ 9223372036854775807] (AC (by omega) (AC (by first | omega | (simp only [List.length_append,List.length_take,List.length_cons,List.length_nil]; omega)) (AC (by first | omega | (simp only [List.length_append,List.length_take,List.length_cons,List.length_nil]; omega)) (A1 (by first | omega | (simp only [List.length_append,List.length_take,List.length_cons,List.length_nil]; omega)))))) ?_
  have hML : (more.take 5000).length ≤ 5000 := by rw [List.length_take]; omega
  obtain ⟨T,hT⟩ : ∃ T,((s0 ++ ((nuList x y g).getD k [])) ++ ([32])) ++ (more.take 5000) = T := ⟨_,rfl⟩
  have hl2 := hlaw g k hg hk (more.take 5000)
  rw [hT] at hl2
  obtain ⟨L,hL⟩ : ∃ L,(lexT T).2.1 = L := ⟨_,rfl⟩
  rw [hT]
  refine os0 (.call 29 [sv T]) (some 116) (kOp Y8 (ro1 15 [0]) 7 []) (runs_call E29 (by have h := rLex_any T w5; rw [hL] at h; exact h)) ?_
  rintro _ w6 ⟨_,rfl,⟨e6,d6,rfl,_⟩,hx6⟩
  have hE50 := hE46.trans hx6
  have hM51 := hM47.ext hx6
  have hv52 := Ext.trans hv49 hx6
  refine sgz 16 [] (kOp Y8 (ro1 16 [0]) 6 []) [(8,.bool false),(9,.bool true),(12,sv s0),(13,iv 0),(18,iv ((nuAt x y).getD k 0)),(20,iv L),(126,sv (((s0 ++ ((nuList x y g).getD k [])) ++ ([32])) ++ (more.take 5000)))] [(s0).length + ((nuList x y g).getD k []).length ≤ 9223372036854775807,(s0 ++ ((nuList x y g).getD k [])).length + ([32]).length ≤ 9223372036854775807,((s0 ++ ((nuList x y g).getD k [])) ++ ([32])).length + (more.take 5000).length ≤ 9223372036854775807] (AC (by first | omega | (simp only [List.length_append,List.length_take,List.length_cons,List.length_nil]; omega)) (AC (by first | omega | (simp only [List.length_append,List.length_take,List.length_cons,List.length_nil]; omega)) (A1 (by first | omega | (simp only [List.length_append,List.length_take,List.length_cons,List.length_nil]; omega))))) ?_
  rw [hT]
  by_cases h0 : L = (0 : Int)
  ·subst h0
   refine os0 (.call 27 [sv T]) (some 127) (kOp Y8 (ro1 16 [0]) 7 []) (runs_call E27 (by have h := Parse_any T w6 (hG.ext hE50); rw [hl2 hL] at h; exact h)) ?_
   rintro _ w7 ⟨q7,rfl,hx7,_⟩
   have hE53 := hE50.trans hx7
   have hM54 := hM51.ext hx7
   have hv55 := Ext.trans hv52 hx7
   refine sg0 4 (kOp Y8 (ro1 16 [0]) 11 []) [(8,.bool false),(9,.bool true),(12,sv s0),(13,iv 0),(18,iv ((nuAt x y).getD k 0)),(20,iv 0),(128,(pv noPlan q7)),(129,iv 42),(130,iv ((s0.length:Int) + (nuAt x y).getD k 0))] ?_
   refine os0 (.alloc 29) (some 22) (kOp Y8 (ro1 16 [0]) 12 []) (runs_alloc (z := .agg #[iv 0,iv 0,iv 0,.slice none 0 0,.slice none 0 0,.slice none 0 0,.slice none 0 0]) (by kernel_rfl)) ?_
   rintro _ w8 ⟨b5,rfl,hN56⟩
   have hl59 := Nat.le_trans hv55.le (Nat.le_of_eq hN56.lo.symm)
   have hE57 := hE53.trans hN56.ext
   have hM58 := hM54.new hN56
   have hv60 := Ext.trans hv55 hN56.ext
   refine os0 (.store 29 (pt b5 0) (pv noPlan q7)) none (kOp Y8 (ro1 16 [0]) 13 []) (runs_st (hM58.blk 0 rfl) (by kernel_rfl)) ?_
   rintro _ w9 hC61
   have hE62 := hM58.toExt hE57 hC61 0 rfl
   have hM63 := hM58.set 0 rfl hC61
   have hv64 := hC61.ext hv60 hl59
   refine sgz 33 [.exec,.exec,.exec,.exec,.exec,.skip,.skip,.skip,.exec,.exec,.exec,.exec,.exec,.exec,.exec,.exec,.exec,.exec,.exec,.exec,.exec] (kAt Y8 (ro1 18 []) []) [(8,.bool ((decide ((42 : Int) = (42 : Int))) && (decide ((s0.length:Int) + (nuAt x y).getD k 0 = ((((s0).length:Nat):Int) + (nuAt x y).getD k 0)))))] ((fun (z1 : Bool) => ([true = true,true = true,true = true,true = true,true = true,false = (!true),false = (!true),false = (!true),true = true,false = false,true = true,false = false,false = false,false = false,z1 = true,z1 = true,z1 = true,z1 = true,z1 = true,I64 ((((s0).length:Nat):Int) + (nuAt x y).getD k 0),z1 = true,false = false,true = true] : List Prop)) (decide ((42 : Int) = (42 : Int)))) (AC rfl (AC rfl (AC rfl (AC rfl (AC rfl (AC rfl (AC rfl (AC rfl (AC rfl (AC rfl (AC rfl (AC rfl (AC rfl (AC rfl (AC (decide_eq_true rfl) (AC (decide_eq_true rfl) (AC (decide_eq_true rfl) (AC (decide_eq_true rfl) (AC (decide_eq_true rfl) (AC (i64 (by omega)) (AC (decide_eq_true rfl) (AC rfl (A1 rfl))))))))))))))))))))))) ?_
   exact ret1 (.bool ((decide ((42 : Int) = (42 : Int))) && (decide ((s0.length:Int) + (nuAt x y).getD k 0 = ((((s0).length:Nat):Int) + (nuAt x y).getD k 0))))) (⟨by simp,hE62⟩)
  refine os0 (.call 27 [sv T]) (some 127) (kOp Y8 (ro1 16 [0]) 7 []) (runs_call E27 (by have h := Parse_any T w6 (hG.ext hE50); rw [parse_wrong (by rw [hL]; exact h0),hL] at h; exact h)) ?_
  rintro _ w7 ⟨q7,rfl,hx7,_⟩
  have hE65 := hE50.trans hx7
  have hM66 := hM51.ext hx7
  have hv67 := Ext.trans hv52 hx7
  refine sg0 4 (kOp Y8 (ro1 16 [0]) 11 []) [(8,.bool false),(9,.bool true),(12,sv s0),(13,iv 0),(18,iv ((nuAt x y).getD k 0)),(20,iv L),(128,(pv noPlan q7)),(129,iv L),(130,iv ((lexT T).2.2))] ?_
  refine os0 (.alloc 29) (some 22) (kOp Y8 (ro1 16 [0]) 12 []) (runs_alloc (z := .agg #[iv 0,iv 0,iv 0,.slice none 0 0,.slice none 0 0,.slice none 0 0,.slice none 0 0]) (by kernel_rfl)) ?_
  rintro _ w8 ⟨b5,rfl,hN68⟩
  have hl71 := Nat.le_trans hv67.le (Nat.le_of_eq hN68.lo.symm)
  have hE69 := hE65.trans hN68.ext
  have hM70 := hM66.new hN68
  have hv72 := Ext.trans hv67 hN68.ext
  refine os0 (.store 29 (pt b5 0) (pv noPlan q7)) none (kOp Y8 (ro1 16 [0]) 13 []) (runs_st (hM70.blk 0 rfl) (by kernel_rfl)) ?_
  rintro _ w9 hC73
  have hE74 := hM70.toExt hE69 hC73 0 rfl
  have hM75 := hM70.set 0 rfl hC73
  have hv76 := hC73.ext hv72 hl71
  refine sgz 33 [.exec,.exec,.exec,.exec,.exec,.sym,.sym,.sym,.exec,.exec,.sym,.sym,.sym,.sym,.sym,.sym,.sym,.sym,.sym,.sym,.exec] (kAt Y8 (ro1 18 []) []) [(8,.bool (((!(decide ((L : Int) = (0 : Int)))) && (decide ((L : Int) = L))) || ((decide ((L : Int) = (42 : Int))) && (decide ((lexT T).2.2 = ((((s0).length:Nat):Int) + (nuAt x y).getD k 0))))))] ((fun (z1 : Bool) => ((fun (z2 : Bool) => ((fun (z3 : Bool) => ([true = true,true = true,true = true,true = true,true = true,z3 = true → z3 = true,z3 = true → z3 = true,true = true,z3 = true → z3 = true,true = true,z1 = true → z1 = true,z1 = true → z1 = true,z2 = true → z2 = true,z2 = true → z2 = true,z2 = true → z2 = true,z2 = true → (-9223372036854775808 ≤ ((((s0).length:Nat):Int) + (nuAt x y).getD k 0) ∧ ((((s0).length:Nat):Int) + (nuAt x y).getD k 0) ≤ 9223372036854775807),z2 = true → z2 = true,z2 = true → z2 = true,z1 = true → z1 = true,z1 = true → (decide ((L : Int) = (42 : Int))) = true → z2 = true,true = true,z1 = true → z1 = true] : List Prop)) (!(decide ((L : Int) = (0 : Int)))))) (z1 && (decide ((L : Int) = (42 : Int)))))) (!((!(decide ((L : Int) = (0 : Int)))) && (decide ((L : Int) = L))))) (AC rfl (AC rfl (AC rfl (AC rfl (AC rfl (AC (fun h => h) (AC (fun h => h) (AC rfl (AC (fun h => h) (AC rfl (AC (fun h => h) (AC (fun h => h) (AC (fun h => h) (AC (fun h => h) (AC (fun h => h) (AC (by intro h; (try simp only [Bool.and_eq_true,decide_eq_true_eq,Bool.not_eq_true',decide_eq_false_iff_not] at h); first | done | omega) (AC (fun h => h) (AC (fun h => h) (AC (fun h => h) (AC (fun h1 h2 => (by rw [h1,h2]; rfl)) (AC rfl (A1 (fun h => h))))))))))))))))))))))) ?_
  exact ret1 (.bool (((!(decide ((L : Int) = (0 : Int)))) && (decide ((L : Int) = L))) || ((decide ((L : Int) = (42 : Int))) && (decide ((lexT T).2.2 = ((((s0).length:Nat):Int) + (nuAt x y).getD k 0)))))) (⟨by simp [h0],hE74⟩)
 refine sgz 9 [] (kOp Y8 (ro1 15 [0]) 6 []) [(3,sv more),(8,.bool false),(9,.bool true),(12,sv s0),(13,iv 0),(17,sv ((nuList x y g).getD k [])),(18,iv ((nuAt x y).getD k 0)),(115,sv (((s0 ++ ((nuList x y g).getD k [])) ++ ([32])) ++ more))] [(s0).length + ((nuList x y g).getD k []).length ≤ 9223372036854775807,(s0 ++ ((nuList x y g).getD k [])).length + ([32]).length ≤ 9223372036854775807,((s0 ++ ((nuList x y g).getD k [])) ++ ([32])).length + (more).length ≤ 9223372036854775807] (AC (by first | omega | (simp only [List.length_append,List.length_take,List.length_cons,List.length_nil]; omega)) (AC (by first | omega | (simp only [List.length_append,List.length_take,List.length_cons,List.length_nil]; omega)) (A1 (by first | omega | (simp only [List.length_append,List.length_take,List.length_cons,List.length_nil]; omega))))) ?_
 have hML : (more).length ≤ 5000 := by omega
 obtain ⟨T,hT⟩ : ∃ T,((s0 ++ ((nuList x y g).getD k [])) ++ ([32])) ++ more = T := ⟨_,rfl⟩
 have hl2 := hlaw g k hg hk (more)
 rw [hT] at hl2
 obtain ⟨L,hL⟩ : ∃ L,(lexT T).2.1 = L := ⟨_,rfl⟩
 rw [hT]
 refine os0 (.call 29 [sv T]) (some 116) (kOp Y8 (ro1 15 [0]) 7 []) (runs_call E29 (by have h := rLex_any T w5; rw [hL] at h; exact h)) ?_
 rintro _ w6 ⟨_,rfl,⟨e6,d6,rfl,_⟩,hx6⟩
 have hE77 := hE46.trans hx6
 have hM78 := hM47.ext hx6
 have hv79 := Ext.trans hv49 hx6
 refine sgz 16 [] (kOp Y8 (ro1 16 [0]) 6 []) [(8,.bool false),(9,.bool true),(12,sv s0),(13,iv 0),(18,iv ((nuAt x y).getD k 0)),(20,iv L),(126,sv (((s0 ++ ((nuList x y g).getD k [])) ++ ([32])) ++ more))] [(s0).length + ((nuList x y g).getD k []).length ≤ 9223372036854775807,(s0 ++ ((nuList x y g).getD k [])).length + ([32]).length ≤ 9223372036854775807,((s0 ++ ((nuList x y g).getD k [])) ++ ([32])).length + (more).length ≤ 9223372036854775807] (AC (by first | omega | (simp only [List.length_append,List.length_take,List.length_cons,List.length_nil]; omega)) (AC (by first | omega | (simp only [List.length_append,List.length_take,List.length_cons,List.length_nil]; omega)) (A1 (by first | omega | (simp only [List.length_append,List.length_take,List.length_cons,List.length_nil]; omega))))) ?_
 rw [hT]
 by_cases h0 : L = (0 : Int)
 ·subst h0
  refine os0 (.call 27 [sv T]) (some 127) (kOp Y8 (ro1 16 [0]) 7 []) (runs_call E27 (by have h := Parse_any T w6 (hG.ext hE77); rw [hl2 hL] at h; exact h)) ?_
  rintro _ w7 ⟨q7,rfl,hx7,_⟩
  have hE80 := hE77.trans hx7
  have hM81 := hM78.ext hx7
  have hv82 := Ext.trans hv79 hx7
  refine sg0 4 (kOp Y8 (ro1 16 [0]) 11 []) [(8,.bool false),(9,.bool true),(12,sv s0),(13,iv 0),(18,iv ((nuAt x y).getD k 0)),(20,iv 0),(128,(pv noPlan q7)),(129,iv 42),(130,iv ((s0.length:Int) + (nuAt x y).getD k 0))] ?_
  refine os0 (.alloc 29) (some 22) (kOp Y8 (ro1 16 [0]) 12 []) (runs_alloc (z := .agg #[iv 0,iv 0,iv 0,.slice none 0 0,.slice none 0 0,.slice none 0 0,.slice none 0 0]) (by kernel_rfl)) ?_
  rintro _ w8 ⟨b5,rfl,hN83⟩
  have hl86 := Nat.le_trans hv82.le (Nat.le_of_eq hN83.lo.symm)
  have hE84 := hE80.trans hN83.ext
  have hM85 := hM81.new hN83
  have hv87 := Ext.trans hv82 hN83.ext
  refine os0 (.store 29 (pt b5 0) (pv noPlan q7)) none (kOp Y8 (ro1 16 [0]) 13 []) (runs_st (hM85.blk 0 rfl) (by kernel_rfl)) ?_
  rintro _ w9 hC88
  have hE89 := hM85.toExt hE84 hC88 0 rfl
  have hM90 := hM85.set 0 rfl hC88
  have hv91 := hC88.ext hv87 hl86
  refine sgz 33 [.exec,.exec,.exec,.exec,.exec,.skip,.skip,.skip,.exec,.exec,.exec,.exec,.exec,.exec,.exec,.exec,.exec,.exec,.exec,.exec,.exec] (kAt Y8 (ro1 18 []) []) [(8,.bool ((decide ((42 : Int) = (42 : Int))) && (decide ((s0.length:Int) + (nuAt x y).getD k 0 = ((((s0).length:Nat):Int) + (nuAt x y).getD k 0)))))] ((fun (z1 : Bool) => ([true = true,true = true,true = true,true = true,true = true,false = (!true),false = (!true),false = (!true),true = true,false = false,true = true,false = false,false = false,false = false,z1 = true,z1 = true,z1 = true,z1 = true,z1 = true,I64 ((((s0).length:Nat):Int) + (nuAt x y).getD k 0),z1 = true,false = false,true = true] : List Prop)) (decide ((42 : Int) = (42 : Int)))) (AC rfl (AC rfl (AC rfl (AC rfl (AC rfl (AC rfl (AC rfl (AC rfl (AC rfl (AC rfl (AC rfl (AC rfl (AC rfl (AC rfl (AC (decide_eq_true rfl) (AC (decide_eq_true rfl) (AC (decide_eq_true rfl) (AC (decide_eq_true rfl) (AC (decide_eq_true rfl) (AC (i64 (by omega)) (AC (decide_eq_true rfl) (AC rfl (A1 rfl))))))))))))))))))))))) ?_
  exact ret1 (.bool ((decide ((42 : Int) = (42 : Int))) && (decide ((s0.length:Int) + (nuAt x y).getD k 0 = ((((s0).length:Nat):Int) + (nuAt x y).getD k 0))))) (⟨by simp,hE89⟩)
 refine os0 (.call 27 [sv T]) (some 127) (kOp Y8 (ro1 16 [0]) 7 []) (runs_call E27 (by have h := Parse_any T w6 (hG.ext hE77); rw [parse_wrong (by rw [hL]; exact h0),hL] at h; exact h)) ?_
 rintro _ w7 ⟨q7,rfl,hx7,_⟩
 have hE92 := hE77.trans hx7
 have hM93 := hM78.ext hx7
 have hv94 := Ext.trans hv79 hx7
 refine sg0 4 (kOp Y8 (ro1 16 [0]) 11 []) [(8,.bool false),(9,.bool true),(12,sv s0),(13,iv 0),(18,iv ((nuAt x y).getD k 0)),(20,iv L),(128,(pv noPlan q7)),(129,iv L),(130,iv ((lexT T).2.2))] ?_
 refine os0 (.alloc 29) (some 22) (kOp Y8 (ro1 16 [0]) 12 []) (runs_alloc (z := .agg #[iv 0,iv 0,iv 0,.slice none 0 0,.slice none 0 0,.slice none 0 0,.slice none 0 0]) (by kernel_rfl)) ?_
 rintro _ w8 ⟨b5,rfl,hN95⟩
 have hl98 := Nat.le_trans hv94.le (Nat.le_of_eq hN95.lo.symm)
 have hE96 := hE92.trans hN95.ext
 have hM97 := hM93.new hN95
 have hv99 := Ext.trans hv94 hN95.ext
 refine os0 (.store 29 (pt b5 0) (pv noPlan q7)) none (kOp Y8 (ro1 16 [0]) 13 []) (runs_st (hM97.blk 0 rfl) (by kernel_rfl)) ?_
 rintro _ w9 hC100
 have hE101 := hM97.toExt hE96 hC100 0 rfl
 have hM102 := hM97.set 0 rfl hC100
 have hv103 := hC100.ext hv99 hl98
 refine sgz 33 [.exec,.exec,.exec,.exec,.exec,.sym,.sym,.sym,.exec,.exec,.sym,.sym,.sym,.sym,.sym,.sym,.sym,.sym,.sym,.sym,.exec] (kAt Y8 (ro1 18 []) []) [(8,.bool (((!(decide ((L : Int) = (0 : Int)))) && (decide ((L : Int) = L))) || ((decide ((L : Int) = (42 : Int))) && (decide ((lexT T).2.2 = ((((s0).length:Nat):Int) + (nuAt x y).getD k 0))))))] ((fun (z1 : Bool) => ((fun (z2 : Bool) => ((fun (z3 : Bool) => ([true = true,true = true,true = true,true = true,true = true,z3 = true → z3 = true,z3 = true → z3 = true,true = true,z3 = true → z3 = true,true = true,z1 = true → z1 = true,z1 = true → z1 = true,z2 = true → z2 = true,z2 = true → z2 = true,z2 = true → z2 = true,z2 = true → (-9223372036854775808 ≤ ((((s0).length:Nat):Int) + (nuAt x y).getD k 0) ∧ ((((s0).length:Nat):Int) + (nuAt x y).getD k 0) ≤ 9223372036854775807),z2 = true → z2 = true,z2 = true → z2 = true,z1 = true → z1 = true,z1 = true → (decide ((L : Int) = (42 : Int))) = true → z2 = true,true = true,z1 = true → z1 = true] : List Prop)) (!(decide ((L : Int) = (0 : Int)))))) (z1 && (decide ((L : Int) = (42 : Int)))))) (!((!(decide ((L : Int) = (0 : Int)))) && (decide ((L : Int) = L))))) (AC rfl (AC rfl (AC rfl (AC rfl (AC rfl (AC (fun h => h) (AC (fun h => h) (AC rfl (AC (fun h => h) (AC rfl (AC (fun h => h) (AC (fun h => h) (AC (fun h => h) (AC (fun h => h) (AC (fun h => h) (AC (by intro h; (try simp only [Bool.and_eq_true,decide_eq_true_eq,Bool.not_eq_true',decide_eq_false_iff_not] at h); first | done | omega) (AC (fun h => h) (AC (fun h => h) (AC (fun h => h) (AC (fun h1 h2 => (by rw [h1,h2]; rfl)) (AC rfl (A1 (fun h => h))))))))))))))))))))))) ?_
 exact ret1 (.bool (((!(decide ((L : Int) = (0 : Int)))) && (decide ((L : Int) = L))) || ((decide ((L : Int) = (42 : Int))) && (decide ((lexT T).2.2 = ((((s0).length:Nat):Int) + (nuAt x y).getD k 0)))))) (⟨by simp [h0],hE101⟩)

end Go.Proofs.YtjhgghpeapmgdaaGreatDoor
