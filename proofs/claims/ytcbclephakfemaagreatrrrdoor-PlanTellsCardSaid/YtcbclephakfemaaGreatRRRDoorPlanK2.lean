/-
  PLAN: the middle of the statements' Net.
-/
import Derived.Test.YtcbclephakfemaaGreatRRRDoorPlanK1
import Derived.Test.YtcbclephakfemaaGreatRRRDoorLz
import Derived.Test.YtcbclephakfemaaGreatRRRDoorFns
namespace Go.Proofs.YtcbclephakfemaaGreatRRRDoor
open Go.Bk Go.Proofs

def netL3 (w : World) (b0 bq bp n kk : Nat) (pr : Int) (cp : Nat) (acc : List PNode) (av : Option Addr) (cv : Nat) (la : List PLink) (lv : Option Addr) (lc : Nat) (dv : Nat) (R : List PDest × List Int) : Lp (List DA × List Int × Option Addr × Nat × Option Addr × Nat) where
  S := fun x => [(2,none,pt b0 0),(3,none,pt bq 0),(4,none,pt bp 0),(6,none,iv (n:Int)),(14,none,iv ((dv:Int) - (x.1.length:Int)))]
  J := fun x w' => Ext w w' ∧ Hold w' w.heap.size (([.row (.slice x.2.2.2.2.1 x.1.length x.2.2.2.2.2) 49 2 x.1.length (x.1.flatMap destC),.row (.slice lv la.length lc) 43 3 la.length (la.flatMap linkC),.row (.slice av acc.length cv) 41 2 acc.length (acc.flatMap nodeC),.blk bp ([iv pr,iv (cp:Int),iv (min (kk:Int) (la.length:Int)),.slice av acc.length cv,.slice lv la.length lc,.slice x.2.2.2.2.1 x.1.length x.2.2.2.2.2,.slice none 0 0]) 29,.blk bq ([.slice x.2.2.1 x.2.1.length x.2.2.2.1]) 46,.blk b0 ([iv 0,iv 0,iv 0,.slice none 0 0,.slice none 0 0,.slice none 0 0,.slice none 0 0]) 29] ++ origR x.1)) ∧ Cells w x.2.2.1 (x.2.1.flatMap intCells) ∧ Small x.2.1 ∧ x.2.1.length ≤ x.2.2.2.1 ∧ x.1.length ≤ dv + 1 ∧ (x.1.map (·.d) ++ (netDests (dv + 1 - x.1.length) x.1.length n x.2.1).1,(netDests (dv + 1 - x.1.length) x.1.length n x.2.1).2) = R
  M := fun x => dv + 1 - x.1.length
set_option maxRecDepth 20000 in
set_option maxHeartbeats 2000000 in
theorem net_tail (raw : List Int) (w wt : World) (b0 bq bp n kk : Nat) (pr : Int) (cp : Nat) (acc : List PNode) (av : Option Addr) (cv : Nat) (la : List PLink) (lv : Option Addr) (lc : Nat) (ll : List Int) (ls : Option Addr) (le : Nat) (hE : Ext w wt) (hM : Hold wt w.heap.size [.row (.slice lv la.length lc) 43 3 la.length (la.flatMap linkC),.row (.slice av acc.length cv) 41 2 acc.length (acc.flatMap nodeC),.blk bp ([iv pr,iv (cp:Int),iv 0,.slice av acc.length cv,.slice lv la.length lc,.slice none 0 0,.slice none 0 0]) 29,.blk bq ([.slice ls ll.length le]) 46,.blk b0 ([iv 0,iv 0,iv 0,.slice none 0 0,.slice none 0 0,.slice none 0 0,.slice none 0 0]) 29]) (hc : Cells w ls (ll.flatMap intCells)) (hs : Small ll) (hk : ll.length ≤ le) (hn : netN raw = n) (hpr : (if netPath raw then 2 else 1) = pr) (hcp : netCap raw = cp) (hkk : nextV (netSrc2 raw) 4 = kk) (hA : (netA raw).1 = acc) (hB : netB raw = (la,ll)) (hlen : acc.length = n) :
    H Tryz.prog 227 [] (bodyPost Tryz.prog Tryz.f6 (Ret fun v w' => ∃ q : PAd,v = .agg #[.int .i64 (netP raw).proto,.int .i64 (netP raw).cap,.int .i64 (netP raw).k,.slice q.a1 (netP raw).nodes.length q.c1,.slice q.a2 (netP raw).links.length q.c2,.slice q.a3 (netP raw).dests.length q.c3,.slice q.a4 (netP raw).checks.length q.c4] ∧ Ext w w' ∧ NetAt w' w.heap.size (netP raw) q)) (kAt Y6 (ro1 11 []) []) (stz [(2,pt b0 0),(3,pt bq 0),(4,pt bp 0),(5,iv (kk:Int)),(6,iv (n:Int))]) wt := by
 have hnle := netN_le raw
 refine Zh 8 [.c 2 4] hM trivial ?_
 refine Zt 0 2 2 (iv (min (kk:Int) (la.length:Int))) rfl hE hM ?_
 intro w_227 hE271 hM272
 refine Zl 5 E17 (next_any w bq ll ls le 2 w_227 hE271 hc hs (by omega) hk (hM272.blk 3 rfl)) ?_
 rintro _ w_228 ⟨rfl,sa_229,sc_230,hC_231,hcs_232,hks_233⟩
 have hE273 := hM272.toExt hE271 hC_231 3 rfl
 have hM274 := hM272.set 3 rfl hC_231
 have hv_234 := nextV_lt ll (n := 2) (by omega)
 obtain ⟨dv,hdv⟩ : ∃ k,nextV ll 2 = k := ⟨_,rfl⟩
 have hdvl : dv < 2 := by rw [← hdv]; exact nextV_lt _ (by omega)
 have hM275 := hM274.nilRow (e := 49) (size := 2)
 have hM_235 := hM275.noTail
 have hM_236 : Hold w_228 w.heap.size (([.row (.slice none 0 0) 49 2 0 ([]),.row (.slice lv la.length lc) 43 3 la.length (la.flatMap linkC),.row (.slice av acc.length cv) 41 2 acc.length (acc.flatMap nodeC),.blk bp ([iv pr,iv (cp:Int),iv (min (kk:Int) (la.length:Int)),.slice av acc.length cv,.slice lv la.length lc,.slice none 0 0,.slice none 0 0]) 29,.blk bq ([.slice sa_229 ((ll.drop 1).length) sc_230]) 46,.blk b0 ([iv 0,iv 0,iv 0,.slice none 0 0,.slice none 0 0,.slice none 0 0,.slice none 0 0]) 29] ++ origR ([] : List DA))) := hM_235
 obtain ⟨R,hR⟩ : ∃ R,netDests (dv + 1) 0 n (ll.drop 1) = R := ⟨_,rfl⟩
 have hCeq : netC raw = R := by unfold netC; rw [hB,hn]; show netDests (nextV ll 2 + 1) 0 n (ll.drop 1) = R; rw [hdv]; exact hR
 refine Zw 3 14 (iv ((nextV ll 2:Nat):Int)) (iv ((dv:Int) - (([] : List DA).length : Nat))) (by rw [show (((nextV ll 2:Nat):Int) : Int) = ((dv:Int) - (([] : List DA).length : Nat)) from by rw [hdv]; exact (Int.sub_zero _).symm]) ?_
 refine ZLoop (netL3 w b0 bq bp n kk pr cp acc av cv la lv lc dv R) (k' := (kEnd Y6 (ro1 12 [0,1,0]) [])) (body := (cAt Y6 (ro1 12 [0,1,0,0]))) (by kernel_rfl) ([],ll.drop 1,sa_229,sc_230,none,0) [2,3,4,6,14] (by kernel_rfl) (⟨hE273,hM_236,hcs_232,hs.drop 1,hks_233,Nat.zero_le _,hR⟩) ?_
 rintro ⟨ds,L,s,e,xv,xc⟩ wi ⟨hE1,hM1,hc1,hs1,hk1,hle,hacc⟩
 simp only at hE1 hM1 hc1 hs1 hk1 hle hacc
 show H _ _ _ _ (kAt (cAt Y6 (ro1 12 [0,1,0,0])) [] (.inv (LI 227 [] (netL3 w b0 bq bp n kk pr cp acc av cv la lv lc dv R) (ds,L,s,e,xv,xc)) :: (kEnd Y6 (ro1 12 [0,1,0]) []))) (stz [(2,pt b0 0),(3,pt bq 0),(4,pt bp 0),(6,iv (n:Int)),(14,iv ((dv:Int) - (ds.length:Int)))]) wi
 refine Zq 6 ((0 : Int) ≤ ((dv:Int) - (ds.length:Int))) (fun h1 => ?_) (fun h1 => ?_)
 ·generalize hKT : ((.inv (LI 227 [] (netL3 w b0 bq bp n kk pr cp acc av cv la lv lc dv R) (ds,L,s,e,xv,xc)) :: (kEnd Y6 (ro1 12 [0,1,0]) [])) : List Fr) = KT
  have hlt : ds.length < dv + 1 := by omega
  have hfx : dv + 1 - ds.length = (dv + 1 - (ds.length + 1)) + 1 := by omega
  refine Zd 5 2 [sv ([120]),sv ([121])] 9 hE1 hM1 ?_
  intro bn w_237 hE277 hM278
  refine Zh 6 [.c 4 5,.p (fun _ => (0 ≤ (ds.length:Int) ∧ (ds.length:Int) < (2 : Int))),.p (fun _ => ((some ⟨bn,0,none⟩) : Option Addr) = some ⟨bn,0,none⟩),.p (fun _ => w_237.cell? ⟨bn,0 + ds.length * 1,none⟩ = some (sv (destNames.getD ds.length []))),.v (sv (destNames.getD ds.length []))] hM278 (AC (by omega) (AC rfl (A1 (destNames_at (hM278.blk 0 rfl) (by omega))))) ?_
  refine Za 0 49 [sv ([]),.slice none 0 0] hE277 hM278 ?_
  intro bd w_238 hE280 hM281
  refine Zt 0 0 0 (.agg #[sv (destNames.getD ds.length []),.slice none 0 0]) rfl hE280 hM281 ?_
  intro w_239 hE283 hM284
  refine Zl 5 E17 (next_any w bq L s e n w_239 hE283 hc1 hs1 (by omega) hk1 (hM284.blk 6 rfl)) ?_
  rintro _ w_240 ⟨rfl,sa_241,sc_242,hC_243,hcs_244,hks_245⟩
  have hE285 := hM284.toExt hE283 hC_243 6 rfl
  have hM286 := hM284.set 6 rfl hC_243
  have hv_246 := nextV_lt L (n := n) (by omega)
  refine Zh 7 [.c 0 1] hM286 trivial ?_
  obtain ⟨o,ho⟩ : ∃ o,nextV L n = o := ⟨_,rfl⟩
  have hol : o < n := by rw [← ho]; exact nextV_lt _ (by omega)
  refine Zw 0 16 (iv ((nextV L n:Nat):Int)) (iv (o:Int)) (by rw [ho]) ?_
  refine Zw 0 151 (iv ((nextV L n:Nat):Int)) (iv (o:Int)) (by rw [ho]) ?_
  refine Zd 0 1 [iv (o:Int)] 3 hE285 hM286 ?_
  intro be w_247 hE288 hM289
  have hM290 := hM289.nilRow (e := 3) (size := 1)
  refine Zp 0 0 1 1 8 ([(o:Int)].length) ([(o:Int)].flatMap intCells) rfl rfl ⟨by omega,by omega⟩ (fun _ _ h => by simpa [intCells] using h) hE288 hM290 ?_
  intro ov oc w_248 hE291 hM292
  refine Zt 1 2 1 (.slice ov ([(o:Int)].length) oc) rfl hE291 hM292 ?_
  intro w_249 hE294 hM295
  refine Zl 5 E17 (next_any w bq (L.drop 1) sa_241 sc_242 3 w_249 hE294 hcs_244 (hs1.drop 1) (by omega) hks_245 (hM295.blk 8 rfl)) ?_
  rintro _ w_250 ⟨rfl,sa_251,sc_252,hC_253,hcs_254,hks_255⟩
  have hE296 := hM295.toExt hE294 hC_253 8 rfl
  have hM297 := hM295.set 8 rfl hC_253
  have hv_256 := nextV_lt (L.drop 1) (n := 3) (by omega)
  refine Zi 8 [.gn 0,.p (fun _ => (decide (((nextV (L.drop 1) 3:Nat):Int) = (0 : Int))) = true → (-9223372036854775808 ≤ ((o + 1:Nat):Int) ∧ ((o + 1:Nat):Int) ≤ 9223372036854775807)),.gn 0,.gn 0,.gn 0,.y,.y,.y,.y] [] trivial [decide (((nextV (L.drop 1) 3:Nat):Int) = (0 : Int))] (A1 (by intro h; (try simp only [decide_eq_true_eq] at h); first | done | omega)) ?_
  refine Zr 0 _ ((((nextV (L.drop 1) 3:Nat):Int) = (0 : Int)) ∧ (((o + 1:Nat):Int) < (n:Int))) ((iffAnd iffDec iffDec)) (fun h2 => ?_) (fun h2 => ?_)
  ·have h3 : nextV (L.drop 1) 3 = 0 ∧ nextV L n + 1 < n := ⟨by omega,by omega⟩
   obtain ⟨o2,ho2⟩ : ∃ k,o + 1 + nextV ((L.drop 1).drop 1) (n - o - 1) = k := ⟨_,rfl⟩
   refine ZB 15 (kAt (cAt Y6 (ro1 12 [0,1,0,0])) [1,0,0,1,1,1,1] KT) 40 (opsAt (cAt (cAt Y6 (ro1 12 [0,1,0,0])) [1,0,0,1,1,1,0,1,0])) (fun _ _ => True) ?_
   intro w307 hx308
   obtain ⟨hE309,hM310⟩ := Xt hE296 hM297 hx308
   refine dx [0,2,3,4,5,6,7,8] [] 7 (lb 15 509) (fun w' => [I64 ((o + 1:Nat):Int),I64 ((n:Int) - (o:Int)),I64 (((n:Int) - (o:Int)) - (1 : Int))]) (fun w' hS => (AC (i64 (by omega)) (AC (i64 (by omega)) (A1 (i64 (by omega)))))) (trivial) ?_
   refine dAll 1 [9] (by kernel_rfl) ?_
   refine ⟨?_,?_⟩
   ·refine Wo [] (.load 22 (pt bd 1)) [] trivial (runs_load (v := .slice ov ([(o:Int)].length) oc) (ps := [cl w307 bd 1 (.slice ov ([(o:Int)].length) oc)]) (by kernel_rfl) (A1 (cell_of (hM310.blk 2 rfl) rfl))) ?_
    rintro _ _ ⟨rfl,rfl⟩
    refine ⟨trivial,?_⟩
    refine d1 9 ?_
    refine Wl E17 (by have h := next_any w bq ((L.drop 1).drop 1) sa_251 sc_252 (n - o - 1) w307 hE309 hcs_254 ((hs1.drop 1).drop 1) (by omega) hks_255 (hM310.blk 8 rfl); rw [show (((n - o - 1 : Nat)) : Int) = (n:Int) - (o:Int) - 1 by omega] at h; exact h) ?_
    rintro _ w_261 ⟨rfl,sa_262,sc_263,hC_264,hcs_265,hks_266⟩
    have hE311 := hM310.toExt hE309 hC_264 8 rfl
    have hM312 := hM310.set 8 rfl hC_264
    have hv_267 := nextV_lt ((L.drop 1).drop 1) (n := n - o - 1) (by omega)
    refine ⟨trivial,?_⟩
    refine dx [10] [] 4 (lb 15 2047) (fun w' => [I64 ((o + 1 + (nextV ((L.drop 1).drop 1) (n - o - 1)):Nat):Int)]) (fun w' hS => (A1 (i64 (by omega)))) (trivial) ?_
    refine d1 11 ?_
    refine Wd 1 [iv ((o + 1 + (nextV ((L.drop 1).drop 1) (n - o - 1)):Nat):Int)] 3 hE311 hM312 ?_
    intro bg w_268 hx316 hE314 hM315
    refine ⟨trivial,?_⟩
    refine d1 12 ?_
    refine Wp 1 0 1 8 ([(o:Int),(o2:Int)].length) ([(o:Int),(o2:Int)].flatMap intCells) rfl rfl ⟨Nat.le_of_ble_eq_true rfl,Nat.le_of_ble_eq_true rfl⟩ (fun _ _ h => by have h := h; rw [ho2] at h; simpa [intCells] using h) hE314 hM315 ?_
    intro ov2 oc2 w_269 hE317 hM318
    refine ⟨trivial,?_⟩
    refine dx0 [13] [] 1 (lb 15 16383) (trivial) ?_
    refine d1 14 ?_
    refine Wt 3 1 (.slice ov2 ([(o:Int),(o2:Int)].length) oc2) rfl hE317 hM318 ?_
    intro w_270 hE320 hM321
    refine ⟨trivial,?_⟩
    refine ZD ?_
    refine Zh 4 [.c 8 5,.a 3 0 2] hM321 trivial ?_
    refine Zd 0 1 [sv (destNames.getD ds.length []),.slice ov2 ([(o:Int),(o2:Int)].length) oc2] 49 hE320 hM321 ?_
    intro bf w_271 hE323 hM324
    refine Zp 0 6 0 1 40 ((ds ++ [(⟨⟨destNames.getD ds.length [],[(o:Int),(o2:Int)]⟩,ov2,oc2⟩ : DA)]).length) ((ds ++ [(⟨⟨destNames.getD ds.length [],[(o:Int),(o2:Int)]⟩,ov2,oc2⟩ : DA)]).flatMap destC) rfl rfl ⟨by omega,by omega⟩ (fun _ _ h => by simpa [destC] using h) hE323 hM324 ?_
    intro xv2 xc2 w_272 hE325 hM326
    refine Zt 1 9 5 (.slice xv2 ((ds ++ [(⟨⟨destNames.getD ds.length [],[(o:Int),(o2:Int)]⟩,ov2,oc2⟩ : DA)]).length) xc2) rfl hE325 hM326 ?_
    intro w_273 hE328 hM329
    refine Zs 7 [] [I64 (((dv:Int) - (ds.length:Int)) - (1 : Int))] (A1 (i64 (by omega))) ?_
    have hM330 := hM329.pickT 12 [2,6,7,8,9,10,11] (by kernel_rfl)
    have hM_274 : Hold w_273 w.heap.size (([.row (.slice xv2 ((ds ++ [(⟨⟨destNames.getD ds.length [],[(o:Int),(o2:Int)]⟩,ov2,oc2⟩ : DA)]).length) xc2) 49 2 ((ds ++ [(⟨⟨destNames.getD ds.length [],[(o:Int),(o2:Int)]⟩,ov2,oc2⟩ : DA)]).length) ((ds ++ [(⟨⟨destNames.getD ds.length [],[(o:Int),(o2:Int)]⟩,ov2,oc2⟩ : DA)]).flatMap destC),.row (.slice lv la.length lc) 43 3 la.length (la.flatMap linkC),.row (.slice av acc.length cv) 41 2 acc.length (acc.flatMap nodeC),.blk bp ([iv pr,iv (cp:Int),iv (min (kk:Int) (la.length:Int)),.slice av acc.length cv,.slice lv la.length lc,.slice xv2 ((ds ++ [(⟨⟨destNames.getD ds.length [],[(o:Int),(o2:Int)]⟩,ov2,oc2⟩ : DA)]).length) xc2,.slice none 0 0]) 29,.blk bq ([.slice sa_262 ((((L.drop 1).drop 1).drop 1).length) sc_263]) 46,.blk b0 ([iv 0,iv 0,iv 0,.slice none 0 0,.slice none 0 0,.slice none 0 0,.slice none 0 0]) 29] ++ origR (ds ++ [(⟨⟨destNames.getD ds.length [],[(o:Int),(o2:Int)]⟩,ov2,oc2⟩ : DA)]))) := by have h := hM330.toTail 0 rfl rfl; rw [show origR (ds ++ [(⟨⟨destNames.getD ds.length [],[(o:Int),(o2:Int)]⟩,ov2,oc2⟩ : DA)]) = origR ds ++ [.row (.slice ov2 ([(o:Int),(o2:Int)].length) oc2) 3 1 ([(o:Int),(o2:Int)].length) ([(o:Int),(o2:Int)].flatMap intCells)] from by simp [origR]]; exact h
    refine Zw 0 14 (iv (((dv:Int) - (ds.length:Int)) - (1 : Int))) (iv ((dv:Int) - (((ds ++ [(⟨⟨destNames.getD ds.length [],[(o:Int),(o2:Int)]⟩,ov2,oc2⟩ : DA)]).length:Nat):Int))) (by rw [show ((((dv:Int) - (ds.length:Int)) - (1 : Int)) : Int) = ((dv:Int) - (((ds ++ [(⟨⟨destNames.getD ds.length [],[(o:Int),(o2:Int)]⟩,ov2,oc2⟩ : DA)]).length:Nat):Int)) from by rw [List.length_append]; show _ = (dv:Int) - ((ds.length + 1:Nat):Int); omega]) ?_
    have hx : ((⟨⟨destNames.getD ds.length [],[(o:Int),(o2:Int)]⟩,ov2,oc2⟩ : DA).d :: (netDests (dv + 1 - (ds.length + 1)) (ds.length + 1) n (((L.drop 1).drop 1).drop 1)).1) = (netDests (dv + 1 - ds.length) ds.length n L).1 ∧ (netDests (dv + 1 - (ds.length + 1)) (ds.length + 1) n (((L.drop 1).drop 1).drop 1)).2 = (netDests (dv + 1 - ds.length) ds.length n L).2 := by rw [hfx,netDests_stepT h3,ho,ho2]; exact ⟨rfl,rfl⟩
    subst hKT
    exact ZA 0 (netL3 w b0 bq bp n kk pr cp acc av cv la lv lc dv R) (ds,L,s,e,xv,xc) ((ds ++ [(⟨⟨destNames.getD ds.length [],[(o:Int),(o2:Int)]⟩,ov2,oc2⟩ : DA)]),((L.drop 1).drop 1).drop 1,sa_262,sc_263,xv2,xc2) [2,3,4,6,14] (⟨hE328,hM_274,hcs_265,((hs1.drop 1).drop 1).drop 1,hks_266,by show (ds ++ [(⟨⟨destNames.getD ds.length [],[(o:Int),(o2:Int)]⟩,ov2,oc2⟩ : DA)]).length ≤ dv + 1; rw [List.length_append]; exact hlt,by show ((ds ++ [(⟨⟨destNames.getD ds.length [],[(o:Int),(o2:Int)]⟩,ov2,oc2⟩ : DA)]).map (·.d) ++ (netDests (dv + 1 - (ds ++ [(⟨⟨destNames.getD ds.length [],[(o:Int),(o2:Int)]⟩,ov2,oc2⟩ : DA)]).length) (ds ++ [(⟨⟨destNames.getD ds.length [],[(o:Int),(o2:Int)]⟩,ov2,oc2⟩ : DA)]).length n _).1,(netDests (dv + 1 - (ds ++ [(⟨⟨destNames.getD ds.length [],[(o:Int),(o2:Int)]⟩,ov2,oc2⟩ : DA)]).length) (ds ++ [(⟨⟨destNames.getD ds.length [],[(o:Int),(o2:Int)]⟩,ov2,oc2⟩ : DA)]).length n _).2) = R; rw [List.length_append,List.map_append,List.append_assoc,show [(⟨⟨destNames.getD ds.length [],[(o:Int),(o2:Int)]⟩,ov2,oc2⟩ : DA)].length = 1 from rfl,List.map_singleton,List.singleton_append,hx.1,hx.2]; exact hacc⟩) (by show dv + 1 - (ds ++ [(⟨⟨destNames.getD ds.length [],[(o:Int),(o2:Int)]⟩,ov2,oc2⟩ : DA)]).length < dv + 1 - ds.length; rw [List.length_append]; show dv + 1 - (ds.length + 1) < _; omega)
   refine Wl E17 (by have h := next_any w bq ((L.drop 1).drop 1) sa_251 sc_252 (n - o - 1) w307 hE309 hcs_254 ((hs1.drop 1).drop 1) (by omega) hks_255 (hM310.blk 8 rfl); rw [show (((n - o - 1 : Nat)) : Int) = (n:Int) - (o:Int) - 1 by omega] at h; exact h) ?_
   rintro _ w_275 ⟨rfl,sa_276,sc_277,hC_278,hcs_279,hks_280⟩
   have hE331 := hM310.toExt hE309 hC_278 8 rfl
   have hM332 := hM310.set 8 rfl hC_278
   have hv_281 := nextV_lt ((L.drop 1).drop 1) (n := n - o - 1) (by omega)
   refine ⟨trivial,?_⟩
   refine dx [10] [] 5 (lb 15 2045) (fun w' => [I64 ((o + 1 + (nextV ((L.drop 1).drop 1) (n - o - 1)):Nat):Int)]) (fun w' hS => (A1 (i64 (by omega)))) (trivial) ?_
   refine dAll 1 [11] (by kernel_rfl) ?_
   refine ⟨?_,?_⟩
   ·refine Wo [] (.load 22 (pt bd 1)) [] trivial (runs_load (v := .slice ov ([(o:Int)].length) oc) (ps := [cl w_275 bd 1 (.slice ov ([(o:Int)].length) oc)]) (by kernel_rfl) (A1 (cell_of (hM332.blk 2 rfl) rfl))) ?_
    rintro _ _ ⟨rfl,rfl⟩
    refine ⟨trivial,?_⟩
    refine d1 11 ?_
    refine Wd 1 [iv ((o + 1 + (nextV ((L.drop 1).drop 1) (n - o - 1)):Nat):Int)] 3 hE331 hM332 ?_
    intro bg w_282 hx336 hE334 hM335
    refine ⟨trivial,?_⟩
    refine d1 12 ?_
    refine Wp 1 0 1 8 ([(o:Int),(o2:Int)].length) ([(o:Int),(o2:Int)].flatMap intCells) rfl rfl ⟨Nat.le_of_ble_eq_true rfl,Nat.le_of_ble_eq_true rfl⟩ (fun _ _ h => by have h := h; rw [ho2] at h; simpa [intCells] using h) hE334 hM335 ?_
    intro ov2 oc2 w_283 hE337 hM338
    refine ⟨trivial,?_⟩
    refine dx0 [13] [] 1 (lb 15 16383) (trivial) ?_
    refine d1 14 ?_
    refine Wt 3 1 (.slice ov2 ([(o:Int),(o2:Int)].length) oc2) rfl hE337 hM338 ?_
    intro w_284 hE340 hM341
    refine ⟨trivial,?_⟩
    refine ZD ?_
    refine Zh 4 [.c 8 5,.a 3 0 2] hM341 trivial ?_
    refine Zd 0 1 [sv (destNames.getD ds.length []),.slice ov2 ([(o:Int),(o2:Int)].length) oc2] 49 hE340 hM341 ?_
    intro bf w_285 hE343 hM344
    refine Zp 0 6 0 1 40 ((ds ++ [(⟨⟨destNames.getD ds.length [],[(o:Int),(o2:Int)]⟩,ov2,oc2⟩ : DA)]).length) ((ds ++ [(⟨⟨destNames.getD ds.length [],[(o:Int),(o2:Int)]⟩,ov2,oc2⟩ : DA)]).flatMap destC) rfl rfl ⟨by omega,by omega⟩ (fun _ _ h => by simpa [destC] using h) hE343 hM344 ?_
    intro xv2 xc2 w_286 hE345 hM346
    refine Zt 1 9 5 (.slice xv2 ((ds ++ [(⟨⟨destNames.getD ds.length [],[(o:Int),(o2:Int)]⟩,ov2,oc2⟩ : DA)]).length) xc2) rfl hE345 hM346 ?_
    intro w_287 hE348 hM349
    refine Zs 7 [] [I64 (((dv:Int) - (ds.length:Int)) - (1 : Int))] (A1 (i64 (by omega))) ?_
    have hM350 := hM349.pickT 12 [2,6,7,8,9,10,11] (by kernel_rfl)
    have hM_288 : Hold w_287 w.heap.size (([.row (.slice xv2 ((ds ++ [(⟨⟨destNames.getD ds.length [],[(o:Int),(o2:Int)]⟩,ov2,oc2⟩ : DA)]).length) xc2) 49 2 ((ds ++ [(⟨⟨destNames.getD ds.length [],[(o:Int),(o2:Int)]⟩,ov2,oc2⟩ : DA)]).length) ((ds ++ [(⟨⟨destNames.getD ds.length [],[(o:Int),(o2:Int)]⟩,ov2,oc2⟩ : DA)]).flatMap destC),.row (.slice lv la.length lc) 43 3 la.length (la.flatMap linkC),.row (.slice av acc.length cv) 41 2 acc.length (acc.flatMap nodeC),.blk bp ([iv pr,iv (cp:Int),iv (min (kk:Int) (la.length:Int)),.slice av acc.length cv,.slice lv la.length lc,.slice xv2 ((ds ++ [(⟨⟨destNames.getD ds.length [],[(o:Int),(o2:Int)]⟩,ov2,oc2⟩ : DA)]).length) xc2,.slice none 0 0]) 29,.blk bq ([.slice sa_276 ((((L.drop 1).drop 1).drop 1).length) sc_277]) 46,.blk b0 ([iv 0,iv 0,iv 0,.slice none 0 0,.slice none 0 0,.slice none 0 0,.slice none 0 0]) 29] ++ origR (ds ++ [(⟨⟨destNames.getD ds.length [],[(o:Int),(o2:Int)]⟩,ov2,oc2⟩ : DA)]))) := by have h := hM350.toTail 0 rfl rfl; rw [show origR (ds ++ [(⟨⟨destNames.getD ds.length [],[(o:Int),(o2:Int)]⟩,ov2,oc2⟩ : DA)]) = origR ds ++ [.row (.slice ov2 ([(o:Int),(o2:Int)].length) oc2) 3 1 ([(o:Int),(o2:Int)].length) ([(o:Int),(o2:Int)].flatMap intCells)] from by simp [origR]]; exact h
    refine Zw 0 14 (iv (((dv:Int) - (ds.length:Int)) - (1 : Int))) (iv ((dv:Int) - (((ds ++ [(⟨⟨destNames.getD ds.length [],[(o:Int),(o2:Int)]⟩,ov2,oc2⟩ : DA)]).length:Nat):Int))) (by rw [show ((((dv:Int) - (ds.length:Int)) - (1 : Int)) : Int) = ((dv:Int) - (((ds ++ [(⟨⟨destNames.getD ds.length [],[(o:Int),(o2:Int)]⟩,ov2,oc2⟩ : DA)]).length:Nat):Int)) from by rw [List.length_append]; show _ = (dv:Int) - ((ds.length + 1:Nat):Int); omega]) ?_
    have hx : ((⟨⟨destNames.getD ds.length [],[(o:Int),(o2:Int)]⟩,ov2,oc2⟩ : DA).d :: (netDests (dv + 1 - (ds.length + 1)) (ds.length + 1) n (((L.drop 1).drop 1).drop 1)).1) = (netDests (dv + 1 - ds.length) ds.length n L).1 ∧ (netDests (dv + 1 - (ds.length + 1)) (ds.length + 1) n (((L.drop 1).drop 1).drop 1)).2 = (netDests (dv + 1 - ds.length) ds.length n L).2 := by rw [hfx,netDests_stepT h3,ho,ho2]; exact ⟨rfl,rfl⟩
    subst hKT
    exact ZA 0 (netL3 w b0 bq bp n kk pr cp acc av cv la lv lc dv R) (ds,L,s,e,xv,xc) ((ds ++ [(⟨⟨destNames.getD ds.length [],[(o:Int),(o2:Int)]⟩,ov2,oc2⟩ : DA)]),((L.drop 1).drop 1).drop 1,sa_276,sc_277,xv2,xc2) [2,3,4,6,14] (⟨hE348,hM_288,hcs_279,((hs1.drop 1).drop 1).drop 1,hks_280,by show (ds ++ [(⟨⟨destNames.getD ds.length [],[(o:Int),(o2:Int)]⟩,ov2,oc2⟩ : DA)]).length ≤ dv + 1; rw [List.length_append]; exact hlt,by show ((ds ++ [(⟨⟨destNames.getD ds.length [],[(o:Int),(o2:Int)]⟩,ov2,oc2⟩ : DA)]).map (·.d) ++ (netDests (dv + 1 - (ds ++ [(⟨⟨destNames.getD ds.length [],[(o:Int),(o2:Int)]⟩,ov2,oc2⟩ : DA)]).length) (ds ++ [(⟨⟨destNames.getD ds.length [],[(o:Int),(o2:Int)]⟩,ov2,oc2⟩ : DA)]).length n _).1,(netDests (dv + 1 - (ds ++ [(⟨⟨destNames.getD ds.length [],[(o:Int),(o2:Int)]⟩,ov2,oc2⟩ : DA)]).length) (ds ++ [(⟨⟨destNames.getD ds.length [],[(o:Int),(o2:Int)]⟩,ov2,oc2⟩ : DA)]).length n _).2) = R; rw [List.length_append,List.map_append,List.append_assoc,show [(⟨⟨destNames.getD ds.length [],[(o:Int),(o2:Int)]⟩,ov2,oc2⟩ : DA)].length = 1 from rfl,List.map_singleton,List.singleton_append,hx.1,hx.2]; exact hacc⟩) (by show dv + 1 - (ds ++ [(⟨⟨destNames.getD ds.length [],[(o:Int),(o2:Int)]⟩,ov2,oc2⟩ : DA)]).length < dv + 1 - ds.length; rw [List.length_append]; show dv + 1 - (ds.length + 1) < _; omega)
   refine Wd 1 [iv ((o + 1 + (nextV ((L.drop 1).drop 1) (n - o - 1)):Nat):Int)] 3 hE331 hM332 ?_
   intro bg w_289 hx354 hE352 hM353
   refine ⟨trivial,?_⟩
   refine d1 1 ?_
   refine Wo [] (.load 22 (pt bd 1)) [] trivial (runs_load (v := .slice ov ([(o:Int)].length) oc) (ps := [cl w_289 bd 1 (.slice ov ([(o:Int)].length) oc)]) (by kernel_rfl) (A1 (cell_of (hM353.blk 3 rfl) rfl))) ?_
   rintro _ _ ⟨rfl,rfl⟩
   refine ⟨trivial,?_⟩
   refine d1 12 ?_
   refine Wp 1 0 1 8 ([(o:Int),(o2:Int)].length) ([(o:Int),(o2:Int)].flatMap intCells) rfl rfl ⟨Nat.le_of_ble_eq_true rfl,Nat.le_of_ble_eq_true rfl⟩ (fun _ _ h => by have h := h; rw [ho2] at h; simpa [intCells] using h) hE352 hM353 ?_
   intro ov2 oc2 w_290 hE355 hM356
   refine ⟨trivial,?_⟩
   refine dx0 [13] [] 1 (lb 15 16383) (trivial) ?_
   refine d1 14 ?_
   refine Wt 3 1 (.slice ov2 ([(o:Int),(o2:Int)].length) oc2) rfl hE355 hM356 ?_
   intro w_291 hE358 hM359
   refine ⟨trivial,?_⟩
   refine ZD ?_
   refine Zh 4 [.c 8 5,.a 3 0 2] hM359 trivial ?_
   refine Zd 0 1 [sv (destNames.getD ds.length []),.slice ov2 ([(o:Int),(o2:Int)].length) oc2] 49 hE358 hM359 ?_
   intro bf w_292 hE361 hM362
   refine Zp 0 6 0 1 40 ((ds ++ [(⟨⟨destNames.getD ds.length [],[(o:Int),(o2:Int)]⟩,ov2,oc2⟩ : DA)]).length) ((ds ++ [(⟨⟨destNames.getD ds.length [],[(o:Int),(o2:Int)]⟩,ov2,oc2⟩ : DA)]).flatMap destC) rfl rfl ⟨by omega,by omega⟩ (fun _ _ h => by simpa [destC] using h) hE361 hM362 ?_
   intro xv2 xc2 w_293 hE363 hM364
   refine Zt 1 9 5 (.slice xv2 ((ds ++ [(⟨⟨destNames.getD ds.length [],[(o:Int),(o2:Int)]⟩,ov2,oc2⟩ : DA)]).length) xc2) rfl hE363 hM364 ?_
   intro w_294 hE366 hM367
   refine Zs 7 [] [I64 (((dv:Int) - (ds.length:Int)) - (1 : Int))] (A1 (i64 (by omega))) ?_
   have hM368 := hM367.pickT 12 [2,6,7,8,9,10,11] (by kernel_rfl)
   have hM_295 : Hold w_294 w.heap.size (([.row (.slice xv2 ((ds ++ [(⟨⟨destNames.getD ds.length [],[(o:Int),(o2:Int)]⟩,ov2,oc2⟩ : DA)]).length) xc2) 49 2 ((ds ++ [(⟨⟨destNames.getD ds.length [],[(o:Int),(o2:Int)]⟩,ov2,oc2⟩ : DA)]).length) ((ds ++ [(⟨⟨destNames.getD ds.length [],[(o:Int),(o2:Int)]⟩,ov2,oc2⟩ : DA)]).flatMap destC),.row (.slice lv la.length lc) 43 3 la.length (la.flatMap linkC),.row (.slice av acc.length cv) 41 2 acc.length (acc.flatMap nodeC),.blk bp ([iv pr,iv (cp:Int),iv (min (kk:Int) (la.length:Int)),.slice av acc.length cv,.slice lv la.length lc,.slice xv2 ((ds ++ [(⟨⟨destNames.getD ds.length [],[(o:Int),(o2:Int)]⟩,ov2,oc2⟩ : DA)]).length) xc2,.slice none 0 0]) 29,.blk bq ([.slice sa_276 ((((L.drop 1).drop 1).drop 1).length) sc_277]) 46,.blk b0 ([iv 0,iv 0,iv 0,.slice none 0 0,.slice none 0 0,.slice none 0 0,.slice none 0 0]) 29] ++ origR (ds ++ [(⟨⟨destNames.getD ds.length [],[(o:Int),(o2:Int)]⟩,ov2,oc2⟩ : DA)]))) := by have h := hM368.toTail 0 rfl rfl; rw [show origR (ds ++ [(⟨⟨destNames.getD ds.length [],[(o:Int),(o2:Int)]⟩,ov2,oc2⟩ : DA)]) = origR ds ++ [.row (.slice ov2 ([(o:Int),(o2:Int)].length) oc2) 3 1 ([(o:Int),(o2:Int)].length) ([(o:Int),(o2:Int)].flatMap intCells)] from by simp [origR]]; exact h
   refine Zw 0 14 (iv (((dv:Int) - (ds.length:Int)) - (1 : Int))) (iv ((dv:Int) - (((ds ++ [(⟨⟨destNames.getD ds.length [],[(o:Int),(o2:Int)]⟩,ov2,oc2⟩ : DA)]).length:Nat):Int))) (by rw [show ((((dv:Int) - (ds.length:Int)) - (1 : Int)) : Int) = ((dv:Int) - (((ds ++ [(⟨⟨destNames.getD ds.length [],[(o:Int),(o2:Int)]⟩,ov2,oc2⟩ : DA)]).length:Nat):Int)) from by rw [List.length_append]; show _ = (dv:Int) - ((ds.length + 1:Nat):Int); omega]) ?_
   have hx : ((⟨⟨destNames.getD ds.length [],[(o:Int),(o2:Int)]⟩,ov2,oc2⟩ : DA).d :: (netDests (dv + 1 - (ds.length + 1)) (ds.length + 1) n (((L.drop 1).drop 1).drop 1)).1) = (netDests (dv + 1 - ds.length) ds.length n L).1 ∧ (netDests (dv + 1 - (ds.length + 1)) (ds.length + 1) n (((L.drop 1).drop 1).drop 1)).2 = (netDests (dv + 1 - ds.length) ds.length n L).2 := by rw [hfx,netDests_stepT h3,ho,ho2]; exact ⟨rfl,rfl⟩
   subst hKT
   exact ZA 0 (netL3 w b0 bq bp n kk pr cp acc av cv la lv lc dv R) (ds,L,s,e,xv,xc) ((ds ++ [(⟨⟨destNames.getD ds.length [],[(o:Int),(o2:Int)]⟩,ov2,oc2⟩ : DA)]),((L.drop 1).drop 1).drop 1,sa_276,sc_277,xv2,xc2) [2,3,4,6,14] (⟨hE366,hM_295,hcs_279,((hs1.drop 1).drop 1).drop 1,hks_280,by show (ds ++ [(⟨⟨destNames.getD ds.length [],[(o:Int),(o2:Int)]⟩,ov2,oc2⟩ : DA)]).length ≤ dv + 1; rw [List.length_append]; exact hlt,by show ((ds ++ [(⟨⟨destNames.getD ds.length [],[(o:Int),(o2:Int)]⟩,ov2,oc2⟩ : DA)]).map (·.d) ++ (netDests (dv + 1 - (ds ++ [(⟨⟨destNames.getD ds.length [],[(o:Int),(o2:Int)]⟩,ov2,oc2⟩ : DA)]).length) (ds ++ [(⟨⟨destNames.getD ds.length [],[(o:Int),(o2:Int)]⟩,ov2,oc2⟩ : DA)]).length n _).1,(netDests (dv + 1 - (ds ++ [(⟨⟨destNames.getD ds.length [],[(o:Int),(o2:Int)]⟩,ov2,oc2⟩ : DA)]).length) (ds ++ [(⟨⟨destNames.getD ds.length [],[(o:Int),(o2:Int)]⟩,ov2,oc2⟩ : DA)]).length n _).2) = R; rw [List.length_append,List.map_append,List.append_assoc,show [(⟨⟨destNames.getD ds.length [],[(o:Int),(o2:Int)]⟩,ov2,oc2⟩ : DA)].length = 1 from rfl,List.map_singleton,List.singleton_append,hx.1,hx.2]; exact hacc⟩) (by show dv + 1 - (ds ++ [(⟨⟨destNames.getD ds.length [],[(o:Int),(o2:Int)]⟩,ov2,oc2⟩ : DA)]).length < dv + 1 - ds.length; rw [List.length_append]; show dv + 1 - (ds.length + 1) < _; omega)
  have h3 : ¬ (nextV (L.drop 1) 3 = 0 ∧ nextV L n + 1 < n) := fun h => h2 ⟨by omega,by omega⟩
  refine Zh 5 [.c 7 5,.a 2 0 2] hM297 trivial ?_
  refine Zd 0 1 [sv (destNames.getD ds.length []),.slice ov ([(o:Int)].length) oc] 49 hE296 hM297 ?_
  intro bf w_257 hE299 hM300
  refine Zp 0 5 0 1 40 ((ds ++ [(⟨⟨destNames.getD ds.length [],[(o:Int)]⟩,ov,oc⟩ : DA)]).length) ((ds ++ [(⟨⟨destNames.getD ds.length [],[(o:Int)]⟩,ov,oc⟩ : DA)]).flatMap destC) rfl rfl ⟨by omega,by omega⟩ (fun _ _ h => by simpa [destC] using h) hE299 hM300 ?_
  intro xv2 xc2 w_258 hE301 hM302
  refine Zt 1 8 5 (.slice xv2 ((ds ++ [(⟨⟨destNames.getD ds.length [],[(o:Int)]⟩,ov,oc⟩ : DA)]).length) xc2) rfl hE301 hM302 ?_
  intro w_259 hE304 hM305
  refine Zs 7 [] [I64 (((dv:Int) - (ds.length:Int)) - (1 : Int))] (A1 (i64 (by omega))) ?_
  have hM306 := hM305.pickT 11 [1,5,6,7,8,9,10] (by kernel_rfl)
  have hM_260 : Hold w_259 w.heap.size (([.row (.slice xv2 ((ds ++ [(⟨⟨destNames.getD ds.length [],[(o:Int)]⟩,ov,oc⟩ : DA)]).length) xc2) 49 2 ((ds ++ [(⟨⟨destNames.getD ds.length [],[(o:Int)]⟩,ov,oc⟩ : DA)]).length) ((ds ++ [(⟨⟨destNames.getD ds.length [],[(o:Int)]⟩,ov,oc⟩ : DA)]).flatMap destC),.row (.slice lv la.length lc) 43 3 la.length (la.flatMap linkC),.row (.slice av acc.length cv) 41 2 acc.length (acc.flatMap nodeC),.blk bp ([iv pr,iv (cp:Int),iv (min (kk:Int) (la.length:Int)),.slice av acc.length cv,.slice lv la.length lc,.slice xv2 ((ds ++ [(⟨⟨destNames.getD ds.length [],[(o:Int)]⟩,ov,oc⟩ : DA)]).length) xc2,.slice none 0 0]) 29,.blk bq ([.slice sa_251 (((L.drop 1).drop 1).length) sc_252]) 46,.blk b0 ([iv 0,iv 0,iv 0,.slice none 0 0,.slice none 0 0,.slice none 0 0,.slice none 0 0]) 29] ++ origR (ds ++ [(⟨⟨destNames.getD ds.length [],[(o:Int)]⟩,ov,oc⟩ : DA)]))) := by have h := hM306.toTail 0 rfl rfl; rw [show origR (ds ++ [(⟨⟨destNames.getD ds.length [],[(o:Int)]⟩,ov,oc⟩ : DA)]) = origR ds ++ [.row (.slice ov ([(o:Int)].length) oc) 3 1 ([(o:Int)].length) ([(o:Int)].flatMap intCells)] from by simp [origR]]; exact h
  refine Zw 0 14 (iv (((dv:Int) - (ds.length:Int)) - (1 : Int))) (iv ((dv:Int) - (((ds ++ [(⟨⟨destNames.getD ds.length [],[(o:Int)]⟩,ov,oc⟩ : DA)]).length:Nat):Int))) (by rw [show ((((dv:Int) - (ds.length:Int)) - (1 : Int)) : Int) = ((dv:Int) - (((ds ++ [(⟨⟨destNames.getD ds.length [],[(o:Int)]⟩,ov,oc⟩ : DA)]).length:Nat):Int)) from by rw [List.length_append]; show _ = (dv:Int) - ((ds.length + 1:Nat):Int); omega]) ?_
  have hx : ((⟨⟨destNames.getD ds.length [],[(o:Int)]⟩,ov,oc⟩ : DA).d :: (netDests (dv + 1 - (ds.length + 1)) (ds.length + 1) n ((L.drop 1).drop 1)).1) = (netDests (dv + 1 - ds.length) ds.length n L).1 ∧ (netDests (dv + 1 - (ds.length + 1)) (ds.length + 1) n ((L.drop 1).drop 1)).2 = (netDests (dv + 1 - ds.length) ds.length n L).2 := by rw [hfx,netDests_stepF h3,ho]; exact ⟨rfl,rfl⟩
  subst hKT
  exact ZA 0 (netL3 w b0 bq bp n kk pr cp acc av cv la lv lc dv R) (ds,L,s,e,xv,xc) ((ds ++ [(⟨⟨destNames.getD ds.length [],[(o:Int)]⟩,ov,oc⟩ : DA)]),(L.drop 1).drop 1,sa_251,sc_252,xv2,xc2) [2,3,4,6,14] (⟨hE304,hM_260,hcs_254,(hs1.drop 1).drop 1,hks_255,by show (ds ++ [(⟨⟨destNames.getD ds.length [],[(o:Int)]⟩,ov,oc⟩ : DA)]).length ≤ dv + 1; rw [List.length_append]; exact hlt,by show ((ds ++ [(⟨⟨destNames.getD ds.length [],[(o:Int)]⟩,ov,oc⟩ : DA)]).map (·.d) ++ (netDests (dv + 1 - (ds ++ [(⟨⟨destNames.getD ds.length [],[(o:Int)]⟩,ov,oc⟩ : DA)]).length) (ds ++ [(⟨⟨destNames.getD ds.length [],[(o:Int)]⟩,ov,oc⟩ : DA)]).length n _).1,(netDests (dv + 1 - (ds ++ [(⟨⟨destNames.getD ds.length [],[(o:Int)]⟩,ov,oc⟩ : DA)]).length) (ds ++ [(⟨⟨destNames.getD ds.length [],[(o:Int)]⟩,ov,oc⟩ : DA)]).length n _).2) = R; rw [List.length_append,List.map_append,List.append_assoc,show [(⟨⟨destNames.getD ds.length [],[(o:Int)]⟩,ov,oc⟩ : DA)].length = 1 from rfl,List.map_singleton,List.singleton_append,hx.1,hx.2]; exact hacc⟩) (by show dv + 1 - (ds ++ [(⟨⟨destNames.getD ds.length [],[(o:Int)]⟩,ov,oc⟩ : DA)]).length < dv + 1 - ds.length; rw [List.length_append]; show dv + 1 - (ds.length + 1) < _; omega)
 have hlen2 : ds.length = dv + 1 := by omega
 rw [hlen2,Nat.sub_self] at hacc
 have hC2 : netC raw = (ds.map (·.d),L) := by rw [hCeq,← hacc]; simp [netDests]
 refine Zz 1 (kAt Y6 (ro1 13 []) []) [(2,pt b0 0),(3,pt bq 0),(4,pt bp 0),(6,iv (n:Int))] ?_
 exact net_end raw w wi b0 bq bp n kk pr cp acc av cv la lv lc ds xv xc L s e ll hE1 hM1 hc1 hs1 hk1 hn hpr hcp hkk hA hB hC2 (by omega)

end Go.Proofs.YtcbclephakfemaaGreatRRRDoor
