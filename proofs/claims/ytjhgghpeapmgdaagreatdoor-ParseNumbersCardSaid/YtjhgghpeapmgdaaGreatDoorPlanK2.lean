/-
  PLAN: the middle of the statements' Net.
-/
import Derived.Test.YtjhgghpeapmgdaaGreatDoorPlanK1
import Derived.Test.YtjhgghpeapmgdaaGreatDoorMg2
namespace Go.Proofs.YtjhgghpeapmgdaaGreatDoor
open Go.Bk Go.Proofs

def netL3 (w : World) (b0 bq bp n kk : Nat) (pr : Int) (cp : Nat) (acc : List PNode) (av : Option Addr) (cv : Nat) (la : List PLink) (lv : Option Addr) (lc : Nat) (dv : Nat) (R : List PDest × List Int) : Lp (List DA × List Int × Option Addr × Nat × Option Addr × Nat) where
  S := fun x => [(2,none,pt b0 0),(3,none,pt bq 0),(4,none,pt bp 0),(6,none,iv (n:Int)),(14,none,iv ((dv:Int) - (x.1.length:Int)))]
  J := fun x w' => Ext w w' ∧ Hold w' w.heap.size (([.row (.slice x.2.2.2.2.1 x.1.length x.2.2.2.2.2) 54 2 x.1.length (x.1.flatMap destC),.row (.slice lv la.length lc) 61 3 la.length (la.flatMap linkC),.row (.slice av acc.length cv) 52 2 acc.length (acc.flatMap nodeC),.blk bp ([iv pr,iv (cp:Int),iv (min (kk:Int) (la.length:Int)),.slice av acc.length cv,.slice lv la.length lc,.slice x.2.2.2.2.1 x.1.length x.2.2.2.2.2,.slice none 0 0]) 29,.blk bq ([.slice x.2.2.1 x.2.1.length x.2.2.2.1]) 64,.blk b0 ([iv 0,iv 0,iv 0,.slice none 0 0,.slice none 0 0,.slice none 0 0,.slice none 0 0]) 29] ++ origR x.1)) ∧ Cells w x.2.2.1 (x.2.1.flatMap intCells) ∧ Small x.2.1 ∧ x.2.1.length ≤ x.2.2.2.1 ∧ x.1.length ≤ dv + 1 ∧ (x.1.map (·.d) ++ (netDests (dv + 1 - x.1.length) x.1.length n x.2.1).1,(netDests (dv + 1 - x.1.length) x.1.length n x.2.1).2) = R
  M := fun x => dv + 1 - x.1.length
set_option maxRecDepth 20000 in
set_option maxHeartbeats 2000000 in
theorem net_tail (raw : List Int) (w wt : World) (b0 bq bp n kk : Nat) (pr : Int) (cp : Nat) (acc : List PNode) (av : Option Addr) (cv : Nat) (la : List PLink) (lv : Option Addr) (lc : Nat) (ll : List Int) (ls : Option Addr) (le : Nat) (hE : Ext w wt) (hM : Hold wt w.heap.size [.row (.slice lv la.length lc) 61 3 la.length (la.flatMap linkC),.row (.slice av acc.length cv) 52 2 acc.length (acc.flatMap nodeC),.blk bp ([iv pr,iv (cp:Int),iv 0,.slice av acc.length cv,.slice lv la.length lc,.slice none 0 0,.slice none 0 0]) 29,.blk bq ([.slice ls ll.length le]) 64,.blk b0 ([iv 0,iv 0,iv 0,.slice none 0 0,.slice none 0 0,.slice none 0 0,.slice none 0 0]) 29]) (hc : Cells w ls (ll.flatMap intCells)) (hs : Small ll) (hk : ll.length ≤ le) (hn : netN raw = n) (hpr : (if netPath raw then 2 else 1) = pr) (hcp : netCap raw = cp) (hkk : nextV (netSrc2 raw) 4 = kk) (hA : (netA raw).1 = acc) (hB : netB raw = (la,ll)) (hlen : acc.length = n) :
    G Tryz.prog 227 [] (bodyPost Tryz.prog Tryz.f14 (Ret fun v w' => ∃ q : PAd,v = .agg #[.int .i64 (netP raw).proto,.int .i64 (netP raw).cap,.int .i64 (netP raw).k,.slice q.a1 (netP raw).nodes.length q.c1,.slice q.a2 (netP raw).links.length q.c2,.slice q.a3 (netP raw).dests.length q.c3,.slice q.a4 (netP raw).checks.length q.c4] ∧ Ext w w' ∧ NetAt w' w.heap.size (netP raw) q)) (kAt Y14 (ro1 11 []) []) (stz [(2,pt b0 0),(3,pt bq 0),(4,pt bp 0),(5,iv (kk:Int)),(6,iv (n:Int))]) wt := by
 have hnle := netN_le raw
 refine sgz 8 [.ld (.slice lv la.length lc)] (kOp Y14 (ro1 11 [0]) 6 []) [(2,pt b0 0),(3,pt bq 0),(4,pt bp 0),(6,iv (n:Int)),(131,iv (min (kk:Int) (la.length:Int))),(132,pt bp 2)] [cl wt bp 4 (.slice lv la.length lc)] (A1 (cell_of (hM.blk 2 rfl) rfl)) ?_
 refine os0 (.store 3 (pt bp 2) (iv (min (kk:Int) (la.length:Int)))) none (kOp Y14 (ro1 11 [0]) 7 []) (runs_st (hM.blk 2 rfl) (by kernel_rfl)) ?_
 rintro _ w_227 hC330
 have hE331 := hM.toExt hE hC330 2 rfl
 have hM332 := hM.set 2 rfl hC330
 refine sg0 5 (kOp Y14 (ro1 12 [0,0]) 1 []) [(2,pt b0 0),(3,pt bq 0),(4,pt bp 0),(6,iv (n:Int)),(133,pt bq 0)] ?_
 refine os0 _ (some 134) (kOp Y14 (ro1 12 [0,0]) 2 []) (runs_call E30 (next_any w bq ll ls le 2 w_227 hE331 hc hs (by omega) hk (hM332.blk 3 rfl))) ?_
 rintro _ w_228 ⟨rfl,sa_229,sc_230,hC_231,hcs_232,hks_233⟩
 have hE333 := hM332.toExt hE331 hC_231 3 rfl
 have hM334 := hM332.set 3 rfl hC_231
 have hv_234 := nextV_lt ll (n := 2) (by omega)
 refine sg0 3 (kAt Y14 (ro1 12 [0,1,0]) []) [(2,pt b0 0),(3,pt bq 0),(4,pt bp 0),(6,iv (n:Int)),(14,iv ((nextV ll 2:Nat):Int))] ?_
 obtain ⟨dv,hdv⟩ : ∃ k,nextV ll 2 = k := ⟨_,rfl⟩
 have hdvl : dv < 2 := by rw [← hdv]; exact nextV_lt _ (by omega)
 have hM335 := hM334.nilRow (e := 54) (size := 2)
 have hM_235 := hM335.noTail
 have hM_236 : Hold w_228 w.heap.size (([.row (.slice none 0 0) 54 2 0 ([]),.row (.slice lv la.length lc) 61 3 la.length (la.flatMap linkC),.row (.slice av acc.length cv) 52 2 acc.length (acc.flatMap nodeC),.blk bp ([iv pr,iv (cp:Int),iv (min (kk:Int) (la.length:Int)),.slice av acc.length cv,.slice lv la.length lc,.slice none 0 0,.slice none 0 0]) 29,.blk bq ([.slice sa_229 ((ll.drop 1).length) sc_230]) 64,.blk b0 ([iv 0,iv 0,iv 0,.slice none 0 0,.slice none 0 0,.slice none 0 0,.slice none 0 0]) 29] ++ origR ([] : List DA))) := hM_235
 obtain ⟨R,hR⟩ : ∃ R,netDests (dv + 1) 0 n (ll.drop 1) = R := ⟨_,rfl⟩
 have hCeq : netC raw = R := by unfold netC; rw [hB,hn]; show netDests (nextV ll 2 + 1) 0 n (ll.drop 1) = R; rw [hdv]; exact hR
 refine stEq (st' := (stz [(2,pt b0 0),(3,pt bq 0),(4,pt bp 0),(6,iv (n:Int)),(14,iv ((dv:Int) - (([] : List DA).length : Nat)))])) (by rw [show (((nextV ll 2:Nat):Int) : Int) = ((dv:Int) - (([] : List DA).length : Nat)) from by rw [hdv]; exact (Int.sub_zero _).symm]) ?_
 refine loopR (netL3 w b0 bq bp n kk pr cp acc av cv la lv lc dv R) (k' := (kEnd Y14 (ro1 12 [0,1,0]) [])) (body := (cAt Y14 (ro1 12 [0,1,0,0]))) (by kernel_rfl) ([],ll.drop 1,sa_229,sc_230,none,0) [2,3,4,6,14] (by kernel_rfl) (⟨hE333,hM_236,hcs_232,hs.drop 1,hks_233,Nat.zero_le _,hR⟩) ?_
 rintro ⟨ds,L,s,e,xv,xc⟩ wi ⟨hE1,hM1,hc1,hs1,hk1,hle,hacc⟩
 simp only at hE1 hM1 hc1 hs1 hk1 hle hacc
 show G _ _ _ _ (kAt (cAt Y14 (ro1 12 [0,1,0,0])) [] (.inv (LI 227 [] (netL3 w b0 bq bp n kk pr cp acc av cv la lv lc dv R) (ds,L,s,e,xv,xc)) :: (kEnd Y14 (ro1 12 [0,1,0]) []))) (stz [(2,pt b0 0),(3,pt bq 0),(4,pt bp 0),(6,iv (n:Int)),(14,iv ((dv:Int) - (ds.length:Int)))]) wi
 refine sg0 6 (kAt (cAt Y14 (ro1 12 [0,1,0,0])) [0,1] (.inv (LI 227 [] (netL3 w b0 bq bp n kk pr cp acc av cv la lv lc dv R) (ds,L,s,e,xv,xc)) :: (kEnd Y14 (ro1 12 [0,1,0]) []))) [(2,pt b0 0),(3,pt bq 0),(4,pt bp 0),(6,iv (n:Int)),(14,iv ((dv:Int) - (ds.length:Int))),(136,.bool (decide ((0 : Int) ≤ ((dv:Int) - (ds.length:Int)))))] ?_
 refine brd ((0 : Int) ≤ ((dv:Int) - (ds.length:Int))) (fun h1 => ?_) (fun h1 => ?_)
 ·generalize hKT : ((.inv (LI 227 [] (netL3 w b0 bq bp n kk pr cp acc av cv la lv lc dv R) (ds,L,s,e,xv,xc)) :: (kEnd Y14 (ro1 12 [0,1,0]) [])) : List Fr) = KT
  have hlt : ds.length < dv + 1 := by omega
  have hfx : dv + 1 - ds.length = (dv + 1 - (ds.length + 1)) + 1 := by omega
  refine sg0 5 (kOp (cAt Y14 (ro1 12 [0,1,0,0])) [1,0,0,0] 0 KT) [(2,pt b0 0),(3,pt bq 0),(4,pt bp 0),(6,iv (n:Int)),(14,iv ((dv:Int) - (ds.length:Int)))] ?_
  refine os0 (.bslice 37 2 [(0,sv ([120])),(1,sv ([121]))]) (some 139) (kOp (cAt Y14 (ro1 12 [0,1,0,0])) [1,0,0,0] 1 KT) (runs_bslice (cs := [sv ([120]),sv ([121])]) (e := 9) (by kernel_rfl)) ?_
  rintro _ w_237 ⟨bn,rfl,hN336⟩
  have hE337 := hE1.trans hN336.ext
  have hM338 := hM1.new hN336
  refine sgz 6 [.ld (.slice xv ds.length xc),.ld (sv (destNames.getD ds.length []))] (kOp (cAt Y14 (ro1 12 [0,1,0,0])) [1,0,0,0] 7 KT) [(2,pt b0 0),(3,pt bq 0),(4,pt bp 0),(6,iv (n:Int)),(14,iv ((dv:Int) - (ds.length:Int))),(145,.agg #[sv (destNames.getD ds.length []),.slice none 0 0])] [cl w_237 bp 5 (.slice xv ds.length xc),(0 ≤ (ds.length:Int) ∧ (ds.length:Int) < (2 : Int)),((some ⟨bn,0,none⟩) : Option Addr) = some ⟨bn,0,none⟩,cl w_237 bn (0 + ds.length * 1) (sv (destNames.getD ds.length []))] (AC (cell_of (hM338.blk 4 rfl) rfl) (AC (by omega) (AC rfl (A1 (destNames_at (hM338.blk 0 rfl) (by omega)))))) ?_
  refine os0 (.alloc 54) (some 15) (kOp (cAt Y14 (ro1 12 [0,1,0,0])) [1,0,0,0] 8 KT) (runs_alloc (z := .agg #[sv ([]),.slice none 0 0]) (by kernel_rfl)) ?_
  rintro _ w_238 ⟨bd,rfl,hN339⟩
  have hE340 := hE337.trans hN339.ext
  have hM341 := hM338.new hN339
  refine os0 (.store 54 (pt bd 0) (.agg #[sv (destNames.getD ds.length []),.slice none 0 0])) none (kOp (cAt Y14 (ro1 12 [0,1,0,0])) [1,0,0,0] 9 KT) (runs_st (hM341.blk 0 rfl) (by kernel_rfl)) ?_
  rintro _ w_239 hC342
  have hE343 := hM341.toExt hE340 hC342 0 rfl
  have hM344 := hM341.set 0 rfl hC342
  refine sg0 5 (kOp (cAt Y14 (ro1 12 [0,1,0,0])) [1,0,0,1,0] 2 KT) [(2,pt b0 0),(3,pt bq 0),(4,pt bp 0),(6,iv (n:Int)),(14,iv ((dv:Int) - (ds.length:Int))),(15,pt bd 0),(146,pt bq 0),(147,iv (n:Int))] ?_
  refine os0 _ (some 148) (kOp (cAt Y14 (ro1 12 [0,1,0,0])) [1,0,0,1,0] 3 KT) (runs_call E30 (next_any w bq L s e n w_239 hE343 hc1 hs1 (by omega) hk1 (hM344.blk 6 rfl))) ?_
  rintro _ w_240 ⟨rfl,sa_241,sc_242,hC_243,hcs_244,hks_245⟩
  have hE345 := hM344.toExt hE343 hC_243 6 rfl
  have hM346 := hM344.set 6 rfl hC_243
  have hv_246 := nextV_lt L (n := n) (by omega)
  refine sgz 7 [.ld (.slice none 0 0)] (kOp (cAt Y14 (ro1 12 [0,1,0,0])) [1,0,0,1,1,0] 3 KT) [(2,pt b0 0),(3,pt bq 0),(4,pt bp 0),(6,iv (n:Int)),(14,iv ((dv:Int) - (ds.length:Int))),(15,pt bd 0),(16,iv ((nextV L n:Nat):Int)),(150,.slice none 0 0),(151,iv ((nextV L n:Nat):Int))] [cl w_240 bd 1 (.slice none 0 0)] (A1 (cell_of (hM346.blk 0 rfl) rfl)) ?_
  obtain ⟨o,ho⟩ : ∃ o,nextV L n = o := ⟨_,rfl⟩
  have hol : o < n := by rw [← ho]; exact nextV_lt _ (by omega)
  rw [ho]
  refine os0 (.bslice 22 1 [(0,iv (o:Int))]) (some 152) (kOp (cAt Y14 (ro1 12 [0,1,0,0])) [1,0,0,1,1,0] 4 KT) (runs_bslice (cs := [iv (o:Int)]) (e := 3) (by kernel_rfl)) ?_
  rintro _ w_247 ⟨be,rfl,hN347⟩
  have hE348 := hE345.trans hN347.ext
  have hM349 := hM346.new hN347
  have hM350 := hM349.nilRow (e := 3) (size := 1)
  refine os0 (.builtin .append #[22,22] 22 #[false,false] [.slice none 0 0,.slice (some ⟨be,0,none⟩) 1 1]) (some 153) (kOp (cAt Y14 (ro1 12 [0,1,0,0])) [1,0,0,1,1,0] 5 KT) (runs_appH (e := 3) (size := 1) (bytes := 8) (by kernel_rfl) (hM350.row 0 rfl) (m := 1) (news := [iv (o:Int)]) (hM350.blk 1 rfl) rfl (by simp [Value.oneCell']) (by omega) (by omega) hM350.base) ?_
  rintro vs351 w_248 ⟨hr352,hg353,ho354⟩
  have hr355 : w_248.ownsRow w.heap.size 3 1 vs351 ([(o:Int)].length) ([(o:Int)].flatMap intCells) := by simpa [intCells] using hr352
  have hE356 := hM350.toExtApp hE348 0 rfl hg353
  have hM357 := hM350.app 0 rfl hr355 hg353 ho354
  obtain ⟨ov,oc,hvsvs351⟩ := row_slice (hM357.row 0 rfl)
  subst hvsvs351
  refine sg0 1 (kOp (cAt Y14 (ro1 12 [0,1,0,0])) [1,0,0,1,1,0] 6 KT) [(2,pt b0 0),(3,pt bq 0),(4,pt bp 0),(6,iv (n:Int)),(14,iv ((dv:Int) - (ds.length:Int))),(15,pt bd 0),(16,iv (o:Int)),(153,.slice ov ([(o:Int)].length) oc),(154,pt bd 1)] ?_
  refine os0 (.store 22 (pt bd 1) (.slice ov ([(o:Int)].length) oc)) none (kOp (cAt Y14 (ro1 12 [0,1,0,0])) [1,0,0,1,1,0] 7 KT) (runs_st (hM357.blk 2 rfl) (by kernel_rfl)) ?_
  rintro _ w_249 hC358
  have hE359 := hM357.toExt hE356 hC358 2 rfl
  have hM360 := hM357.set 2 rfl hC358
  refine sg0 5 (kOp (cAt Y14 (ro1 12 [0,1,0,0])) [1,0,0,1,1,1,0,0] 1 KT) [(2,pt b0 0),(3,pt bq 0),(4,pt bp 0),(6,iv (n:Int)),(14,iv ((dv:Int) - (ds.length:Int))),(15,pt bd 0),(16,iv (o:Int)),(155,pt bq 0)] ?_
  refine os0 _ (some 156) (kOp (cAt Y14 (ro1 12 [0,1,0,0])) [1,0,0,1,1,1,0,0] 2 KT) (runs_call E30 (next_any w bq (L.drop 1) sa_241 sc_242 3 w_249 hE359 hcs_244 (hs1.drop 1) (by omega) hks_245 (hM360.blk 8 rfl))) ?_
  rintro _ w_250 ⟨rfl,sa_251,sc_252,hC_253,hcs_254,hks_255⟩
  have hE361 := hM360.toExt hE359 hC_253 8 rfl
  have hM362 := hM360.set 8 rfl hC_253
  have hv_256 := nextV_lt (L.drop 1) (n := 3) (by omega)
  refine sgz 8 [.sym,.sym,.sym,.sym] (kAt (cAt Y14 (ro1 12 [0,1,0,0])) [1,0,0,1,1,1,0,1] KT) [(2,pt b0 0),(3,pt bq 0),(4,pt bp 0),(6,iv (n:Int)),(14,iv ((dv:Int) - (ds.length:Int))),(15,pt bd 0),(16,iv (o:Int)),(163,.bool ((decide (((nextV (L.drop 1) 3:Nat):Int) = (0 : Int))) && (decide (((o + 1:Nat):Int) < (n:Int)))))] ((fun (z1 : Bool) => ([z1 = true → z1 = true,z1 = true → (-9223372036854775808 ≤ ((o + 1:Nat):Int) ∧ ((o + 1:Nat):Int) ≤ 9223372036854775807),z1 = true → z1 = true,z1 = true → z1 = true,z1 = true → z1 = true] : List Prop)) (decide (((nextV (L.drop 1) 3:Nat):Int) = (0 : Int)))) (AC (fun h => h) (AC (by intro h; (try simp only [decide_eq_true_eq] at h); first | done | omega) (AC (fun h => h) (AC (fun h => h) (A1 (fun h => h)))))) ?_
  refine brk _ ((((nextV (L.drop 1) 3:Nat):Int) = (0 : Int)) ∧ (((o + 1:Nat):Int) < (n:Int))) ((iffAnd iffDec iffDec)) (fun h2 => ?_) (fun h2 => ?_)
  ·have h3 : nextV (L.drop 1) 3 = 0 ∧ nextV L n + 1 < n := ⟨by omega,by omega⟩
   obtain ⟨o2,ho2⟩ : ∃ k,o + 1 + nextV ((L.drop 1).drop 1) (n - o - 1) = k := ⟨_,rfl⟩
   refine dBegin (k' := (kAt (cAt Y14 (ro1 12 [0,1,0,0])) [1,0,0,1,1,1,1] KT)) (id := 40) (m := 15) (ops := opsAt (cAt (cAt Y14 (ro1 12 [0,1,0,0])) [1,0,0,1,1,1,0,1,0])) (fun _ _ => True) (by kernel_rfl) (PQ.body _ _ _) (by kernel_rfl) (by kernel_rfl) ?_
   intro w377 hx378
   have hE379 := hE361.trans hx378
   have hM380 := hM362.ext hx378
   refine dtz [0,2,3,4,5,6,7,8] [] 7 (lb 15 509) [(2,pt b0 0),(3,pt bq 0),(4,pt bp 0),(6,iv (n:Int)),(14,iv ((dv:Int) - (ds.length:Int))),(15,pt bd 0),(164,pt bd 1),(167,iv ((o + 1:Nat):Int)),(168,pt bq 0),(172,iv (((n:Int) - (o:Int)) - (1 : Int)))] (fun w' => [I64 ((o + 1:Nat):Int),I64 ((n:Int) - (o:Int)),I64 (((n:Int) - (o:Int)) - (1 : Int))]) (fun w' hS => (AC (i64 (by omega)) (AC (i64 (by omega)) (A1 (i64 (by omega)))))) (trivial) ?_
   refine dAll 1 [9] (by kernel_rfl) ?_
   refine ⟨?_,?_⟩
   ·refine dos [] (.load 22 (pt bd 1)) (some 165) [] (lb 15 511) trivial (runs_load (v := .slice ov ([(o:Int)].length) oc) (ps := [cl w377 bd 1 (.slice ov ([(o:Int)].length) oc)]) (by kernel_rfl) (A1 (cell_of (hM380.blk 2 rfl) rfl))) ?_
    rintro _ _ ⟨rfl,rfl⟩
    refine ⟨trivial,?_⟩
    refine dAll 9 [] (by kernel_rfl) ?_
    refine dos [] (.call 30 [pt bq 0,iv (((n:Int) - (o:Int)) - (1 : Int))]) (some 173) [] (lb 15 1023) trivial (runs_call E30 (by have h := next_any w bq ((L.drop 1).drop 1) sa_251 sc_252 (n - o - 1) w377 hE379 hcs_254 ((hs1.drop 1).drop 1) (by omega) hks_255 (hM380.blk 8 rfl); rw [show (((n - o - 1 : Nat)) : Int) = (n:Int) - (o:Int) - 1 by omega] at h; exact h)) ?_
    rintro _ w_261 ⟨rfl,sa_262,sc_263,hC_264,hcs_265,hks_266⟩
    have hE381 := hM380.toExt hE379 hC_264 8 rfl
    have hM382 := hM380.set 8 rfl hC_264
    have hv_267 := nextV_lt ((L.drop 1).drop 1) (n := n - o - 1) (by omega)
    refine ⟨trivial,?_⟩
    refine dtz [10] [] 4 (lb 15 2047) [(2,pt b0 0),(3,pt bq 0),(4,pt bp 0),(6,iv (n:Int)),(14,iv ((dv:Int) - (ds.length:Int))),(15,pt bd 0),(165,.slice ov ([(o:Int)].length) oc),(174,iv ((o + 1 + (nextV ((L.drop 1).drop 1) (n - o - 1)):Nat):Int))] (fun w' => [I64 ((o + 1 + (nextV ((L.drop 1).drop 1) (n - o - 1)):Nat):Int)]) (fun w' hS => (A1 (i64 (by omega)))) (trivial) ?_
    refine dAll 11 [] (by kernel_rfl) ?_
    refine dos [] (.bslice 22 1 [(0,iv ((o + 1 + (nextV ((L.drop 1).drop 1) (n - o - 1)):Nat):Int))]) (some 175) [] (lb 15 4095) trivial (runs_bslice (cs := [iv ((o + 1 + (nextV ((L.drop 1).drop 1) (n - o - 1)):Nat):Int)]) (e := 3) (by kernel_rfl)) ?_
    rintro _ w_268 ⟨bg,rfl,hN383⟩
    have hE384 := hE381.trans hN383.ext
    have hM385 := hM382.new hN383
    refine ⟨trivial,?_⟩
    refine dAll 12 [] (by kernel_rfl) ?_
    refine dos [] (.builtin .append #[22,22] 22 #[false,false] [.slice ov ([(o:Int)].length) oc,.slice (some ⟨bg,0,none⟩) 1 1]) (some 176) [] (lb 15 8191) trivial (runs_appH (e := 3) (size := 1) (bytes := 8) (by kernel_rfl) (hM385.row 1 rfl) (m := 1) (news := [iv ((o + 1 + (nextV ((L.drop 1).drop 1) (n - o - 1)):Nat):Int)]) (hM385.blk 0 rfl) rfl (by simp [Value.oneCell']) (Nat.le_of_ble_eq_true rfl) (Nat.le_of_ble_eq_true rfl) hM385.base) ?_
    rintro vs386 w_269 ⟨hr387,hg388,ho389⟩
    have hr390 : w_269.ownsRow w.heap.size 3 1 vs386 ([(o:Int),(o2:Int)].length) ([(o:Int),(o2:Int)].flatMap intCells) := by have h := hr387; rw [ho2] at h; simpa [intCells] using h
    have hE391 := hM385.toExtApp hE384 1 rfl hg388
    have hM392 := hM385.app 1 rfl hr390 hg388 ho389
    obtain ⟨ov2,oc2,hvsvs386⟩ := row_slice (hM392.row 1 rfl)
    subst hvsvs386
    refine ⟨trivial,?_⟩
    refine dtz [13] [] 1 (lb 15 16383) [(2,pt b0 0),(3,pt bq 0),(4,pt bp 0),(6,iv (n:Int)),(14,iv ((dv:Int) - (ds.length:Int))),(15,pt bd 0),(176,.slice ov2 ([(o:Int),(o2:Int)].length) oc2),(177,pt bd 1)] (fun w' => []) (fun w' hS => trivial) (trivial) ?_
    refine dAll 14 [] (by kernel_rfl) ?_
    refine dos [] (.store 22 (pt bd 1) (.slice ov2 ([(o:Int),(o2:Int)].length) oc2)) none [] (lb 15 32767) trivial (runs_st (hM392.blk 3 rfl) (by kernel_rfl)) ?_
    rintro _ w_270 hC393
    have hE394 := hM392.toExt hE391 hC393 3 rfl
    have hM395 := hM392.set 3 rfl hC393
    refine ⟨trivial,?_⟩
    refine dDone (by kernel_rfl) ?_
    refine sgz 4 [.ld (.slice xv ds.length xc),.ld (.agg #[sv (destNames.getD ds.length []),.slice ov2 ([(o:Int),(o2:Int)].length) oc2])] (kOp (cAt Y14 (ro1 12 [0,1,0,0])) [1,0,0,1,1,1,1] 3 KT) [(2,pt b0 0),(3,pt bq 0),(4,pt bp 0),(6,iv (n:Int)),(14,iv ((dv:Int) - (ds.length:Int))),(179,.slice xv ds.length xc),(180,.agg #[sv (destNames.getD ds.length []),.slice ov2 ([(o:Int),(o2:Int)].length) oc2])] [cl w_270 bp 5 (.slice xv ds.length xc),cl w_270 bd 0 (sv (destNames.getD ds.length [])),cl w_270 bd 1 (.slice ov2 ([(o:Int),(o2:Int)].length) oc2)] (AC (cell_of (hM395.blk 8 rfl) rfl) (AC (cell_of (hM395.blk 3 rfl) rfl) (A1 (cell_of (hM395.blk 3 rfl) rfl)))) ?_
    refine os0 (.bslice 26 1 [(0,.agg #[sv (destNames.getD ds.length []),.slice ov2 ([(o:Int),(o2:Int)].length) oc2])]) (some 181) (kOp (cAt Y14 (ro1 12 [0,1,0,0])) [1,0,0,1,1,1,1] 4 KT) (runs_bslice (cs := [sv (destNames.getD ds.length []),.slice ov2 ([(o:Int),(o2:Int)].length) oc2]) (e := 54) (by kernel_rfl)) ?_
    rintro _ w_271 ⟨bf,rfl,hN396⟩
    have hE397 := hE394.trans hN396.ext
    have hM398 := hM395.new hN396
    refine os0 (.builtin .append #[26,26] 26 #[false,false] [.slice xv ds.length xc,.slice (some ⟨bf,0,none⟩) 1 1]) (some 182) (kOp (cAt Y14 (ro1 12 [0,1,0,0])) [1,0,0,1,1,1,1] 5 KT) (runs_appH (e := 54) (size := 2) (bytes := 40) (by kernel_rfl) (hM398.row 6 rfl) (m := 1) (news := [sv (destNames.getD ds.length []),.slice ov2 ([(o:Int),(o2:Int)].length) oc2]) (hM398.blk 0 rfl) rfl (by simp [Value.oneCell']) (by omega) (by omega) hM398.base) ?_
    rintro vs399 w_272 ⟨hr400,hg401,ho402⟩
    have hr403 : w_272.ownsRow w.heap.size 54 2 vs399 ((ds ++ [(⟨⟨destNames.getD ds.length [],[(o:Int),(o2:Int)]⟩,ov2,oc2⟩ : DA)]).length) ((ds ++ [(⟨⟨destNames.getD ds.length [],[(o:Int),(o2:Int)]⟩,ov2,oc2⟩ : DA)]).flatMap destC) := by simpa [destC] using hr400
    have hE404 := hM398.toExtApp hE397 6 rfl hg401
    have hM405 := hM398.app 6 rfl hr403 hg401 ho402
    obtain ⟨xv2,xc2,hvsvs399⟩ := row_slice (hM405.row 6 rfl)
    subst hvsvs399
    refine sg0 1 (kOp (cAt Y14 (ro1 12 [0,1,0,0])) [1,0,0,1,1,1,1] 6 KT) [(2,pt b0 0),(3,pt bq 0),(4,pt bp 0),(6,iv (n:Int)),(14,iv ((dv:Int) - (ds.length:Int))),(182,.slice xv2 ((ds ++ [(⟨⟨destNames.getD ds.length [],[(o:Int),(o2:Int)]⟩,ov2,oc2⟩ : DA)]).length) xc2),(183,pt bp 5)] ?_
    refine os0 (.store 26 (pt bp 5) (.slice xv2 ((ds ++ [(⟨⟨destNames.getD ds.length [],[(o:Int),(o2:Int)]⟩,ov2,oc2⟩ : DA)]).length) xc2)) none (kOp (cAt Y14 (ro1 12 [0,1,0,0])) [1,0,0,1,1,1,1] 7 KT) (runs_st (hM405.blk 9 rfl) (by kernel_rfl)) ?_
    rintro _ w_273 hC406
    have hE407 := hM405.toExt hE404 hC406 9 rfl
    have hM408 := hM405.set 9 rfl hC406
    refine sgz 7 [] KT [(2,pt b0 0),(3,pt bq 0),(4,pt bp 0),(6,iv (n:Int)),(14,iv (((dv:Int) - (ds.length:Int)) - (1 : Int)))] [I64 (((dv:Int) - (ds.length:Int)) - (1 : Int))] (A1 (i64 (by omega))) ?_
    have hM409 := hM408.pickT 12 [2,6,7,8,9,10,11] (by kernel_rfl)
    have hM_274 : Hold w_273 w.heap.size (([.row (.slice xv2 ((ds ++ [(⟨⟨destNames.getD ds.length [],[(o:Int),(o2:Int)]⟩,ov2,oc2⟩ : DA)]).length) xc2) 54 2 ((ds ++ [(⟨⟨destNames.getD ds.length [],[(o:Int),(o2:Int)]⟩,ov2,oc2⟩ : DA)]).length) ((ds ++ [(⟨⟨destNames.getD ds.length [],[(o:Int),(o2:Int)]⟩,ov2,oc2⟩ : DA)]).flatMap destC),.row (.slice lv la.length lc) 61 3 la.length (la.flatMap linkC),.row (.slice av acc.length cv) 52 2 acc.length (acc.flatMap nodeC),.blk bp ([iv pr,iv (cp:Int),iv (min (kk:Int) (la.length:Int)),.slice av acc.length cv,.slice lv la.length lc,.slice xv2 ((ds ++ [(⟨⟨destNames.getD ds.length [],[(o:Int),(o2:Int)]⟩,ov2,oc2⟩ : DA)]).length) xc2,.slice none 0 0]) 29,.blk bq ([.slice sa_262 ((((L.drop 1).drop 1).drop 1).length) sc_263]) 64,.blk b0 ([iv 0,iv 0,iv 0,.slice none 0 0,.slice none 0 0,.slice none 0 0,.slice none 0 0]) 29] ++ origR (ds ++ [(⟨⟨destNames.getD ds.length [],[(o:Int),(o2:Int)]⟩,ov2,oc2⟩ : DA)]))) := by have h := hM409.toTail 0 rfl rfl; rw [show origR (ds ++ [(⟨⟨destNames.getD ds.length [],[(o:Int),(o2:Int)]⟩,ov2,oc2⟩ : DA)]) = origR ds ++ [.row (.slice ov2 ([(o:Int),(o2:Int)].length) oc2) 3 1 ([(o:Int),(o2:Int)].length) ([(o:Int),(o2:Int)].flatMap intCells)] from by simp [origR]]; exact h
    refine stEq (st' := (stz [(2,pt b0 0),(3,pt bq 0),(4,pt bp 0),(6,iv (n:Int)),(14,iv ((dv:Int) - (((ds ++ [(⟨⟨destNames.getD ds.length [],[(o:Int),(o2:Int)]⟩,ov2,oc2⟩ : DA)]).length:Nat):Int)))])) (by rw [show ((((dv:Int) - (ds.length:Int)) - (1 : Int)) : Int) = ((dv:Int) - (((ds ++ [(⟨⟨destNames.getD ds.length [],[(o:Int),(o2:Int)]⟩,ov2,oc2⟩ : DA)]).length:Nat):Int)) from by rw [List.length_append]; show _ = (dv:Int) - ((ds.length + 1:Nat):Int); omega]) ?_
    have hx : ((⟨⟨destNames.getD ds.length [],[(o:Int),(o2:Int)]⟩,ov2,oc2⟩ : DA).d :: (netDests (dv + 1 - (ds.length + 1)) (ds.length + 1) n (((L.drop 1).drop 1).drop 1)).1) = (netDests (dv + 1 - ds.length) ds.length n L).1 ∧ (netDests (dv + 1 - (ds.length + 1)) (ds.length + 1) n (((L.drop 1).drop 1).drop 1)).2 = (netDests (dv + 1 - ds.length) ds.length n L).2 := by rw [hfx,netDests_stepT h3,ho,ho2]; exact ⟨rfl,rfl⟩
    subst hKT
    exact again ((ds ++ [(⟨⟨destNames.getD ds.length [],[(o:Int),(o2:Int)]⟩,ov2,oc2⟩ : DA)]),((L.drop 1).drop 1).drop 1,sa_262,sc_263,xv2,xc2) [2,3,4,6,14] (by kernel_rfl) (⟨hE407,hM_274,hcs_265,((hs1.drop 1).drop 1).drop 1,hks_266,by show (ds ++ [(⟨⟨destNames.getD ds.length [],[(o:Int),(o2:Int)]⟩,ov2,oc2⟩ : DA)]).length ≤ dv + 1; rw [List.length_append]; exact hlt,by show ((ds ++ [(⟨⟨destNames.getD ds.length [],[(o:Int),(o2:Int)]⟩,ov2,oc2⟩ : DA)]).map (·.d) ++ (netDests (dv + 1 - (ds ++ [(⟨⟨destNames.getD ds.length [],[(o:Int),(o2:Int)]⟩,ov2,oc2⟩ : DA)]).length) (ds ++ [(⟨⟨destNames.getD ds.length [],[(o:Int),(o2:Int)]⟩,ov2,oc2⟩ : DA)]).length n _).1,(netDests (dv + 1 - (ds ++ [(⟨⟨destNames.getD ds.length [],[(o:Int),(o2:Int)]⟩,ov2,oc2⟩ : DA)]).length) (ds ++ [(⟨⟨destNames.getD ds.length [],[(o:Int),(o2:Int)]⟩,ov2,oc2⟩ : DA)]).length n _).2) = R; rw [List.length_append,List.map_append,List.append_assoc,show [(⟨⟨destNames.getD ds.length [],[(o:Int),(o2:Int)]⟩,ov2,oc2⟩ : DA)].length = 1 from rfl,List.map_singleton,List.singleton_append,hx.1,hx.2]; exact hacc⟩) (by show dv + 1 - (ds ++ [(⟨⟨destNames.getD ds.length [],[(o:Int),(o2:Int)]⟩,ov2,oc2⟩ : DA)]).length < dv + 1 - ds.length; rw [List.length_append]; show dv + 1 - (ds.length + 1) < _; omega)
   refine dos [] (.call 30 [pt bq 0,iv (((n:Int) - (o:Int)) - (1 : Int))]) (some 173) [] (lb 15 1021) trivial (runs_call E30 (by have h := next_any w bq ((L.drop 1).drop 1) sa_251 sc_252 (n - o - 1) w377 hE379 hcs_254 ((hs1.drop 1).drop 1) (by omega) hks_255 (hM380.blk 8 rfl); rw [show (((n - o - 1 : Nat)) : Int) = (n:Int) - (o:Int) - 1 by omega] at h; exact h)) ?_
   rintro _ w_275 ⟨rfl,sa_276,sc_277,hC_278,hcs_279,hks_280⟩
   have hE410 := hM380.toExt hE379 hC_278 8 rfl
   have hM411 := hM380.set 8 rfl hC_278
   have hv_281 := nextV_lt ((L.drop 1).drop 1) (n := n - o - 1) (by omega)
   refine ⟨trivial,?_⟩
   refine dtz [10] [] 5 (lb 15 2045) [(2,pt b0 0),(3,pt bq 0),(4,pt bp 0),(6,iv (n:Int)),(14,iv ((dv:Int) - (ds.length:Int))),(15,pt bd 0),(164,pt bd 1),(174,iv ((o + 1 + (nextV ((L.drop 1).drop 1) (n - o - 1)):Nat):Int))] (fun w' => [I64 ((o + 1 + (nextV ((L.drop 1).drop 1) (n - o - 1)):Nat):Int)]) (fun w' hS => (A1 (i64 (by omega)))) (trivial) ?_
   refine dAll 1 [11] (by kernel_rfl) ?_
   refine ⟨?_,?_⟩
   ·refine dos [] (.load 22 (pt bd 1)) (some 165) [] (lb 15 2047) trivial (runs_load (v := .slice ov ([(o:Int)].length) oc) (ps := [cl w_275 bd 1 (.slice ov ([(o:Int)].length) oc)]) (by kernel_rfl) (A1 (cell_of (hM411.blk 2 rfl) rfl))) ?_
    rintro _ _ ⟨rfl,rfl⟩
    refine ⟨trivial,?_⟩
    refine dAll 11 [] (by kernel_rfl) ?_
    refine dos [] (.bslice 22 1 [(0,iv ((o + 1 + (nextV ((L.drop 1).drop 1) (n - o - 1)):Nat):Int))]) (some 175) [] (lb 15 4095) trivial (runs_bslice (cs := [iv ((o + 1 + (nextV ((L.drop 1).drop 1) (n - o - 1)):Nat):Int)]) (e := 3) (by kernel_rfl)) ?_
    rintro _ w_282 ⟨bg,rfl,hN412⟩
    have hE413 := hE410.trans hN412.ext
    have hM414 := hM411.new hN412
    refine ⟨trivial,?_⟩
    refine dAll 12 [] (by kernel_rfl) ?_
    refine dos [] (.builtin .append #[22,22] 22 #[false,false] [.slice ov ([(o:Int)].length) oc,.slice (some ⟨bg,0,none⟩) 1 1]) (some 176) [] (lb 15 8191) trivial (runs_appH (e := 3) (size := 1) (bytes := 8) (by kernel_rfl) (hM414.row 1 rfl) (m := 1) (news := [iv ((o + 1 + (nextV ((L.drop 1).drop 1) (n - o - 1)):Nat):Int)]) (hM414.blk 0 rfl) rfl (by simp [Value.oneCell']) (Nat.le_of_ble_eq_true rfl) (Nat.le_of_ble_eq_true rfl) hM414.base) ?_
    rintro vs415 w_283 ⟨hr416,hg417,ho418⟩
    have hr419 : w_283.ownsRow w.heap.size 3 1 vs415 ([(o:Int),(o2:Int)].length) ([(o:Int),(o2:Int)].flatMap intCells) := by have h := hr416; rw [ho2] at h; simpa [intCells] using h
    have hE420 := hM414.toExtApp hE413 1 rfl hg417
    have hM421 := hM414.app 1 rfl hr419 hg417 ho418
    obtain ⟨ov2,oc2,hvsvs415⟩ := row_slice (hM421.row 1 rfl)
    subst hvsvs415
    refine ⟨trivial,?_⟩
    refine dtz [13] [] 1 (lb 15 16383) [(2,pt b0 0),(3,pt bq 0),(4,pt bp 0),(6,iv (n:Int)),(14,iv ((dv:Int) - (ds.length:Int))),(15,pt bd 0),(176,.slice ov2 ([(o:Int),(o2:Int)].length) oc2),(177,pt bd 1)] (fun w' => []) (fun w' hS => trivial) (trivial) ?_
    refine dAll 14 [] (by kernel_rfl) ?_
    refine dos [] (.store 22 (pt bd 1) (.slice ov2 ([(o:Int),(o2:Int)].length) oc2)) none [] (lb 15 32767) trivial (runs_st (hM421.blk 3 rfl) (by kernel_rfl)) ?_
    rintro _ w_284 hC422
    have hE423 := hM421.toExt hE420 hC422 3 rfl
    have hM424 := hM421.set 3 rfl hC422
    refine ⟨trivial,?_⟩
    refine dDone (by kernel_rfl) ?_
    refine sgz 4 [.ld (.slice xv ds.length xc),.ld (.agg #[sv (destNames.getD ds.length []),.slice ov2 ([(o:Int),(o2:Int)].length) oc2])] (kOp (cAt Y14 (ro1 12 [0,1,0,0])) [1,0,0,1,1,1,1] 3 KT) [(2,pt b0 0),(3,pt bq 0),(4,pt bp 0),(6,iv (n:Int)),(14,iv ((dv:Int) - (ds.length:Int))),(179,.slice xv ds.length xc),(180,.agg #[sv (destNames.getD ds.length []),.slice ov2 ([(o:Int),(o2:Int)].length) oc2])] [cl w_284 bp 5 (.slice xv ds.length xc),cl w_284 bd 0 (sv (destNames.getD ds.length [])),cl w_284 bd 1 (.slice ov2 ([(o:Int),(o2:Int)].length) oc2)] (AC (cell_of (hM424.blk 8 rfl) rfl) (AC (cell_of (hM424.blk 3 rfl) rfl) (A1 (cell_of (hM424.blk 3 rfl) rfl)))) ?_
    refine os0 (.bslice 26 1 [(0,.agg #[sv (destNames.getD ds.length []),.slice ov2 ([(o:Int),(o2:Int)].length) oc2])]) (some 181) (kOp (cAt Y14 (ro1 12 [0,1,0,0])) [1,0,0,1,1,1,1] 4 KT) (runs_bslice (cs := [sv (destNames.getD ds.length []),.slice ov2 ([(o:Int),(o2:Int)].length) oc2]) (e := 54) (by kernel_rfl)) ?_
    rintro _ w_285 ⟨bf,rfl,hN425⟩
    have hE426 := hE423.trans hN425.ext
    have hM427 := hM424.new hN425
    refine os0 (.builtin .append #[26,26] 26 #[false,false] [.slice xv ds.length xc,.slice (some ⟨bf,0,none⟩) 1 1]) (some 182) (kOp (cAt Y14 (ro1 12 [0,1,0,0])) [1,0,0,1,1,1,1] 5 KT) (runs_appH (e := 54) (size := 2) (bytes := 40) (by kernel_rfl) (hM427.row 6 rfl) (m := 1) (news := [sv (destNames.getD ds.length []),.slice ov2 ([(o:Int),(o2:Int)].length) oc2]) (hM427.blk 0 rfl) rfl (by simp [Value.oneCell']) (by omega) (by omega) hM427.base) ?_
    rintro vs428 w_286 ⟨hr429,hg430,ho431⟩
    have hr432 : w_286.ownsRow w.heap.size 54 2 vs428 ((ds ++ [(⟨⟨destNames.getD ds.length [],[(o:Int),(o2:Int)]⟩,ov2,oc2⟩ : DA)]).length) ((ds ++ [(⟨⟨destNames.getD ds.length [],[(o:Int),(o2:Int)]⟩,ov2,oc2⟩ : DA)]).flatMap destC) := by simpa [destC] using hr429
    have hE433 := hM427.toExtApp hE426 6 rfl hg430
    have hM434 := hM427.app 6 rfl hr432 hg430 ho431
    obtain ⟨xv2,xc2,hvsvs428⟩ := row_slice (hM434.row 6 rfl)
    subst hvsvs428
    refine sg0 1 (kOp (cAt Y14 (ro1 12 [0,1,0,0])) [1,0,0,1,1,1,1] 6 KT) [(2,pt b0 0),(3,pt bq 0),(4,pt bp 0),(6,iv (n:Int)),(14,iv ((dv:Int) - (ds.length:Int))),(182,.slice xv2 ((ds ++ [(⟨⟨destNames.getD ds.length [],[(o:Int),(o2:Int)]⟩,ov2,oc2⟩ : DA)]).length) xc2),(183,pt bp 5)] ?_
    refine os0 (.store 26 (pt bp 5) (.slice xv2 ((ds ++ [(⟨⟨destNames.getD ds.length [],[(o:Int),(o2:Int)]⟩,ov2,oc2⟩ : DA)]).length) xc2)) none (kOp (cAt Y14 (ro1 12 [0,1,0,0])) [1,0,0,1,1,1,1] 7 KT) (runs_st (hM434.blk 9 rfl) (by kernel_rfl)) ?_
    rintro _ w_287 hC435
    have hE436 := hM434.toExt hE433 hC435 9 rfl
    have hM437 := hM434.set 9 rfl hC435
    refine sgz 7 [] KT [(2,pt b0 0),(3,pt bq 0),(4,pt bp 0),(6,iv (n:Int)),(14,iv (((dv:Int) - (ds.length:Int)) - (1 : Int)))] [I64 (((dv:Int) - (ds.length:Int)) - (1 : Int))] (A1 (i64 (by omega))) ?_
    have hM438 := hM437.pickT 12 [2,6,7,8,9,10,11] (by kernel_rfl)
    have hM_288 : Hold w_287 w.heap.size (([.row (.slice xv2 ((ds ++ [(⟨⟨destNames.getD ds.length [],[(o:Int),(o2:Int)]⟩,ov2,oc2⟩ : DA)]).length) xc2) 54 2 ((ds ++ [(⟨⟨destNames.getD ds.length [],[(o:Int),(o2:Int)]⟩,ov2,oc2⟩ : DA)]).length) ((ds ++ [(⟨⟨destNames.getD ds.length [],[(o:Int),(o2:Int)]⟩,ov2,oc2⟩ : DA)]).flatMap destC),.row (.slice lv la.length lc) 61 3 la.length (la.flatMap linkC),.row (.slice av acc.length cv) 52 2 acc.length (acc.flatMap nodeC),.blk bp ([iv pr,iv (cp:Int),iv (min (kk:Int) (la.length:Int)),.slice av acc.length cv,.slice lv la.length lc,.slice xv2 ((ds ++ [(⟨⟨destNames.getD ds.length [],[(o:Int),(o2:Int)]⟩,ov2,oc2⟩ : DA)]).length) xc2,.slice none 0 0]) 29,.blk bq ([.slice sa_276 ((((L.drop 1).drop 1).drop 1).length) sc_277]) 64,.blk b0 ([iv 0,iv 0,iv 0,.slice none 0 0,.slice none 0 0,.slice none 0 0,.slice none 0 0]) 29] ++ origR (ds ++ [(⟨⟨destNames.getD ds.length [],[(o:Int),(o2:Int)]⟩,ov2,oc2⟩ : DA)]))) := by have h := hM438.toTail 0 rfl rfl; rw [show origR (ds ++ [(⟨⟨destNames.getD ds.length [],[(o:Int),(o2:Int)]⟩,ov2,oc2⟩ : DA)]) = origR ds ++ [.row (.slice ov2 ([(o:Int),(o2:Int)].length) oc2) 3 1 ([(o:Int),(o2:Int)].length) ([(o:Int),(o2:Int)].flatMap intCells)] from by simp [origR]]; exact h
    refine stEq (st' := (stz [(2,pt b0 0),(3,pt bq 0),(4,pt bp 0),(6,iv (n:Int)),(14,iv ((dv:Int) - (((ds ++ [(⟨⟨destNames.getD ds.length [],[(o:Int),(o2:Int)]⟩,ov2,oc2⟩ : DA)]).length:Nat):Int)))])) (by rw [show ((((dv:Int) - (ds.length:Int)) - (1 : Int)) : Int) = ((dv:Int) - (((ds ++ [(⟨⟨destNames.getD ds.length [],[(o:Int),(o2:Int)]⟩,ov2,oc2⟩ : DA)]).length:Nat):Int)) from by rw [List.length_append]; show _ = (dv:Int) - ((ds.length + 1:Nat):Int); omega]) ?_
    have hx : ((⟨⟨destNames.getD ds.length [],[(o:Int),(o2:Int)]⟩,ov2,oc2⟩ : DA).d :: (netDests (dv + 1 - (ds.length + 1)) (ds.length + 1) n (((L.drop 1).drop 1).drop 1)).1) = (netDests (dv + 1 - ds.length) ds.length n L).1 ∧ (netDests (dv + 1 - (ds.length + 1)) (ds.length + 1) n (((L.drop 1).drop 1).drop 1)).2 = (netDests (dv + 1 - ds.length) ds.length n L).2 := by rw [hfx,netDests_stepT h3,ho,ho2]; exact ⟨rfl,rfl⟩
    subst hKT
    exact again ((ds ++ [(⟨⟨destNames.getD ds.length [],[(o:Int),(o2:Int)]⟩,ov2,oc2⟩ : DA)]),((L.drop 1).drop 1).drop 1,sa_276,sc_277,xv2,xc2) [2,3,4,6,14] (by kernel_rfl) (⟨hE436,hM_288,hcs_279,((hs1.drop 1).drop 1).drop 1,hks_280,by show (ds ++ [(⟨⟨destNames.getD ds.length [],[(o:Int),(o2:Int)]⟩,ov2,oc2⟩ : DA)]).length ≤ dv + 1; rw [List.length_append]; exact hlt,by show ((ds ++ [(⟨⟨destNames.getD ds.length [],[(o:Int),(o2:Int)]⟩,ov2,oc2⟩ : DA)]).map (·.d) ++ (netDests (dv + 1 - (ds ++ [(⟨⟨destNames.getD ds.length [],[(o:Int),(o2:Int)]⟩,ov2,oc2⟩ : DA)]).length) (ds ++ [(⟨⟨destNames.getD ds.length [],[(o:Int),(o2:Int)]⟩,ov2,oc2⟩ : DA)]).length n _).1,(netDests (dv + 1 - (ds ++ [(⟨⟨destNames.getD ds.length [],[(o:Int),(o2:Int)]⟩,ov2,oc2⟩ : DA)]).length) (ds ++ [(⟨⟨destNames.getD ds.length [],[(o:Int),(o2:Int)]⟩,ov2,oc2⟩ : DA)]).length n _).2) = R; rw [List.length_append,List.map_append,List.append_assoc,show [(⟨⟨destNames.getD ds.length [],[(o:Int),(o2:Int)]⟩,ov2,oc2⟩ : DA)].length = 1 from rfl,List.map_singleton,List.singleton_append,hx.1,hx.2]; exact hacc⟩) (by show dv + 1 - (ds ++ [(⟨⟨destNames.getD ds.length [],[(o:Int),(o2:Int)]⟩,ov2,oc2⟩ : DA)]).length < dv + 1 - ds.length; rw [List.length_append]; show dv + 1 - (ds.length + 1) < _; omega)
   refine dos [] (.bslice 22 1 [(0,iv ((o + 1 + (nextV ((L.drop 1).drop 1) (n - o - 1)):Nat):Int))]) (some 175) [] (lb 15 4093) trivial (runs_bslice (cs := [iv ((o + 1 + (nextV ((L.drop 1).drop 1) (n - o - 1)):Nat):Int)]) (e := 3) (by kernel_rfl)) ?_
   rintro _ w_289 ⟨bg,rfl,hN439⟩
   have hE440 := hE410.trans hN439.ext
   have hM441 := hM411.new hN439
   refine ⟨trivial,?_⟩
   refine dAll 1 [] (by kernel_rfl) ?_
   refine dos [] (.load 22 (pt bd 1)) (some 165) [] (lb 15 4095) trivial (runs_load (v := .slice ov ([(o:Int)].length) oc) (ps := [cl w_289 bd 1 (.slice ov ([(o:Int)].length) oc)]) (by kernel_rfl) (A1 (cell_of (hM441.blk 3 rfl) rfl))) ?_
   rintro _ _ ⟨rfl,rfl⟩
   refine ⟨trivial,?_⟩
   refine dAll 12 [] (by kernel_rfl) ?_
   refine dos [] (.builtin .append #[22,22] 22 #[false,false] [.slice ov ([(o:Int)].length) oc,.slice (some ⟨bg,0,none⟩) 1 1]) (some 176) [] (lb 15 8191) trivial (runs_appH (e := 3) (size := 1) (bytes := 8) (by kernel_rfl) (hM441.row 1 rfl) (m := 1) (news := [iv ((o + 1 + (nextV ((L.drop 1).drop 1) (n - o - 1)):Nat):Int)]) (hM441.blk 0 rfl) rfl (by simp [Value.oneCell']) (Nat.le_of_ble_eq_true rfl) (Nat.le_of_ble_eq_true rfl) hM441.base) ?_
   rintro vs442 w_290 ⟨hr443,hg444,ho445⟩
   have hr446 : w_290.ownsRow w.heap.size 3 1 vs442 ([(o:Int),(o2:Int)].length) ([(o:Int),(o2:Int)].flatMap intCells) := by have h := hr443; rw [ho2] at h; simpa [intCells] using h
   have hE447 := hM441.toExtApp hE440 1 rfl hg444
   have hM448 := hM441.app 1 rfl hr446 hg444 ho445
   obtain ⟨ov2,oc2,hvsvs442⟩ := row_slice (hM448.row 1 rfl)
   subst hvsvs442
   refine ⟨trivial,?_⟩
   refine dtz [13] [] 1 (lb 15 16383) [(2,pt b0 0),(3,pt bq 0),(4,pt bp 0),(6,iv (n:Int)),(14,iv ((dv:Int) - (ds.length:Int))),(15,pt bd 0),(176,.slice ov2 ([(o:Int),(o2:Int)].length) oc2),(177,pt bd 1)] (fun w' => []) (fun w' hS => trivial) (trivial) ?_
   refine dAll 14 [] (by kernel_rfl) ?_
   refine dos [] (.store 22 (pt bd 1) (.slice ov2 ([(o:Int),(o2:Int)].length) oc2)) none [] (lb 15 32767) trivial (runs_st (hM448.blk 3 rfl) (by kernel_rfl)) ?_
   rintro _ w_291 hC449
   have hE450 := hM448.toExt hE447 hC449 3 rfl
   have hM451 := hM448.set 3 rfl hC449
   refine ⟨trivial,?_⟩
   refine dDone (by kernel_rfl) ?_
   refine sgz 4 [.ld (.slice xv ds.length xc),.ld (.agg #[sv (destNames.getD ds.length []),.slice ov2 ([(o:Int),(o2:Int)].length) oc2])] (kOp (cAt Y14 (ro1 12 [0,1,0,0])) [1,0,0,1,1,1,1] 3 KT) [(2,pt b0 0),(3,pt bq 0),(4,pt bp 0),(6,iv (n:Int)),(14,iv ((dv:Int) - (ds.length:Int))),(179,.slice xv ds.length xc),(180,.agg #[sv (destNames.getD ds.length []),.slice ov2 ([(o:Int),(o2:Int)].length) oc2])] [cl w_291 bp 5 (.slice xv ds.length xc),cl w_291 bd 0 (sv (destNames.getD ds.length [])),cl w_291 bd 1 (.slice ov2 ([(o:Int),(o2:Int)].length) oc2)] (AC (cell_of (hM451.blk 8 rfl) rfl) (AC (cell_of (hM451.blk 3 rfl) rfl) (A1 (cell_of (hM451.blk 3 rfl) rfl)))) ?_
   refine os0 (.bslice 26 1 [(0,.agg #[sv (destNames.getD ds.length []),.slice ov2 ([(o:Int),(o2:Int)].length) oc2])]) (some 181) (kOp (cAt Y14 (ro1 12 [0,1,0,0])) [1,0,0,1,1,1,1] 4 KT) (runs_bslice (cs := [sv (destNames.getD ds.length []),.slice ov2 ([(o:Int),(o2:Int)].length) oc2]) (e := 54) (by kernel_rfl)) ?_
   rintro _ w_292 ⟨bf,rfl,hN452⟩
   have hE453 := hE450.trans hN452.ext
   have hM454 := hM451.new hN452
   refine os0 (.builtin .append #[26,26] 26 #[false,false] [.slice xv ds.length xc,.slice (some ⟨bf,0,none⟩) 1 1]) (some 182) (kOp (cAt Y14 (ro1 12 [0,1,0,0])) [1,0,0,1,1,1,1] 5 KT) (runs_appH (e := 54) (size := 2) (bytes := 40) (by kernel_rfl) (hM454.row 6 rfl) (m := 1) (news := [sv (destNames.getD ds.length []),.slice ov2 ([(o:Int),(o2:Int)].length) oc2]) (hM454.blk 0 rfl) rfl (by simp [Value.oneCell']) (by omega) (by omega) hM454.base) ?_
   rintro vs455 w_293 ⟨hr456,hg457,ho458⟩
   have hr459 : w_293.ownsRow w.heap.size 54 2 vs455 ((ds ++ [(⟨⟨destNames.getD ds.length [],[(o:Int),(o2:Int)]⟩,ov2,oc2⟩ : DA)]).length) ((ds ++ [(⟨⟨destNames.getD ds.length [],[(o:Int),(o2:Int)]⟩,ov2,oc2⟩ : DA)]).flatMap destC) := by simpa [destC] using hr456
   have hE460 := hM454.toExtApp hE453 6 rfl hg457
   have hM461 := hM454.app 6 rfl hr459 hg457 ho458
   obtain ⟨xv2,xc2,hvsvs455⟩ := row_slice (hM461.row 6 rfl)
   subst hvsvs455
   refine sg0 1 (kOp (cAt Y14 (ro1 12 [0,1,0,0])) [1,0,0,1,1,1,1] 6 KT) [(2,pt b0 0),(3,pt bq 0),(4,pt bp 0),(6,iv (n:Int)),(14,iv ((dv:Int) - (ds.length:Int))),(182,.slice xv2 ((ds ++ [(⟨⟨destNames.getD ds.length [],[(o:Int),(o2:Int)]⟩,ov2,oc2⟩ : DA)]).length) xc2),(183,pt bp 5)] ?_
   refine os0 (.store 26 (pt bp 5) (.slice xv2 ((ds ++ [(⟨⟨destNames.getD ds.length [],[(o:Int),(o2:Int)]⟩,ov2,oc2⟩ : DA)]).length) xc2)) none (kOp (cAt Y14 (ro1 12 [0,1,0,0])) [1,0,0,1,1,1,1] 7 KT) (runs_st (hM461.blk 9 rfl) (by kernel_rfl)) ?_
   rintro _ w_294 hC462
   have hE463 := hM461.toExt hE460 hC462 9 rfl
   have hM464 := hM461.set 9 rfl hC462
   refine sgz 7 [] KT [(2,pt b0 0),(3,pt bq 0),(4,pt bp 0),(6,iv (n:Int)),(14,iv (((dv:Int) - (ds.length:Int)) - (1 : Int)))] [I64 (((dv:Int) - (ds.length:Int)) - (1 : Int))] (A1 (i64 (by omega))) ?_
   have hM465 := hM464.pickT 12 [2,6,7,8,9,10,11] (by kernel_rfl)
   have hM_295 : Hold w_294 w.heap.size (([.row (.slice xv2 ((ds ++ [(⟨⟨destNames.getD ds.length [],[(o:Int),(o2:Int)]⟩,ov2,oc2⟩ : DA)]).length) xc2) 54 2 ((ds ++ [(⟨⟨destNames.getD ds.length [],[(o:Int),(o2:Int)]⟩,ov2,oc2⟩ : DA)]).length) ((ds ++ [(⟨⟨destNames.getD ds.length [],[(o:Int),(o2:Int)]⟩,ov2,oc2⟩ : DA)]).flatMap destC),.row (.slice lv la.length lc) 61 3 la.length (la.flatMap linkC),.row (.slice av acc.length cv) 52 2 acc.length (acc.flatMap nodeC),.blk bp ([iv pr,iv (cp:Int),iv (min (kk:Int) (la.length:Int)),.slice av acc.length cv,.slice lv la.length lc,.slice xv2 ((ds ++ [(⟨⟨destNames.getD ds.length [],[(o:Int),(o2:Int)]⟩,ov2,oc2⟩ : DA)]).length) xc2,.slice none 0 0]) 29,.blk bq ([.slice sa_276 ((((L.drop 1).drop 1).drop 1).length) sc_277]) 64,.blk b0 ([iv 0,iv 0,iv 0,.slice none 0 0,.slice none 0 0,.slice none 0 0,.slice none 0 0]) 29] ++ origR (ds ++ [(⟨⟨destNames.getD ds.length [],[(o:Int),(o2:Int)]⟩,ov2,oc2⟩ : DA)]))) := by have h := hM465.toTail 0 rfl rfl; rw [show origR (ds ++ [(⟨⟨destNames.getD ds.length [],[(o:Int),(o2:Int)]⟩,ov2,oc2⟩ : DA)]) = origR ds ++ [.row (.slice ov2 ([(o:Int),(o2:Int)].length) oc2) 3 1 ([(o:Int),(o2:Int)].length) ([(o:Int),(o2:Int)].flatMap intCells)] from by simp [origR]]; exact h
   refine stEq (st' := (stz [(2,pt b0 0),(3,pt bq 0),(4,pt bp 0),(6,iv (n:Int)),(14,iv ((dv:Int) - (((ds ++ [(⟨⟨destNames.getD ds.length [],[(o:Int),(o2:Int)]⟩,ov2,oc2⟩ : DA)]).length:Nat):Int)))])) (by rw [show ((((dv:Int) - (ds.length:Int)) - (1 : Int)) : Int) = ((dv:Int) - (((ds ++ [(⟨⟨destNames.getD ds.length [],[(o:Int),(o2:Int)]⟩,ov2,oc2⟩ : DA)]).length:Nat):Int)) from by rw [List.length_append]; show _ = (dv:Int) - ((ds.length + 1:Nat):Int); omega]) ?_
   have hx : ((⟨⟨destNames.getD ds.length [],[(o:Int),(o2:Int)]⟩,ov2,oc2⟩ : DA).d :: (netDests (dv + 1 - (ds.length + 1)) (ds.length + 1) n (((L.drop 1).drop 1).drop 1)).1) = (netDests (dv + 1 - ds.length) ds.length n L).1 ∧ (netDests (dv + 1 - (ds.length + 1)) (ds.length + 1) n (((L.drop 1).drop 1).drop 1)).2 = (netDests (dv + 1 - ds.length) ds.length n L).2 := by rw [hfx,netDests_stepT h3,ho,ho2]; exact ⟨rfl,rfl⟩
   subst hKT
   exact again ((ds ++ [(⟨⟨destNames.getD ds.length [],[(o:Int),(o2:Int)]⟩,ov2,oc2⟩ : DA)]),((L.drop 1).drop 1).drop 1,sa_276,sc_277,xv2,xc2) [2,3,4,6,14] (by kernel_rfl) (⟨hE463,hM_295,hcs_279,((hs1.drop 1).drop 1).drop 1,hks_280,by show (ds ++ [(⟨⟨destNames.getD ds.length [],[(o:Int),(o2:Int)]⟩,ov2,oc2⟩ : DA)]).length ≤ dv + 1; rw [List.length_append]; exact hlt,by show ((ds ++ [(⟨⟨destNames.getD ds.length [],[(o:Int),(o2:Int)]⟩,ov2,oc2⟩ : DA)]).map (·.d) ++ (netDests (dv + 1 - (ds ++ [(⟨⟨destNames.getD ds.length [],[(o:Int),(o2:Int)]⟩,ov2,oc2⟩ : DA)]).length) (ds ++ [(⟨⟨destNames.getD ds.length [],[(o:Int),(o2:Int)]⟩,ov2,oc2⟩ : DA)]).length n _).1,(netDests (dv + 1 - (ds ++ [(⟨⟨destNames.getD ds.length [],[(o:Int),(o2:Int)]⟩,ov2,oc2⟩ : DA)]).length) (ds ++ [(⟨⟨destNames.getD ds.length [],[(o:Int),(o2:Int)]⟩,ov2,oc2⟩ : DA)]).length n _).2) = R; rw [List.length_append,List.map_append,List.append_assoc,show [(⟨⟨destNames.getD ds.length [],[(o:Int),(o2:Int)]⟩,ov2,oc2⟩ : DA)].length = 1 from rfl,List.map_singleton,List.singleton_append,hx.1,hx.2]; exact hacc⟩) (by show dv + 1 - (ds ++ [(⟨⟨destNames.getD ds.length [],[(o:Int),(o2:Int)]⟩,ov2,oc2⟩ : DA)]).length < dv + 1 - ds.length; rw [List.length_append]; show dv + 1 - (ds.length + 1) < _; omega)
  have h3 : ¬ (nextV (L.drop 1) 3 = 0 ∧ nextV L n + 1 < n) := fun h => h2 ⟨by omega,by omega⟩
  refine sgz 5 [.ld (.slice xv ds.length xc),.ld (.agg #[sv (destNames.getD ds.length []),.slice ov ([(o:Int)].length) oc])] (kOp (cAt Y14 (ro1 12 [0,1,0,0])) [1,0,0,1,1,1,1] 3 KT) [(2,pt b0 0),(3,pt bq 0),(4,pt bp 0),(6,iv (n:Int)),(14,iv ((dv:Int) - (ds.length:Int))),(179,.slice xv ds.length xc),(180,.agg #[sv (destNames.getD ds.length []),.slice ov ([(o:Int)].length) oc])] [cl w_250 bp 5 (.slice xv ds.length xc),cl w_250 bd 0 (sv (destNames.getD ds.length [])),cl w_250 bd 1 (.slice ov ([(o:Int)].length) oc)] (AC (cell_of (hM362.blk 7 rfl) rfl) (AC (cell_of (hM362.blk 2 rfl) rfl) (A1 (cell_of (hM362.blk 2 rfl) rfl)))) ?_
  refine os0 (.bslice 26 1 [(0,.agg #[sv (destNames.getD ds.length []),.slice ov ([(o:Int)].length) oc])]) (some 181) (kOp (cAt Y14 (ro1 12 [0,1,0,0])) [1,0,0,1,1,1,1] 4 KT) (runs_bslice (cs := [sv (destNames.getD ds.length []),.slice ov ([(o:Int)].length) oc]) (e := 54) (by kernel_rfl)) ?_
  rintro _ w_257 ⟨bf,rfl,hN363⟩
  have hE364 := hE361.trans hN363.ext
  have hM365 := hM362.new hN363
  refine os0 (.builtin .append #[26,26] 26 #[false,false] [.slice xv ds.length xc,.slice (some ⟨bf,0,none⟩) 1 1]) (some 182) (kOp (cAt Y14 (ro1 12 [0,1,0,0])) [1,0,0,1,1,1,1] 5 KT) (runs_appH (e := 54) (size := 2) (bytes := 40) (by kernel_rfl) (hM365.row 5 rfl) (m := 1) (news := [sv (destNames.getD ds.length []),.slice ov ([(o:Int)].length) oc]) (hM365.blk 0 rfl) rfl (by simp [Value.oneCell']) (by omega) (by omega) hM365.base) ?_
  rintro vs366 w_258 ⟨hr367,hg368,ho369⟩
  have hr370 : w_258.ownsRow w.heap.size 54 2 vs366 ((ds ++ [(⟨⟨destNames.getD ds.length [],[(o:Int)]⟩,ov,oc⟩ : DA)]).length) ((ds ++ [(⟨⟨destNames.getD ds.length [],[(o:Int)]⟩,ov,oc⟩ : DA)]).flatMap destC) := by simpa [destC] using hr367
  have hE371 := hM365.toExtApp hE364 5 rfl hg368
  have hM372 := hM365.app 5 rfl hr370 hg368 ho369
  obtain ⟨xv2,xc2,hvsvs366⟩ := row_slice (hM372.row 5 rfl)
  subst hvsvs366
  refine sg0 1 (kOp (cAt Y14 (ro1 12 [0,1,0,0])) [1,0,0,1,1,1,1] 6 KT) [(2,pt b0 0),(3,pt bq 0),(4,pt bp 0),(6,iv (n:Int)),(14,iv ((dv:Int) - (ds.length:Int))),(182,.slice xv2 ((ds ++ [(⟨⟨destNames.getD ds.length [],[(o:Int)]⟩,ov,oc⟩ : DA)]).length) xc2),(183,pt bp 5)] ?_
  refine os0 (.store 26 (pt bp 5) (.slice xv2 ((ds ++ [(⟨⟨destNames.getD ds.length [],[(o:Int)]⟩,ov,oc⟩ : DA)]).length) xc2)) none (kOp (cAt Y14 (ro1 12 [0,1,0,0])) [1,0,0,1,1,1,1] 7 KT) (runs_st (hM372.blk 8 rfl) (by kernel_rfl)) ?_
  rintro _ w_259 hC373
  have hE374 := hM372.toExt hE371 hC373 8 rfl
  have hM375 := hM372.set 8 rfl hC373
  refine sgz 7 [] KT [(2,pt b0 0),(3,pt bq 0),(4,pt bp 0),(6,iv (n:Int)),(14,iv (((dv:Int) - (ds.length:Int)) - (1 : Int)))] [I64 (((dv:Int) - (ds.length:Int)) - (1 : Int))] (A1 (i64 (by omega))) ?_
  have hM376 := hM375.pickT 11 [1,5,6,7,8,9,10] (by kernel_rfl)
  have hM_260 : Hold w_259 w.heap.size (([.row (.slice xv2 ((ds ++ [(⟨⟨destNames.getD ds.length [],[(o:Int)]⟩,ov,oc⟩ : DA)]).length) xc2) 54 2 ((ds ++ [(⟨⟨destNames.getD ds.length [],[(o:Int)]⟩,ov,oc⟩ : DA)]).length) ((ds ++ [(⟨⟨destNames.getD ds.length [],[(o:Int)]⟩,ov,oc⟩ : DA)]).flatMap destC),.row (.slice lv la.length lc) 61 3 la.length (la.flatMap linkC),.row (.slice av acc.length cv) 52 2 acc.length (acc.flatMap nodeC),.blk bp ([iv pr,iv (cp:Int),iv (min (kk:Int) (la.length:Int)),.slice av acc.length cv,.slice lv la.length lc,.slice xv2 ((ds ++ [(⟨⟨destNames.getD ds.length [],[(o:Int)]⟩,ov,oc⟩ : DA)]).length) xc2,.slice none 0 0]) 29,.blk bq ([.slice sa_251 (((L.drop 1).drop 1).length) sc_252]) 64,.blk b0 ([iv 0,iv 0,iv 0,.slice none 0 0,.slice none 0 0,.slice none 0 0,.slice none 0 0]) 29] ++ origR (ds ++ [(⟨⟨destNames.getD ds.length [],[(o:Int)]⟩,ov,oc⟩ : DA)]))) := by have h := hM376.toTail 0 rfl rfl; rw [show origR (ds ++ [(⟨⟨destNames.getD ds.length [],[(o:Int)]⟩,ov,oc⟩ : DA)]) = origR ds ++ [.row (.slice ov ([(o:Int)].length) oc) 3 1 ([(o:Int)].length) ([(o:Int)].flatMap intCells)] from by simp [origR]]; exact h
  refine stEq (st' := (stz [(2,pt b0 0),(3,pt bq 0),(4,pt bp 0),(6,iv (n:Int)),(14,iv ((dv:Int) - (((ds ++ [(⟨⟨destNames.getD ds.length [],[(o:Int)]⟩,ov,oc⟩ : DA)]).length:Nat):Int)))])) (by rw [show ((((dv:Int) - (ds.length:Int)) - (1 : Int)) : Int) = ((dv:Int) - (((ds ++ [(⟨⟨destNames.getD ds.length [],[(o:Int)]⟩,ov,oc⟩ : DA)]).length:Nat):Int)) from by rw [List.length_append]; show _ = (dv:Int) - ((ds.length + 1:Nat):Int); omega]) ?_
  have hx : ((⟨⟨destNames.getD ds.length [],[(o:Int)]⟩,ov,oc⟩ : DA).d :: (netDests (dv + 1 - (ds.length + 1)) (ds.length + 1) n ((L.drop 1).drop 1)).1) = (netDests (dv + 1 - ds.length) ds.length n L).1 ∧ (netDests (dv + 1 - (ds.length + 1)) (ds.length + 1) n ((L.drop 1).drop 1)).2 = (netDests (dv + 1 - ds.length) ds.length n L).2 := by rw [hfx,netDests_stepF h3,ho]; exact ⟨rfl,rfl⟩
  subst hKT
  exact again ((ds ++ [(⟨⟨destNames.getD ds.length [],[(o:Int)]⟩,ov,oc⟩ : DA)]),(L.drop 1).drop 1,sa_251,sc_252,xv2,xc2) [2,3,4,6,14] (by kernel_rfl) (⟨hE374,hM_260,hcs_254,(hs1.drop 1).drop 1,hks_255,by show (ds ++ [(⟨⟨destNames.getD ds.length [],[(o:Int)]⟩,ov,oc⟩ : DA)]).length ≤ dv + 1; rw [List.length_append]; exact hlt,by show ((ds ++ [(⟨⟨destNames.getD ds.length [],[(o:Int)]⟩,ov,oc⟩ : DA)]).map (·.d) ++ (netDests (dv + 1 - (ds ++ [(⟨⟨destNames.getD ds.length [],[(o:Int)]⟩,ov,oc⟩ : DA)]).length) (ds ++ [(⟨⟨destNames.getD ds.length [],[(o:Int)]⟩,ov,oc⟩ : DA)]).length n _).1,(netDests (dv + 1 - (ds ++ [(⟨⟨destNames.getD ds.length [],[(o:Int)]⟩,ov,oc⟩ : DA)]).length) (ds ++ [(⟨⟨destNames.getD ds.length [],[(o:Int)]⟩,ov,oc⟩ : DA)]).length n _).2) = R; rw [List.length_append,List.map_append,List.append_assoc,show [(⟨⟨destNames.getD ds.length [],[(o:Int)]⟩,ov,oc⟩ : DA)].length = 1 from rfl,List.map_singleton,List.singleton_append,hx.1,hx.2]; exact hacc⟩) (by show dv + 1 - (ds ++ [(⟨⟨destNames.getD ds.length [],[(o:Int)]⟩,ov,oc⟩ : DA)]).length < dv + 1 - ds.length; rw [List.length_append]; show dv + 1 - (ds.length + 1) < _; omega)
 have hlen2 : ds.length = dv + 1 := by omega
 rw [hlen2,Nat.sub_self] at hacc
 have hC2 : netC raw = (ds.map (·.d),L) := by rw [hCeq,← hacc]; simp [netDests]
 refine sg0 1 (kAt Y14 (ro1 13 []) []) [(2,pt b0 0),(3,pt bq 0),(4,pt bp 0),(6,iv (n:Int))] ?_
 exact net_end raw w wi b0 bq bp n kk pr cp acc av cv la lv lc ds xv xc L s e ll hE1 hM1 hc1 hs1 hk1 hn hpr hcp hkk hA hB hC2 (by omega)

end Go.Proofs.YtjhgghpeapmgdaaGreatDoor
