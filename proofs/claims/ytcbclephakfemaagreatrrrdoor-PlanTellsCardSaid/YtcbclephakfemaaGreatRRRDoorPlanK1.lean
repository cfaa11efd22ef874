/-
  PLAN: the second half of the statements' Net.
-/
import Derived.Test.YtcbclephakfemaaGreatRRRDoorPlanB
import Derived.Test.YtcbclephakfemaaGreatRRRDoorPlanNet
import Derived.Test.YtcbclephakfemaaGreatRRRDoorMore
import Derived.Test.YtcbclephakfemaaGreatRRRDoorLz
import Derived.Test.YtcbclephakfemaaGreatRRRDoorFns
namespace Go.Proofs.YtcbclephakfemaaGreatRRRDoor
open Go.Bk Go.Proofs

def usedC (acc : List PLink) : List Value := (List.range 49).map fun (j : Nat) => .bool (acc.any fun x => decide (7 * x.a + x.b = (j : Int)))
def zero49 : Value := .agg (List.replicate 49 (Value.bool false)).toArray
theorem zero49_cells : zero49.cells = (usedC []).toArray := by kernel_rfl
theorem zero49_set : setAt (usedC []) 0 zero49.cells.toList = usedC [] := by kernel_rfl
theorem zero49_one : ∀ u ∈ zero49.cells.toList,u.oneCell' = true := by
  intro u hu
  rw [show zero49.cells.toList = List.replicate 49 (.bool false) from rfl] at hu
  rw [List.eq_of_mem_replicate hu]; rfl
theorem usedC_len (acc : List PLink) : (usedC acc).length = 49 := by simp [usedC]
theorem usedC_at {acc : List PLink} {j : Nat} (h : j < 49) : (usedC acc)[j]? = some (.bool (acc.any fun x => decide (7 * x.a + x.b = (j : Int)))) := by
  unfold usedC
  rw [List.getElem?_map,List.getElem?_range h]; rfl
theorem usedB_eq {n a b : Nat} {acc : List PLink} (hok : LinksOk n acc) (ha : a < b) (hb : b < n) (hn : n ≤ 7) : (acc.any fun x => decide (7 * x.a + x.b = ((7 * a + b:Nat):Int))) = usedB acc a b := by
  unfold usedB
  rw [Bool.eq_iff_iff,List.any_eq_true,List.any_eq_true]
  constructor
  · rintro ⟨x,hx,h⟩
    refine ⟨x,hx,?_⟩
    have h1 := hok.1 x hx
    simp only [decide_eq_true_eq] at h ⊢
    omega
  · rintro ⟨x,hx,h⟩
    refine ⟨x,hx,?_⟩
    simp only [decide_eq_true_eq] at h ⊢
    omega
theorem used_cell {w : World} {bu : Nat} {t : TypeId} {n a b : Nat} {acc : List PLink} (h : w.heap[bu]? = some (.cells (usedC acc).toArray t (0,0))) (hok : LinksOk n acc) (ha : a < b) (hb : b < n) (hn : n ≤ 7) :
    w.cell? ⟨bu,0 + (7 * a + b) * 1,none⟩ = some (.bool (usedB acc a b)) := by
  refine cell_of h ?_
  rw [Nat.zero_add,Nat.mul_one,List.getElem?_toArray,usedC_at (by omega),usedB_eq hok ha hb hn]
theorem used_set {n a b : Nat} {acc : List PLink} {c : Int} (ha : a < b) (hb : b < n) (hn : n ≤ 7) : setAt (usedC acc) (0 + (7 * a + b) * 1) [.bool true] = usedC (acc ++ [⟨(a : Int),(b : Int),c⟩]) := by
  rw [Nat.zero_add,Nat.mul_one]
  apply List.ext_getElem?
  intro i
  unfold setAt
  have hl := usedC_len acc
  by_cases hi : i < 49
  · rw [usedC_at hi,List.any_append]
    by_cases h1 : i < 7 * a + b
    · rw [List.append_assoc,List.getElem?_append_left (by simp; omega),List.getElem?_take,if_pos h1,usedC_at hi]
      have : ¬ (7 * (a : Int) + (b : Int) = (i : Int)) := by omega
      simp [this]
    · by_cases h2 : i = 7 * a + b
      · subst h2
        rw [List.append_assoc,List.getElem?_append_right (by rw [List.length_take]; omega),List.length_take,hl,Nat.min_eq_left (by omega),Nat.sub_self]
        simp
      · rw [List.getElem?_append_right (by simp; omega),List.length_append,List.length_take,hl,Nat.min_eq_left (by omega),List.getElem?_drop]
        simp only [List.length_cons,List.length_nil]
        rw [show 7 * a + b + (0 + 1) + (i - (7 * a + b + (0 + 1))) = i by omega,usedC_at hi]
        have : ¬ (7 * (a : Int) + (b : Int) = (i : Int)) := by omega
        simp [this]
  · rw [show (usedC (acc ++ [⟨(a : Int),(b : Int),c⟩]))[i]? = none from List.getElem?_eq_none (by rw [usedC_len]; omega),List.getElem?_eq_none]
    simp only [List.length_append,List.length_take,List.length_drop,hl,List.length_cons,List.length_nil]
    omega
theorem netLink1_eq {n i a0 b0 a b : Nat} {l M : List Int} {acc : List PLink} (hq : linkPair n i l = (a0,b0,M)) (ha : (if b0 < a0 then b0 else a0) = a) (hb : (if b0 < a0 then a0 else b0) = b) :
    netLink1 n i l acc = if a ≠ b ∧ usedB acc a b = false then (acc ++ [⟨(a : Int),(b : Int),((1 + nextV M 15 % (1 + nextV (M.drop 1) 15):Nat):Int)⟩],(M.drop 1).drop 1) else (acc,M) := by
  unfold netLink1
  rw [hq]
  simp only
  rw [ha,hb]
theorem netNodes_stepP {f i : Nat} {l : List Int} (h : 0 < nextV (l.drop 1) 3) : netNodes (f + 1) i l = (⟨nodeNames.getD i [],((10 + i:Nat):Int)⟩ :: (netNodes f (i + 1) ((l.drop 1).drop 1)).1,(netNodes f (i + 1) ((l.drop 1).drop 1)).2) := by
  rw [netNodes,if_pos h]
theorem netNodes_stepN {f i : Nat} {l : List Int} (h : ¬ 0 < nextV (l.drop 1) 3) : netNodes (f + 1) i l = (⟨nodeNames.getD i [],((1 + nextV l 9:Nat):Int)⟩ :: (netNodes f (i + 1) ((l.drop 1).drop 1)).1,(netNodes f (i + 1) ((l.drop 1).drop 1)).2) := by
  rw [netNodes,if_neg h]
theorem netLinks_step {f i n : Nat} {l : List Int} {acc acc' : List PLink} {M : List Int} {R : List PLink × List Int} (h : netLinks (f + 1) i n l acc = R) (h1 : netLink1 n i l acc = (acc',M)) : netLinks f (i + 1) n M acc' = R := by
  rw [netLinks,h1] at h; exact h
theorem netDests_stepT {f j n : Nat} {l : List Int} (h : nextV (l.drop 1) 3 = 0 ∧ nextV l n + 1 < n) : netDests (f + 1) j n l = (⟨destNames.getD j [],[((nextV l n:Nat):Int),((nextV l n + 1 + nextV ((l.drop 1).drop 1) (n - nextV l n - 1):Nat):Int)]⟩ :: (netDests f (j + 1) n (((l.drop 1).drop 1).drop 1)).1,(netDests f (j + 1) n (((l.drop 1).drop 1).drop 1)).2) := by
  have e : (decide (nextV (l.drop 1) 3 = 0) && decide (nextV l n + 1 < n)) = true := by rw [decide_eq_true h.1,decide_eq_true h.2]; rfl
  rw [netDests]
  simp only [e,if_true]
theorem netDests_stepF {f j n : Nat} {l : List Int} (h : ¬ (nextV (l.drop 1) 3 = 0 ∧ nextV l n + 1 < n)) : netDests (f + 1) j n l = (⟨destNames.getD j [],[((nextV l n:Nat):Int)]⟩ :: (netDests f (j + 1) n ((l.drop 1).drop 1)).1,(netDests f (j + 1) n ((l.drop 1).drop 1)).2) := by
  have e : (decide (nextV (l.drop 1) 3 = 0) && decide (nextV l n + 1 < n)) = false := by
    cases h2 : (decide (nextV (l.drop 1) 3 = 0) && decide (nextV l n + 1 < n))
    · rfl
    · simp only [Bool.and_eq_true,decide_eq_true_eq] at h2; exact absurd h2 h
  rw [netDests]
  simp only [e,if_false,Bool.false_eq_true]
theorem netChecks_step {f n m : Nat} {l M : List Int} {c : PCheck} (h : netCheck1 n m l = (c,M)) : netChecks (f + 1) n m l = (c :: (netChecks f n m M).1,(netChecks f n m M).2) := by
  rw [netChecks,h]
def origR (ds : List DA) : List Res := ds.map fun x => .row (.slice x.a x.d.origins.length x.c) 3 1 x.d.origins.length (x.d.origins.flatMap intCells)
def planR (p : PPlan) (q : PAd) : List Res := [.row (.slice q.a1 p.nodes.length q.c1) 41 2 p.nodes.length (p.nodes.flatMap nodeC),.row (.slice q.a2 p.links.length q.c2) 43 3 p.links.length (p.links.flatMap linkC),
  .row (.slice q.a3 q.ds.length q.c3) 49 2 q.ds.length (q.ds.flatMap destC),.row (.slice q.a4 p.checks.length q.c4) 51 5 p.checks.length (p.checks.flatMap checkC)] ++ origR q.ds
structure NetAt (w : World) (B : Nat) (p : PPlan) (q : PAd) : Prop where
  hold : Hold w B (planR p q)
  deq : q.ds.map (·.d) = p.dests
theorem nodeNames_at {w : World} {b : Nat} {t : TypeId} (h : w.heap[b]? = some (.cells #[.string (bs [97]),.string (bs [98]),.string (bs [99]),.string (bs [100]),.string (bs [101]),.string (bs [102]),.string (bs [103])] t (0,0))) {i : Nat} (hi : i < 7) :
    w.cell? ⟨b,0 + i * 1,none⟩ = some (.string (bs (nodeNames.getD i []))) := by
  have : i = 0 ∨ i = 1 ∨ i = 2 ∨ i = 3 ∨ i = 4 ∨ i = 5 ∨ i = 6 := by omega
  rcases this with rfl | rfl | rfl | rfl | rfl | rfl | rfl <;> exact cell_of h rfl
theorem destNames_at {w : World} {b : Nat} {t : TypeId} (h : w.heap[b]? = some (.cells #[.string (bs [120]),.string (bs [121])] t (0,0))) {i : Nat} (hi : i < 2) :
    w.cell? ⟨b,0 + i * 1,none⟩ = some (.string (bs (destNames.getD i []))) := by
  have : i = 0 ∨ i = 1 := by omega
  rcases this with rfl | rfl <;> exact cell_of h rfl

def netL4 (w : World) (b0 bq bp n kk : Nat) (pr : Int) (cp : Nat) (acc : List PNode) (av : Option Addr) (cv : Nat) (la : List PLink) (lv : Option Addr) (lc : Nat) (ds : List DA) (xv : Option Addr) (xc : Nat) (m : Nat) (R2 : List PCheck × List Int) : Lp (List PCheck × List Int × Option Addr × Nat × Option Addr × Nat) where
  S := fun x => [(2,none,pt b0 0),(3,none,pt bq 0),(4,none,pt bp 0),(6,none,iv (n:Int)),(17,none,iv ((m:Int) - (x.1.length:Int)))]
  J := fun x w' => Ext w w' ∧ Hold w' w.heap.size (([.row (.slice x.2.2.2.2.1 x.1.length x.2.2.2.2.2) 51 5 x.1.length (x.1.flatMap checkC),.row (.slice xv ds.length xc) 49 2 ds.length (ds.flatMap destC),.row (.slice lv la.length lc) 43 3 la.length (la.flatMap linkC),.row (.slice av acc.length cv) 41 2 acc.length (acc.flatMap nodeC),.blk bp ([iv pr,iv (cp:Int),iv (min (kk:Int) (la.length:Int)),.slice av acc.length cv,.slice lv la.length lc,.slice xv ds.length xc,.slice x.2.2.2.2.1 x.1.length x.2.2.2.2.2]) 29,.blk bq ([.slice x.2.2.1 x.2.1.length x.2.2.2.1]) 46,.blk b0 ([iv 0,iv 0,iv 0,.slice none 0 0,.slice none 0 0,.slice none 0 0,.slice none 0 0]) 29] ++ origR ds)) ∧ Cells w x.2.2.1 (x.2.1.flatMap intCells) ∧ Small x.2.1 ∧ x.2.1.length ≤ x.2.2.2.1 ∧ x.1.length ≤ m ∧ (x.1 ++ (netChecks (m - x.1.length) n ds.length x.2.1).1,(netChecks (m - x.1.length) n ds.length x.2.1).2) = R2
  M := fun x => m - x.1.length
set_option maxRecDepth 20000 in
set_option maxHeartbeats 2000000 in
theorem net_end (raw : List Int) (w wt : World) (b0 bq bp n kk : Nat) (pr : Int) (cp : Nat) (acc : List PNode) (av : Option Addr) (cv : Nat) (la : List PLink) (lv : Option Addr) (lc : Nat) (ds : List DA) (xv : Option Addr) (xc : Nat) (L : List Int) (s : Option Addr) (e : Nat) (y0 : List Int) (hE : Ext w wt) (hM : Hold wt w.heap.size (([.row (.slice xv ds.length xc) 49 2 ds.length (ds.flatMap destC),.row (.slice lv la.length lc) 43 3 la.length (la.flatMap linkC),.row (.slice av acc.length cv) 41 2 acc.length (acc.flatMap nodeC),.blk bp ([iv pr,iv (cp:Int),iv (min (kk:Int) (la.length:Int)),.slice av acc.length cv,.slice lv la.length lc,.slice xv ds.length xc,.slice none 0 0]) 29,.blk bq ([.slice s L.length e]) 46,.blk b0 ([iv 0,iv 0,iv 0,.slice none 0 0,.slice none 0 0,.slice none 0 0,.slice none 0 0]) 29] ++ origR ds))) (hc : Cells w s (L.flatMap intCells)) (hs : Small L) (hk : L.length ≤ e) (hn : netN raw = n) (hpr : (if netPath raw then 2 else 1) = pr) (hcp : netCap raw = cp) (hkk : nextV (netSrc2 raw) 4 = kk) (hA : (netA raw).1 = acc) (hB : netB raw = (la,y0)) (hC2 : netC raw = (ds.map (·.d),L)) (hlen2 : 0 < ds.length) :
    H Tryz.prog 227 [] (bodyPost Tryz.prog Tryz.f6 (Ret fun v w' => ∃ q : PAd,v = .agg #[.int .i64 (netP raw).proto,.int .i64 (netP raw).cap,.int .i64 (netP raw).k,.slice q.a1 (netP raw).nodes.length q.c1,.slice q.a2 (netP raw).links.length q.c2,.slice q.a3 (netP raw).dests.length q.c3,.slice q.a4 (netP raw).checks.length q.c4] ∧ Ext w w' ∧ NetAt w' w.heap.size (netP raw) q)) (kAt Y6 (ro1 13 []) []) (stz [(2,pt b0 0),(3,pt bq 0),(4,pt bp 0),(6,iv (n:Int))]) wt := by
 have hnle := netN_le raw
 refine Zl 4 E17 (next_any w bq L s e 7 wt hE hc hs (by omega) hk (hM.blk 4 rfl)) ?_
 rintro _ w_296 ⟨rfl,sa_297,sc_298,hC_299,hcs_300,hks_301⟩
 have hE369 := hM.toExt hE hC_299 4 rfl
 have hM370 := hM.set 4 rfl hC_299
 have hv_302 := nextV_lt L (n := 7) (by omega)
 obtain ⟨m,hm⟩ : ∃ k,nextV L 7 = k := ⟨_,rfl⟩
 have hml : m < 7 := by rw [← hm]; exact nextV_lt _ (by omega)
 have hM371 := hM370.nilRow (e := 51) (size := 5)
 obtain ⟨R2,hR2⟩ : ∃ R,netChecks m n ds.length (L.drop 1) = R := ⟨_,rfl⟩
 have hDeq : netD raw = R2 := by unfold netD; rw [hC2,hn]; show netChecks (nextV L 7) n (ds.map (·.d)).length (L.drop 1) = R2; rw [hm,List.length_map]; exact hR2
 refine Zw 3 17 (iv ((nextV L 7:Nat):Int)) (iv ((m:Int) - (([] : List PCheck).length : Nat))) (by rw [show (((nextV L 7:Nat):Int) : Int) = ((m:Int) - (([] : List PCheck).length : Nat)) from by rw [hm]; exact (Int.sub_zero _).symm]) ?_
 refine ZLoop (netL4 w b0 bq bp n kk pr cp acc av cv la lv lc ds xv xc m R2) (k' := (kEnd Y6 (ro1 13 [0,1,0]) [])) (body := (cAt Y6 (ro1 13 [0,1,0,0]))) (by kernel_rfl) ([],L.drop 1,sa_297,sc_298,none,0) [2,3,4,6,17] (by kernel_rfl) (⟨hE369,hM371,hcs_300,hs.drop 1,hks_301,Nat.zero_le _,hR2⟩) ?_
 rintro ⟨cs,K,s4,e4,kv,kc⟩ wk ⟨hE4,hM4,hc4,hs4,hk4,hle4,hacc4⟩
 simp only at hE4 hM4 hc4 hs4 hk4 hle4 hacc4
 show H _ _ _ _ (kAt (cAt Y6 (ro1 13 [0,1,0,0])) [] (.inv (LI 227 [] (netL4 w b0 bq bp n kk pr cp acc av cv la lv lc ds xv xc m R2) (cs,K,s4,e4,kv,kc)) :: (kEnd Y6 (ro1 13 [0,1,0]) []))) (stz [(2,pt b0 0),(3,pt bq 0),(4,pt bp 0),(6,iv (n:Int)),(17,iv ((m:Int) - (cs.length:Int)))]) wk
 refine Zq 6 ((0 : Int) < ((m:Int) - (cs.length:Int))) (fun h9 => ?_) (fun h9 => ?_)
 ·generalize hKT : ((.inv (LI 227 [] (netL4 w b0 bq bp n kk pr cp acc av cv la lv lc ds xv xc m R2) (cs,K,s4,e4,kv,kc)) :: (kEnd Y6 (ro1 13 [0,1,0]) [])) : List Fr) = KT
  have hlt4 : cs.length < m := by omega
  have hfx4 : m - cs.length = (m - (cs.length + 1)) + 1 := by omega
  refine Zs 4 [] [] trivial ?_
  refine ZB 14 (kAt (cAt Y6 (ro1 13 [0,1,0,0])) [1,0,0,1] KT) 45 (opsAt (cAt (cAt Y6 (ro1 13 [0,1,0,0])) [1,0,0,0])) (fun _ w' => w'.heap[bp]? = some (.cells #[iv pr,iv (cp:Int),iv (min (kk:Int) (la.length:Int)),.slice av acc.length cv,.slice lv la.length lc,.slice xv ds.length xc,.slice kv cs.length kc] 29 (0,0))) ?_
  intro w372 hx373
  obtain ⟨hE374,hM375⟩ := Xt hE4 hM4 hx373
  refine dx [0,3,4,6,7,8,9] [.ld (.slice xv ds.length xc)] 7 (lb 14 985) (fun w' => [cl w' bp 5 (.slice xv ds.length xc)]) (fun w' hS => (A1 (cell_of hS rfl))) ((hM375.blk 4 rfl)) ?_
  refine dAll 1 [12] (by kernel_rfl) ?_
  refine ⟨?_,?_⟩
  ·obtain ⟨g_309,hg_310⟩ : ∃ x,nextV K 4 = x := ⟨_,rfl⟩
   obtain ⟨l_311,hl_312⟩ : ∃ x,K.drop 1 = x := ⟨_,rfl⟩
   have hs_313 : Small l_311 := hl_312 ▸ hs4.drop 1
   have hv_314 := nextV_lt K (n := 4) (by omega)
   rw [hg_310] at hv_314
   refine Wl E17 (by have h := next_any w bq K s4 e4 4 w372 hE374 hc4 hs4 (by omega) hk4 (hM375.blk 5 rfl); rw [hg_310,hl_312] at h; exact h) ?_
   rintro _ w_303 ⟨rfl,sa_304,sc_305,hC_306,hcs_307,hks_308⟩
   have hE376 := hM375.toExt hE374 hC_306 5 rfl
   have hM377 := hM375.set 5 rfl hC_306
   refine ⟨(hM377.blk 4 rfl),?_⟩
   refine dx [2] [] 5 (lb 14 991) (fun w' => [I64 ((1 + g_309:Nat):Int)]) (fun w' hS => (A1 (i64 (by omega)))) ((hM377.blk 4 rfl)) ?_
   refine dAll 5 [12] (by kernel_rfl) ?_
   refine ⟨?_,?_⟩
   ·obtain ⟨g_321,hg_322⟩ : ∃ x,nextV l_311 n = x := ⟨_,rfl⟩
    obtain ⟨l_323,hl_324⟩ : ∃ x,l_311.drop 1 = x := ⟨_,rfl⟩
    have hs_325 : Small l_323 := hl_324 ▸ hs_313.drop 1
    have hv_326 := nextV_lt l_311 (n := n) (by omega)
    rw [hg_322] at hv_326
    refine Wl E17 (by have h := next_any w bq l_311 sa_304 sc_305 n w_303 hE376 hcs_307 hs_313 (by omega) hks_308 (hM377.blk 5 rfl); rw [hg_322,hl_324] at h; exact h) ?_
    rintro _ w_315 ⟨rfl,sa_316,sc_317,hC_318,hcs_319,hks_320⟩
    have hE378 := hM377.toExt hE376 hC_318 5 rfl
    have hM379 := hM377.set 5 rfl hC_318
    refine ⟨(hM379.blk 4 rfl),?_⟩
    refine dAll 10 [12] (by kernel_rfl) ?_
    refine ⟨?_,?_⟩
    ·obtain ⟨g_333,hg_334⟩ : ∃ x,nextV l_323 ds.length = x := ⟨_,rfl⟩
     obtain ⟨l_335,hl_336⟩ : ∃ x,l_323.drop 1 = x := ⟨_,rfl⟩
     have hs_337 : Small l_335 := hl_336 ▸ hs_325.drop 1
     have hv_338 := nextV_lt l_323 (n := ds.length) (by omega)
     rw [hg_334] at hv_338
     refine Wl E17 (by have h := next_any w bq l_323 sa_316 sc_317 ds.length w_315 hE378 hcs_319 hs_325 (by omega) hks_320 (hM379.blk 5 rfl); rw [hg_334,hl_336] at h; exact h) ?_
     rintro _ w_327 ⟨rfl,sa_328,sc_329,hC_330,hcs_331,hks_332⟩
     have hE380 := hM379.toExt hE378 hC_330 5 rfl
     have hM381 := hM379.set 5 rfl hC_330
     refine ⟨(hM381.blk 4 rfl),?_⟩
     refine dx0 [11] [] 2 (lb 14 4095) ((hM381.blk 4 rfl)) ?_
     refine d1 12 ?_
     refine Wa 51 [iv 0,iv 0,iv 0,iv 0,iv 0] hE380 hM381 ?_
     intro bc w_339 hx385 hE383 hM384
     refine ⟨(hM384.blk 5 rfl),?_⟩
     refine d1 13 ?_
     refine Wt 0 0 (.agg #[iv ((1 + g_309:Nat):Int),iv (g_321:Int),iv (g_333:Int),iv 0,iv 0]) rfl hE383 hM384 ?_
     intro w_340 hE387 hM388
     refine ⟨(hM388.blk 5 rfl),?_⟩
     refine ZD ?_
     refine Zh 7 [.c 0 0] hM388 trivial ?_
     refine Zq 0 (((1 + g_309:Nat):Int) = (2 : Int)) (fun hkd => ?_) (fun hkd => ?_)
     ·obtain ⟨g_347,hg_348⟩ : ∃ x,nextV l_335 20 = x := ⟨_,rfl⟩
      obtain ⟨l_349,hl_350⟩ : ∃ x,l_335.drop 1 = x := ⟨_,rfl⟩
      have hs_351 : Small l_349 := hl_350 ▸ hs_337.drop 1
      have hv_352 := nextV_lt l_335 (n := 20) (by omega)
      rw [hg_348] at hv_352
      refine Zl 2 E17 (by have h := next_any w bq l_335 sa_328 sc_329 20 w_340 hE387 hcs_331 hs_337 (by omega) hks_332 (hM388.blk 6 rfl); rw [hg_348,hl_350] at h; exact h) ?_
      rintro _ w_341 ⟨rfl,sa_342,sc_343,hC_344,hcs_345,hks_346⟩
      have hE389 := hM388.toExt hE387 hC_344 6 rfl
      have hM390 := hM388.set 6 rfl hC_344
      refine Zt 1 0 3 (iv (g_347:Int)) rfl hE389 hM390 ?_
      intro w_353 hE392 hM393
      refine Zf 13 [.c 0 0,.gn 0,.y,.y,.gc 0 0 0,.gn 0,.gn 0,.y] hM393 [] trivial [!(decide (((1 + g_309:Nat):Int) = (3 : Int)))] trivial ?_
      refine Zr 0 _ ((((1 + g_309:Nat):Int) = (3 : Int)) ∨ (((1 + g_309:Nat):Int) = (4 : Int))) ((iffOr iffDec iffDec)) (fun hk34 => ?_) (fun hk34 => ?_)
      ·exfalso; omega
      refine Zh 5 [.c 5 6,.a 0 0 5] hM393 trivial ?_
      obtain ⟨cc,hcc⟩ : ∃ x,(⟨((1 + g_309:Nat):Int),(g_321:Int),(g_333:Int),(g_347:Int),0⟩ : PCheck) = x := ⟨_,rfl⟩
      refine Zd 0 1 [iv ((1 + g_309:Nat):Int),iv (g_321:Int),iv (g_333:Int),iv (g_347:Int),iv 0] 51 hE392 hM393 ?_
      intro bf w_354 hE395 hM396
      refine Zp 0 2 0 1 40 ((cs ++ [cc]).length) ((cs ++ [cc]).flatMap checkC) rfl rfl ⟨by omega,by omega⟩ (fun _ _ h => by subst hcc; simpa [checkC] using h) hE395 hM396 ?_
      intro kv2 kc2 w_355 hE397 hM398
      refine Zt 1 6 6 (.slice kv2 ((cs ++ [cc]).length) kc2) rfl hE397 hM398 ?_
      intro w_356 hE400 hM401
      refine Zs 7 [] [I64 (((m:Int) - (cs.length:Int)) - (1 : Int))] (A1 (i64 (by omega))) ?_
      have hM402 := hM401.pickT 9 [2,3,4,5,6,7,8] (by kernel_rfl)
      refine Zw 0 17 (iv (((m:Int) - (cs.length:Int)) - (1 : Int))) (iv ((m:Int) - (((cs ++ [cc]).length:Nat):Int))) (by rw [show ((((m:Int) - (cs.length:Int)) - (1 : Int)) : Int) = ((m:Int) - (((cs ++ [cc]).length:Nat):Int)) from by rw [List.length_append]; show _ = (m:Int) - ((cs.length + 1:Nat):Int); omega]) ?_
      have h1 : netCheck1 n ds.length K = (cc,l_349) := by subst hcc; subst hg_310; subst hl_312; subst hg_322; subst hl_324; subst hg_334; subst hl_336; subst hg_348; subst hl_350; unfold netCheck1; simp only; rw [if_pos (by omega)]
      have hx : (cc :: (netChecks (m - (cs.length + 1)) n ds.length (l_349)).1) = (netChecks (m - cs.length) n ds.length K).1 ∧ (netChecks (m - (cs.length + 1)) n ds.length (l_349)).2 = (netChecks (m - cs.length) n ds.length K).2 := by rw [hfx4,netChecks_step h1]; exact ⟨rfl,rfl⟩
      subst hKT
      exact ZA 0 (netL4 w b0 bq bp n kk pr cp acc av cv la lv lc ds xv xc m R2) (cs,K,s4,e4,kv,kc) ((cs ++ [cc]),l_349,sa_342,sc_343,kv2,kc2) [2,3,4,6,17] (⟨hE400,hM402,hcs_345,hs_351,hks_346,by show (cs ++ [cc]).length ≤ m; rw [List.length_append]; exact hlt4,by show ((cs ++ [cc]) ++ (netChecks (m - (cs ++ [cc]).length) n ds.length _).1,(netChecks (m - (cs ++ [cc]).length) n ds.length _).2) = R2; rw [List.length_append,List.append_assoc,show [cc].length = 1 from rfl,List.singleton_append,hx.1,hx.2]; exact hacc4⟩) (by show m - (cs ++ [cc]).length < m - cs.length; rw [List.length_append]; show m - (cs.length + 1) < _; omega)
     refine Zf 13 [.c 0 0,.gn 0,.y,.y,.gc 0 0 0,.gn 0,.gn 0,.y] hM388 [] trivial [!(decide (((1 + g_309:Nat):Int) = (3 : Int)))] trivial ?_
     refine Zr 0 _ ((((1 + g_309:Nat):Int) = (3 : Int)) ∨ (((1 + g_309:Nat):Int) = (4 : Int))) ((iffOr iffDec iffDec)) (fun hk34 => ?_) (fun hk34 => ?_)
     ·obtain ⟨g_363,hg_364⟩ : ∃ x,nextV l_335 n = x := ⟨_,rfl⟩
      obtain ⟨l_365,hl_366⟩ : ∃ x,l_335.drop 1 = x := ⟨_,rfl⟩
      have hs_367 : Small l_365 := hl_366 ▸ hs_337.drop 1
      have hv_368 := nextV_lt l_335 (n := n) (by omega)
      rw [hg_364] at hv_368
      refine Zl 3 E17 (by have h := next_any w bq l_335 sa_328 sc_329 n w_340 hE387 hcs_331 hs_337 (by omega) hks_332 (hM388.blk 6 rfl); rw [hg_364,hl_366] at h; exact h) ?_
      rintro _ w_357 ⟨rfl,sa_358,sc_359,hC_360,hcs_361,hks_362⟩
      have hE403 := hM388.toExt hE387 hC_360 6 rfl
      have hM404 := hM388.set 6 rfl hC_360
      refine Zt 1 0 4 (iv (g_363:Int)) rfl hE403 hM404 ?_
      intro w_369 hE406 hM407
      refine Zh 5 [.c 5 6,.a 0 0 5] hM407 trivial ?_
      obtain ⟨cc,hcc⟩ : ∃ x,(⟨((1 + g_309:Nat):Int),(g_321:Int),(g_333:Int),0,(g_363:Int)⟩ : PCheck) = x := ⟨_,rfl⟩
      refine Zd 0 1 [iv ((1 + g_309:Nat):Int),iv (g_321:Int),iv (g_333:Int),iv 0,iv (g_363:Int)] 51 hE406 hM407 ?_
      intro bf w_370 hE409 hM410
      refine Zp 0 2 0 1 40 ((cs ++ [cc]).length) ((cs ++ [cc]).flatMap checkC) rfl rfl ⟨by omega,by omega⟩ (fun _ _ h => by subst hcc; simpa [checkC] using h) hE409 hM410 ?_
      intro kv2 kc2 w_371 hE411 hM412
      refine Zt 1 6 6 (.slice kv2 ((cs ++ [cc]).length) kc2) rfl hE411 hM412 ?_
      intro w_372 hE414 hM415
      refine Zs 7 [] [I64 (((m:Int) - (cs.length:Int)) - (1 : Int))] (A1 (i64 (by omega))) ?_
      have hM416 := hM415.pickT 9 [2,3,4,5,6,7,8] (by kernel_rfl)
      refine Zw 0 17 (iv (((m:Int) - (cs.length:Int)) - (1 : Int))) (iv ((m:Int) - (((cs ++ [cc]).length:Nat):Int))) (by rw [show ((((m:Int) - (cs.length:Int)) - (1 : Int)) : Int) = ((m:Int) - (((cs ++ [cc]).length:Nat):Int)) from by rw [List.length_append]; show _ = (m:Int) - ((cs.length + 1:Nat):Int); omega]) ?_
      have h1 : netCheck1 n ds.length K = (cc,l_365) := by subst hcc; subst hg_310; subst hl_312; subst hg_322; subst hl_324; subst hg_334; subst hl_336; subst hg_364; subst hl_366; unfold netCheck1; simp only; rw [if_neg (by omega),if_pos (by omega)]
      have hx : (cc :: (netChecks (m - (cs.length + 1)) n ds.length (l_365)).1) = (netChecks (m - cs.length) n ds.length K).1 ∧ (netChecks (m - (cs.length + 1)) n ds.length (l_365)).2 = (netChecks (m - cs.length) n ds.length K).2 := by rw [hfx4,netChecks_step h1]; exact ⟨rfl,rfl⟩
      subst hKT
      exact ZA 0 (netL4 w b0 bq bp n kk pr cp acc av cv la lv lc ds xv xc m R2) (cs,K,s4,e4,kv,kc) ((cs ++ [cc]),l_365,sa_358,sc_359,kv2,kc2) [2,3,4,6,17] (⟨hE414,hM416,hcs_361,hs_367,hks_362,by show (cs ++ [cc]).length ≤ m; rw [List.length_append]; exact hlt4,by show ((cs ++ [cc]) ++ (netChecks (m - (cs ++ [cc]).length) n ds.length _).1,(netChecks (m - (cs ++ [cc]).length) n ds.length _).2) = R2; rw [List.length_append,List.append_assoc,show [cc].length = 1 from rfl,List.singleton_append,hx.1,hx.2]; exact hacc4⟩) (by show m - (cs ++ [cc]).length < m - cs.length; rw [List.length_append]; show m - (cs.length + 1) < _; omega)
     refine Zh 5 [.c 5 6,.a 0 0 5] hM388 trivial ?_
     obtain ⟨cc,hcc⟩ : ∃ x,(⟨((1 + g_309:Nat):Int),(g_321:Int),(g_333:Int),0,0⟩ : PCheck) = x := ⟨_,rfl⟩
     refine Zd 0 1 [iv ((1 + g_309:Nat):Int),iv (g_321:Int),iv (g_333:Int),iv 0,iv 0] 51 hE387 hM388 ?_
     intro bf w_373 hE418 hM419
     refine Zp 0 2 0 1 40 ((cs ++ [cc]).length) ((cs ++ [cc]).flatMap checkC) rfl rfl ⟨by omega,by omega⟩ (fun _ _ h => by subst hcc; simpa [checkC] using h) hE418 hM419 ?_
     intro kv2 kc2 w_374 hE420 hM421
     refine Zt 1 6 6 (.slice kv2 ((cs ++ [cc]).length) kc2) rfl hE420 hM421 ?_
     intro w_375 hE423 hM424
     refine Zs 7 [] [I64 (((m:Int) - (cs.length:Int)) - (1 : Int))] (A1 (i64 (by omega))) ?_
     have hM425 := hM424.pickT 9 [2,3,4,5,6,7,8] (by kernel_rfl)
     refine Zw 0 17 (iv (((m:Int) - (cs.length:Int)) - (1 : Int))) (iv ((m:Int) - (((cs ++ [cc]).length:Nat):Int))) (by rw [show ((((m:Int) - (cs.length:Int)) - (1 : Int)) : Int) = ((m:Int) - (((cs ++ [cc]).length:Nat):Int)) from by rw [List.length_append]; show _ = (m:Int) - ((cs.length + 1:Nat):Int); omega]) ?_
     have h1 : netCheck1 n ds.length K = (cc,l_335) := by subst hcc; subst hg_310; subst hl_312; subst hg_322; subst hl_324; subst hg_334; subst hl_336; unfold netCheck1; simp only; rw [if_neg (by omega),if_neg (by omega)]
     have hx : (cc :: (netChecks (m - (cs.length + 1)) n ds.length (l_335)).1) = (netChecks (m - cs.length) n ds.length K).1 ∧ (netChecks (m - (cs.length + 1)) n ds.length (l_335)).2 = (netChecks (m - cs.length) n ds.length K).2 := by rw [hfx4,netChecks_step h1]; exact ⟨rfl,rfl⟩
     subst hKT
     exact ZA 0 (netL4 w b0 bq bp n kk pr cp acc av cv la lv lc ds xv xc m R2) (cs,K,s4,e4,kv,kc) ((cs ++ [cc]),l_335,sa_328,sc_329,kv2,kc2) [2,3,4,6,17] (⟨hE423,hM425,hcs_331,hs_337,hks_332,by show (cs ++ [cc]).length ≤ m; rw [List.length_append]; exact hlt4,by show ((cs ++ [cc]) ++ (netChecks (m - (cs ++ [cc]).length) n ds.length _).1,(netChecks (m - (cs ++ [cc]).length) n ds.length _).2) = R2; rw [List.length_append,List.append_assoc,show [cc].length = 1 from rfl,List.singleton_append,hx.1,hx.2]; exact hacc4⟩) (by show m - (cs ++ [cc]).length < m - cs.length; rw [List.length_append]; show m - (cs.length + 1) < _; omega)
    refine Wa 51 [iv 0,iv 0,iv 0,iv 0,iv 0] hE378 hM379 ?_
    intro bc w_376 hx429 hE427 hM428
    refine ⟨(hM428.blk 5 rfl),?_⟩
    obtain ⟨g_383,hg_384⟩ : ∃ x,nextV l_323 ds.length = x := ⟨_,rfl⟩
    obtain ⟨l_385,hl_386⟩ : ∃ x,l_323.drop 1 = x := ⟨_,rfl⟩
    have hs_387 : Small l_385 := hl_386 ▸ hs_325.drop 1
    have hv_388 := nextV_lt l_323 (n := ds.length) (by omega)
    rw [hg_384] at hv_388
    refine d1 10 ?_
    refine Wl E17 (by have h := next_any w bq l_323 sa_316 sc_317 ds.length w_376 hE427 hcs_319 hs_325 (by omega) hks_320 (hM428.blk 6 rfl); rw [hg_384,hl_386] at h; exact h) ?_
    rintro _ w_377 ⟨rfl,sa_378,sc_379,hC_380,hcs_381,hks_382⟩
    have hE430 := hM428.toExt hE427 hC_380 6 rfl
    have hM431 := hM428.set 6 rfl hC_380
    refine ⟨(hM431.blk 5 rfl),?_⟩
    refine dx0 [11] [] 1 (lb 14 8191) ((hM431.blk 5 rfl)) ?_
    refine d1 13 ?_
    refine Wt 0 0 (.agg #[iv ((1 + g_309:Nat):Int),iv (g_321:Int),iv (g_383:Int),iv 0,iv 0]) rfl hE430 hM431 ?_
    intro w_389 hE433 hM434
    refine ⟨(hM434.blk 5 rfl),?_⟩
    refine ZD ?_
    refine Zh 7 [.c 0 0] hM434 trivial ?_
    refine Zq 0 (((1 + g_309:Nat):Int) = (2 : Int)) (fun hkd => ?_) (fun hkd => ?_)
    ·obtain ⟨g_396,hg_397⟩ : ∃ x,nextV l_385 20 = x := ⟨_,rfl⟩
     obtain ⟨l_398,hl_399⟩ : ∃ x,l_385.drop 1 = x := ⟨_,rfl⟩
     have hs_400 : Small l_398 := hl_399 ▸ hs_387.drop 1
     have hv_401 := nextV_lt l_385 (n := 20) (by omega)
     rw [hg_397] at hv_401
     refine Zl 2 E17 (by have h := next_any w bq l_385 sa_378 sc_379 20 w_389 hE433 hcs_381 hs_387 (by omega) hks_382 (hM434.blk 6 rfl); rw [hg_397,hl_399] at h; exact h) ?_
     rintro _ w_390 ⟨rfl,sa_391,sc_392,hC_393,hcs_394,hks_395⟩
     have hE435 := hM434.toExt hE433 hC_393 6 rfl
     have hM436 := hM434.set 6 rfl hC_393
     refine Zt 1 0 3 (iv (g_396:Int)) rfl hE435 hM436 ?_
     intro w_402 hE438 hM439
     refine Zf 13 [.c 0 0,.gn 0,.y,.y,.gc 0 0 0,.gn 0,.gn 0,.y] hM439 [] trivial [!(decide (((1 + g_309:Nat):Int) = (3 : Int)))] trivial ?_
     refine Zr 0 _ ((((1 + g_309:Nat):Int) = (3 : Int)) ∨ (((1 + g_309:Nat):Int) = (4 : Int))) ((iffOr iffDec iffDec)) (fun hk34 => ?_) (fun hk34 => ?_)
     ·exfalso; omega
     refine Zh 5 [.c 5 6,.a 0 0 5] hM439 trivial ?_
     obtain ⟨cc,hcc⟩ : ∃ x,(⟨((1 + g_309:Nat):Int),(g_321:Int),(g_383:Int),(g_396:Int),0⟩ : PCheck) = x := ⟨_,rfl⟩
     refine Zd 0 1 [iv ((1 + g_309:Nat):Int),iv (g_321:Int),iv (g_383:Int),iv (g_396:Int),iv 0] 51 hE438 hM439 ?_
     intro bf w_403 hE441 hM442
     refine Zp 0 2 0 1 40 ((cs ++ [cc]).length) ((cs ++ [cc]).flatMap checkC) rfl rfl ⟨by omega,by omega⟩ (fun _ _ h => by subst hcc; simpa [checkC] using h) hE441 hM442 ?_
     intro kv2 kc2 w_404 hE443 hM444
     refine Zt 1 6 6 (.slice kv2 ((cs ++ [cc]).length) kc2) rfl hE443 hM444 ?_
     intro w_405 hE446 hM447
     refine Zs 7 [] [I64 (((m:Int) - (cs.length:Int)) - (1 : Int))] (A1 (i64 (by omega))) ?_
     have hM448 := hM447.pickT 9 [2,3,4,5,6,7,8] (by kernel_rfl)
     refine Zw 0 17 (iv (((m:Int) - (cs.length:Int)) - (1 : Int))) (iv ((m:Int) - (((cs ++ [cc]).length:Nat):Int))) (by rw [show ((((m:Int) - (cs.length:Int)) - (1 : Int)) : Int) = ((m:Int) - (((cs ++ [cc]).length:Nat):Int)) from by rw [List.length_append]; show _ = (m:Int) - ((cs.length + 1:Nat):Int); omega]) ?_
     have h1 : netCheck1 n ds.length K = (cc,l_398) := by subst hcc; subst hg_310; subst hl_312; subst hg_322; subst hl_324; subst hg_384; subst hl_386; subst hg_397; subst hl_399; unfold netCheck1; simp only; rw [if_pos (by omega)]
     have hx : (cc :: (netChecks (m - (cs.length + 1)) n ds.length (l_398)).1) = (netChecks (m - cs.length) n ds.length K).1 ∧ (netChecks (m - (cs.length + 1)) n ds.length (l_398)).2 = (netChecks (m - cs.length) n ds.length K).2 := by rw [hfx4,netChecks_step h1]; exact ⟨rfl,rfl⟩
     subst hKT
     exact ZA 0 (netL4 w b0 bq bp n kk pr cp acc av cv la lv lc ds xv xc m R2) (cs,K,s4,e4,kv,kc) ((cs ++ [cc]),l_398,sa_391,sc_392,kv2,kc2) [2,3,4,6,17] (⟨hE446,hM448,hcs_394,hs_400,hks_395,by show (cs ++ [cc]).length ≤ m; rw [List.length_append]; exact hlt4,by show ((cs ++ [cc]) ++ (netChecks (m - (cs ++ [cc]).length) n ds.length _).1,(netChecks (m - (cs ++ [cc]).length) n ds.length _).2) = R2; rw [List.length_append,List.append_assoc,show [cc].length = 1 from rfl,List.singleton_append,hx.1,hx.2]; exact hacc4⟩) (by show m - (cs ++ [cc]).length < m - cs.length; rw [List.length_append]; show m - (cs.length + 1) < _; omega)
    refine Zf 13 [.c 0 0,.gn 0,.y,.y,.gc 0 0 0,.gn 0,.gn 0,.y] hM434 [] trivial [!(decide (((1 + g_309:Nat):Int) = (3 : Int)))] trivial ?_
    refine Zr 0 _ ((((1 + g_309:Nat):Int) = (3 : Int)) ∨ (((1 + g_309:Nat):Int) = (4 : Int))) ((iffOr iffDec iffDec)) (fun hk34 => ?_) (fun hk34 => ?_)
    ·obtain ⟨g_412,hg_413⟩ : ∃ x,nextV l_385 n = x := ⟨_,rfl⟩
     obtain ⟨l_414,hl_415⟩ : ∃ x,l_385.drop 1 = x := ⟨_,rfl⟩
     have hs_416 : Small l_414 := hl_415 ▸ hs_387.drop 1
     have hv_417 := nextV_lt l_385 (n := n) (by omega)
     rw [hg_413] at hv_417
     refine Zl 3 E17 (by have h := next_any w bq l_385 sa_378 sc_379 n w_389 hE433 hcs_381 hs_387 (by omega) hks_382 (hM434.blk 6 rfl); rw [hg_413,hl_415] at h; exact h) ?_
     rintro _ w_406 ⟨rfl,sa_407,sc_408,hC_409,hcs_410,hks_411⟩
     have hE449 := hM434.toExt hE433 hC_409 6 rfl
     have hM450 := hM434.set 6 rfl hC_409
     refine Zt 1 0 4 (iv (g_412:Int)) rfl hE449 hM450 ?_
     intro w_418 hE452 hM453
     refine Zh 5 [.c 5 6,.a 0 0 5] hM453 trivial ?_
     obtain ⟨cc,hcc⟩ : ∃ x,(⟨((1 + g_309:Nat):Int),(g_321:Int),(g_383:Int),0,(g_412:Int)⟩ : PCheck) = x := ⟨_,rfl⟩
     refine Zd 0 1 [iv ((1 + g_309:Nat):Int),iv (g_321:Int),iv (g_383:Int),iv 0,iv (g_412:Int)] 51 hE452 hM453 ?_
     intro bf w_419 hE455 hM456
     refine Zp 0 2 0 1 40 ((cs ++ [cc]).length) ((cs ++ [cc]).flatMap checkC) rfl rfl ⟨by omega,by omega⟩ (fun _ _ h => by subst hcc; simpa [checkC] using h) hE455 hM456 ?_
     intro kv2 kc2 w_420 hE457 hM458
     refine Zt 1 6 6 (.slice kv2 ((cs ++ [cc]).length) kc2) rfl hE457 hM458 ?_
     intro w_421 hE460 hM461
     refine Zs 7 [] [I64 (((m:Int) - (cs.length:Int)) - (1 : Int))] (A1 (i64 (by omega))) ?_
     have hM462 := hM461.pickT 9 [2,3,4,5,6,7,8] (by kernel_rfl)
     refine Zw 0 17 (iv (((m:Int) - (cs.length:Int)) - (1 : Int))) (iv ((m:Int) - (((cs ++ [cc]).length:Nat):Int))) (by rw [show ((((m:Int) - (cs.length:Int)) - (1 : Int)) : Int) = ((m:Int) - (((cs ++ [cc]).length:Nat):Int)) from by rw [List.length_append]; show _ = (m:Int) - ((cs.length + 1:Nat):Int); omega]) ?_
     have h1 : netCheck1 n ds.length K = (cc,l_414) := by subst hcc; subst hg_310; subst hl_312; subst hg_322; subst hl_324; subst hg_384; subst hl_386; subst hg_413; subst hl_415; unfold netCheck1; simp only; rw [if_neg (by omega),if_pos (by omega)]
     have hx : (cc :: (netChecks (m - (cs.length + 1)) n ds.length (l_414)).1) = (netChecks (m - cs.length) n ds.length K).1 ∧ (netChecks (m - (cs.length + 1)) n ds.length (l_414)).2 = (netChecks (m - cs.length) n ds.length K).2 := by rw [hfx4,netChecks_step h1]; exact ⟨rfl,rfl⟩
     subst hKT
     exact ZA 0 (netL4 w b0 bq bp n kk pr cp acc av cv la lv lc ds xv xc m R2) (cs,K,s4,e4,kv,kc) ((cs ++ [cc]),l_414,sa_407,sc_408,kv2,kc2) [2,3,4,6,17] (⟨hE460,hM462,hcs_410,hs_416,hks_411,by show (cs ++ [cc]).length ≤ m; rw [List.length_append]; exact hlt4,by show ((cs ++ [cc]) ++ (netChecks (m - (cs ++ [cc]).length) n ds.length _).1,(netChecks (m - (cs ++ [cc]).length) n ds.length _).2) = R2; rw [List.length_append,List.append_assoc,show [cc].length = 1 from rfl,List.singleton_append,hx.1,hx.2]; exact hacc4⟩) (by show m - (cs ++ [cc]).length < m - cs.length; rw [List.length_append]; show m - (cs.length + 1) < _; omega)
    refine Zh 5 [.c 5 6,.a 0 0 5] hM434 trivial ?_
    obtain ⟨cc,hcc⟩ : ∃ x,(⟨((1 + g_309:Nat):Int),(g_321:Int),(g_383:Int),0,0⟩ : PCheck) = x := ⟨_,rfl⟩
    refine Zd 0 1 [iv ((1 + g_309:Nat):Int),iv (g_321:Int),iv (g_383:Int),iv 0,iv 0] 51 hE433 hM434 ?_
    intro bf w_422 hE464 hM465
    refine Zp 0 2 0 1 40 ((cs ++ [cc]).length) ((cs ++ [cc]).flatMap checkC) rfl rfl ⟨by omega,by omega⟩ (fun _ _ h => by subst hcc; simpa [checkC] using h) hE464 hM465 ?_
    intro kv2 kc2 w_423 hE466 hM467
    refine Zt 1 6 6 (.slice kv2 ((cs ++ [cc]).length) kc2) rfl hE466 hM467 ?_
    intro w_424 hE469 hM470
    refine Zs 7 [] [I64 (((m:Int) - (cs.length:Int)) - (1 : Int))] (A1 (i64 (by omega))) ?_
    have hM471 := hM470.pickT 9 [2,3,4,5,6,7,8] (by kernel_rfl)
    refine Zw 0 17 (iv (((m:Int) - (cs.length:Int)) - (1 : Int))) (iv ((m:Int) - (((cs ++ [cc]).length:Nat):Int))) (by rw [show ((((m:Int) - (cs.length:Int)) - (1 : Int)) : Int) = ((m:Int) - (((cs ++ [cc]).length:Nat):Int)) from by rw [List.length_append]; show _ = (m:Int) - ((cs.length + 1:Nat):Int); omega]) ?_
    have h1 : netCheck1 n ds.length K = (cc,l_385) := by subst hcc; subst hg_310; subst hl_312; subst hg_322; subst hl_324; subst hg_384; subst hl_386; unfold netCheck1; simp only; rw [if_neg (by omega),if_neg (by omega)]
    have hx : (cc :: (netChecks (m - (cs.length + 1)) n ds.length (l_385)).1) = (netChecks (m - cs.length) n ds.length K).1 ∧ (netChecks (m - (cs.length + 1)) n ds.length (l_385)).2 = (netChecks (m - cs.length) n ds.length K).2 := by rw [hfx4,netChecks_step h1]; exact ⟨rfl,rfl⟩
    subst hKT
    exact ZA 0 (netL4 w b0 bq bp n kk pr cp acc av cv la lv lc ds xv xc m R2) (cs,K,s4,e4,kv,kc) ((cs ++ [cc]),l_385,sa_378,sc_379,kv2,kc2) [2,3,4,6,17] (⟨hE469,hM471,hcs_381,hs_387,hks_382,by show (cs ++ [cc]).length ≤ m; rw [List.length_append]; exact hlt4,by show ((cs ++ [cc]) ++ (netChecks (m - (cs ++ [cc]).length) n ds.length _).1,(netChecks (m - (cs ++ [cc]).length) n ds.length _).2) = R2; rw [List.length_append,List.append_assoc,show [cc].length = 1 from rfl,List.singleton_append,hx.1,hx.2]; exact hacc4⟩) (by show m - (cs ++ [cc]).length < m - cs.length; rw [List.length_append]; show m - (cs.length + 1) < _; omega)
   refine Wa 51 [iv 0,iv 0,iv 0,iv 0,iv 0] hE376 hM377 ?_
   intro bc w_425 hx475 hE473 hM474
   refine ⟨(hM474.blk 5 rfl),?_⟩
   obtain ⟨g_432,hg_433⟩ : ∃ x,nextV l_311 n = x := ⟨_,rfl⟩
   obtain ⟨l_434,hl_435⟩ : ∃ x,l_311.drop 1 = x := ⟨_,rfl⟩
   have hs_436 : Small l_434 := hl_435 ▸ hs_313.drop 1
   have hv_437 := nextV_lt l_311 (n := n) (by omega)
   rw [hg_433] at hv_437
   refine d1 5 ?_
   refine Wl E17 (by have h := next_any w bq l_311 sa_304 sc_305 n w_425 hE473 hcs_307 hs_313 (by omega) hks_308 (hM474.blk 6 rfl); rw [hg_433,hl_435] at h; exact h) ?_
   rintro _ w_426 ⟨rfl,sa_427,sc_428,hC_429,hcs_430,hks_431⟩
   have hE476 := hM474.toExt hE473 hC_429 6 rfl
   have hM477 := hM474.set 6 rfl hC_429
   refine ⟨(hM477.blk 5 rfl),?_⟩
   obtain ⟨g_444,hg_445⟩ : ∃ x,nextV l_434 ds.length = x := ⟨_,rfl⟩
   obtain ⟨l_446,hl_447⟩ : ∃ x,l_434.drop 1 = x := ⟨_,rfl⟩
   have hs_448 : Small l_446 := hl_447 ▸ hs_436.drop 1
   have hv_449 := nextV_lt l_434 (n := ds.length) (by omega)
   rw [hg_445] at hv_449
   refine d1 10 ?_
   refine Wl E17 (by have h := next_any w bq l_434 sa_427 sc_428 ds.length w_426 hE476 hcs_430 hs_436 (by omega) hks_431 (hM477.blk 6 rfl); rw [hg_445,hl_447] at h; exact h) ?_
   rintro _ w_438 ⟨rfl,sa_439,sc_440,hC_441,hcs_442,hks_443⟩
   have hE478 := hM477.toExt hE476 hC_441 6 rfl
   have hM479 := hM477.set 6 rfl hC_441
   refine ⟨(hM479.blk 5 rfl),?_⟩
   refine dx0 [11] [] 1 (lb 14 8191) ((hM479.blk 5 rfl)) ?_
   refine d1 13 ?_
   refine Wt 0 0 (.agg #[iv ((1 + g_309:Nat):Int),iv (g_432:Int),iv (g_444:Int),iv 0,iv 0]) rfl hE478 hM479 ?_
   intro w_450 hE481 hM482
   refine ⟨(hM482.blk 5 rfl),?_⟩
   refine ZD ?_
   refine Zh 7 [.c 0 0] hM482 trivial ?_
   refine Zq 0 (((1 + g_309:Nat):Int) = (2 : Int)) (fun hkd => ?_) (fun hkd => ?_)
   ·obtain ⟨g_457,hg_458⟩ : ∃ x,nextV l_446 20 = x := ⟨_,rfl⟩
    obtain ⟨l_459,hl_460⟩ : ∃ x,l_446.drop 1 = x := ⟨_,rfl⟩
    have hs_461 : Small l_459 := hl_460 ▸ hs_448.drop 1
    have hv_462 := nextV_lt l_446 (n := 20) (by omega)
    rw [hg_458] at hv_462
    refine Zl 2 E17 (by have h := next_any w bq l_446 sa_439 sc_440 20 w_450 hE481 hcs_442 hs_448 (by omega) hks_443 (hM482.blk 6 rfl); rw [hg_458,hl_460] at h; exact h) ?_
    rintro _ w_451 ⟨rfl,sa_452,sc_453,hC_454,hcs_455,hks_456⟩
    have hE483 := hM482.toExt hE481 hC_454 6 rfl
    have hM484 := hM482.set 6 rfl hC_454
    refine Zt 1 0 3 (iv (g_457:Int)) rfl hE483 hM484 ?_
    intro w_463 hE486 hM487
    refine Zf 13 [.c 0 0,.gn 0,.y,.y,.gc 0 0 0,.gn 0,.gn 0,.y] hM487 [] trivial [!(decide (((1 + g_309:Nat):Int) = (3 : Int)))] trivial ?_
    refine Zr 0 _ ((((1 + g_309:Nat):Int) = (3 : Int)) ∨ (((1 + g_309:Nat):Int) = (4 : Int))) ((iffOr iffDec iffDec)) (fun hk34 => ?_) (fun hk34 => ?_)
    ·exfalso; omega
    refine Zh 5 [.c 5 6,.a 0 0 5] hM487 trivial ?_
    obtain ⟨cc,hcc⟩ : ∃ x,(⟨((1 + g_309:Nat):Int),(g_432:Int),(g_444:Int),(g_457:Int),0⟩ : PCheck) = x := ⟨_,rfl⟩
    refine Zd 0 1 [iv ((1 + g_309:Nat):Int),iv (g_432:Int),iv (g_444:Int),iv (g_457:Int),iv 0] 51 hE486 hM487 ?_
    intro bf w_464 hE489 hM490
    refine Zp 0 2 0 1 40 ((cs ++ [cc]).length) ((cs ++ [cc]).flatMap checkC) rfl rfl ⟨by omega,by omega⟩ (fun _ _ h => by subst hcc; simpa [checkC] using h) hE489 hM490 ?_
    intro kv2 kc2 w_465 hE491 hM492
    refine Zt 1 6 6 (.slice kv2 ((cs ++ [cc]).length) kc2) rfl hE491 hM492 ?_
    intro w_466 hE494 hM495
    refine Zs 7 [] [I64 (((m:Int) - (cs.length:Int)) - (1 : Int))] (A1 (i64 (by omega))) ?_
    have hM496 := hM495.pickT 9 [2,3,4,5,6,7,8] (by kernel_rfl)
    refine Zw 0 17 (iv (((m:Int) - (cs.length:Int)) - (1 : Int))) (iv ((m:Int) - (((cs ++ [cc]).length:Nat):Int))) (by rw [show ((((m:Int) - (cs.length:Int)) - (1 : Int)) : Int) = ((m:Int) - (((cs ++ [cc]).length:Nat):Int)) from by rw [List.length_append]; show _ = (m:Int) - ((cs.length + 1:Nat):Int); omega]) ?_
    have h1 : netCheck1 n ds.length K = (cc,l_459) := by subst hcc; subst hg_310; subst hl_312; subst hg_433; subst hl_435; subst hg_445; subst hl_447; subst hg_458; subst hl_460; unfold netCheck1; simp only; rw [if_pos (by omega)]
    have hx : (cc :: (netChecks (m - (cs.length + 1)) n ds.length (l_459)).1) = (netChecks (m - cs.length) n ds.length K).1 ∧ (netChecks (m - (cs.length + 1)) n ds.length (l_459)).2 = (netChecks (m - cs.length) n ds.length K).2 := by rw [hfx4,netChecks_step h1]; exact ⟨rfl,rfl⟩
    subst hKT
    exact ZA 0 (netL4 w b0 bq bp n kk pr cp acc av cv la lv lc ds xv xc m R2) (cs,K,s4,e4,kv,kc) ((cs ++ [cc]),l_459,sa_452,sc_453,kv2,kc2) [2,3,4,6,17] (⟨hE494,hM496,hcs_455,hs_461,hks_456,by show (cs ++ [cc]).length ≤ m; rw [List.length_append]; exact hlt4,by show ((cs ++ [cc]) ++ (netChecks (m - (cs ++ [cc]).length) n ds.length _).1,(netChecks (m - (cs ++ [cc]).length) n ds.length _).2) = R2; rw [List.length_append,List.append_assoc,show [cc].length = 1 from rfl,List.singleton_append,hx.1,hx.2]; exact hacc4⟩) (by show m - (cs ++ [cc]).length < m - cs.length; rw [List.length_append]; show m - (cs.length + 1) < _; omega)
   refine Zf 13 [.c 0 0,.gn 0,.y,.y,.gc 0 0 0,.gn 0,.gn 0,.y] hM482 [] trivial [!(decide (((1 + g_309:Nat):Int) = (3 : Int)))] trivial ?_
   refine Zr 0 _ ((((1 + g_309:Nat):Int) = (3 : Int)) ∨ (((1 + g_309:Nat):Int) = (4 : Int))) ((iffOr iffDec iffDec)) (fun hk34 => ?_) (fun hk34 => ?_)
   ·obtain ⟨g_473,hg_474⟩ : ∃ x,nextV l_446 n = x := ⟨_,rfl⟩
    obtain ⟨l_475,hl_476⟩ : ∃ x,l_446.drop 1 = x := ⟨_,rfl⟩
    have hs_477 : Small l_475 := hl_476 ▸ hs_448.drop 1
    have hv_478 := nextV_lt l_446 (n := n) (by omega)
    rw [hg_474] at hv_478
    refine Zl 3 E17 (by have h := next_any w bq l_446 sa_439 sc_440 n w_450 hE481 hcs_442 hs_448 (by omega) hks_443 (hM482.blk 6 rfl); rw [hg_474,hl_476] at h; exact h) ?_
    rintro _ w_467 ⟨rfl,sa_468,sc_469,hC_470,hcs_471,hks_472⟩
    have hE497 := hM482.toExt hE481 hC_470 6 rfl
    have hM498 := hM482.set 6 rfl hC_470
    refine Zt 1 0 4 (iv (g_473:Int)) rfl hE497 hM498 ?_
    intro w_479 hE500 hM501
    refine Zh 5 [.c 5 6,.a 0 0 5] hM501 trivial ?_
    obtain ⟨cc,hcc⟩ : ∃ x,(⟨((1 + g_309:Nat):Int),(g_432:Int),(g_444:Int),0,(g_473:Int)⟩ : PCheck) = x := ⟨_,rfl⟩
    refine Zd 0 1 [iv ((1 + g_309:Nat):Int),iv (g_432:Int),iv (g_444:Int),iv 0,iv (g_473:Int)] 51 hE500 hM501 ?_
    intro bf w_480 hE503 hM504
    refine Zp 0 2 0 1 40 ((cs ++ [cc]).length) ((cs ++ [cc]).flatMap checkC) rfl rfl ⟨by omega,by omega⟩ (fun _ _ h => by subst hcc; simpa [checkC] using h) hE503 hM504 ?_
    intro kv2 kc2 w_481 hE505 hM506
    refine Zt 1 6 6 (.slice kv2 ((cs ++ [cc]).length) kc2) rfl hE505 hM506 ?_
    intro w_482 hE508 hM509
    refine Zs 7 [] [I64 (((m:Int) - (cs.length:Int)) - (1 : Int))] (A1 (i64 (by omega))) ?_
    have hM510 := hM509.pickT 9 [2,3,4,5,6,7,8] (by kernel_rfl)
    refine Zw 0 17 (iv (((m:Int) - (cs.length:Int)) - (1 : Int))) (iv ((m:Int) - (((cs ++ [cc]).length:Nat):Int))) (by rw [show ((((m:Int) - (cs.length:Int)) - (1 : Int)) : Int) = ((m:Int) - (((cs ++ [cc]).length:Nat):Int)) from by rw [List.length_append]; show _ = (m:Int) - ((cs.length + 1:Nat):Int); omega]) ?_
    have h1 : netCheck1 n ds.length K = (cc,l_475) := by subst hcc; subst hg_310; subst hl_312; subst hg_433; subst hl_435; subst hg_445; subst hl_447; subst hg_474; subst hl_476; unfold netCheck1; simp only; rw [if_neg (by omega),if_pos (by omega)]
    have hx : (cc :: (netChecks (m - (cs.length + 1)) n ds.length (l_475)).1) = (netChecks (m - cs.length) n ds.length K).1 ∧ (netChecks (m - (cs.length + 1)) n ds.length (l_475)).2 = (netChecks (m - cs.length) n ds.length K).2 := by rw [hfx4,netChecks_step h1]; exact ⟨rfl,rfl⟩
    subst hKT
    exact ZA 0 (netL4 w b0 bq bp n kk pr cp acc av cv la lv lc ds xv xc m R2) (cs,K,s4,e4,kv,kc) ((cs ++ [cc]),l_475,sa_468,sc_469,kv2,kc2) [2,3,4,6,17] (⟨hE508,hM510,hcs_471,hs_477,hks_472,by show (cs ++ [cc]).length ≤ m; rw [List.length_append]; exact hlt4,by show ((cs ++ [cc]) ++ (netChecks (m - (cs ++ [cc]).length) n ds.length _).1,(netChecks (m - (cs ++ [cc]).length) n ds.length _).2) = R2; rw [List.length_append,List.append_assoc,show [cc].length = 1 from rfl,List.singleton_append,hx.1,hx.2]; exact hacc4⟩) (by show m - (cs ++ [cc]).length < m - cs.length; rw [List.length_append]; show m - (cs.length + 1) < _; omega)
   refine Zh 5 [.c 5 6,.a 0 0 5] hM482 trivial ?_
   obtain ⟨cc,hcc⟩ : ∃ x,(⟨((1 + g_309:Nat):Int),(g_432:Int),(g_444:Int),0,0⟩ : PCheck) = x := ⟨_,rfl⟩
   refine Zd 0 1 [iv ((1 + g_309:Nat):Int),iv (g_432:Int),iv (g_444:Int),iv 0,iv 0] 51 hE481 hM482 ?_
   intro bf w_483 hE512 hM513
   refine Zp 0 2 0 1 40 ((cs ++ [cc]).length) ((cs ++ [cc]).flatMap checkC) rfl rfl ⟨by omega,by omega⟩ (fun _ _ h => by subst hcc; simpa [checkC] using h) hE512 hM513 ?_
   intro kv2 kc2 w_484 hE514 hM515
   refine Zt 1 6 6 (.slice kv2 ((cs ++ [cc]).length) kc2) rfl hE514 hM515 ?_
   intro w_485 hE517 hM518
   refine Zs 7 [] [I64 (((m:Int) - (cs.length:Int)) - (1 : Int))] (A1 (i64 (by omega))) ?_
   have hM519 := hM518.pickT 9 [2,3,4,5,6,7,8] (by kernel_rfl)
   refine Zw 0 17 (iv (((m:Int) - (cs.length:Int)) - (1 : Int))) (iv ((m:Int) - (((cs ++ [cc]).length:Nat):Int))) (by rw [show ((((m:Int) - (cs.length:Int)) - (1 : Int)) : Int) = ((m:Int) - (((cs ++ [cc]).length:Nat):Int)) from by rw [List.length_append]; show _ = (m:Int) - ((cs.length + 1:Nat):Int); omega]) ?_
   have h1 : netCheck1 n ds.length K = (cc,l_446) := by subst hcc; subst hg_310; subst hl_312; subst hg_433; subst hl_435; subst hg_445; subst hl_447; unfold netCheck1; simp only; rw [if_neg (by omega),if_neg (by omega)]
   have hx : (cc :: (netChecks (m - (cs.length + 1)) n ds.length (l_446)).1) = (netChecks (m - cs.length) n ds.length K).1 ∧ (netChecks (m - (cs.length + 1)) n ds.length (l_446)).2 = (netChecks (m - cs.length) n ds.length K).2 := by rw [hfx4,netChecks_step h1]; exact ⟨rfl,rfl⟩
   subst hKT
   exact ZA 0 (netL4 w b0 bq bp n kk pr cp acc av cv la lv lc ds xv xc m R2) (cs,K,s4,e4,kv,kc) ((cs ++ [cc]),l_446,sa_439,sc_440,kv2,kc2) [2,3,4,6,17] (⟨hE517,hM519,hcs_442,hs_448,hks_443,by show (cs ++ [cc]).length ≤ m; rw [List.length_append]; exact hlt4,by show ((cs ++ [cc]) ++ (netChecks (m - (cs ++ [cc]).length) n ds.length _).1,(netChecks (m - (cs ++ [cc]).length) n ds.length _).2) = R2; rw [List.length_append,List.append_assoc,show [cc].length = 1 from rfl,List.singleton_append,hx.1,hx.2]; exact hacc4⟩) (by show m - (cs ++ [cc]).length < m - cs.length; rw [List.length_append]; show m - (cs.length + 1) < _; omega)
  refine Wa 51 [iv 0,iv 0,iv 0,iv 0,iv 0] hE374 hM375 ?_
  intro bc w_486 hx523 hE521 hM522
  refine ⟨(hM522.blk 5 rfl),?_⟩
  obtain ⟨g_493,hg_494⟩ : ∃ x,nextV K 4 = x := ⟨_,rfl⟩
  obtain ⟨l_495,hl_496⟩ : ∃ x,K.drop 1 = x := ⟨_,rfl⟩
  have hs_497 : Small l_495 := hl_496 ▸ hs4.drop 1
  have hv_498 := nextV_lt K (n := 4) (by omega)
  rw [hg_494] at hv_498
  refine d1 1 ?_
  refine Wl E17 (by have h := next_any w bq K s4 e4 4 w_486 hE521 hc4 hs4 (by omega) hk4 (hM522.blk 6 rfl); rw [hg_494,hl_496] at h; exact h) ?_
  rintro _ w_487 ⟨rfl,sa_488,sc_489,hC_490,hcs_491,hks_492⟩
  have hE524 := hM522.toExt hE521 hC_490 6 rfl
  have hM525 := hM522.set 6 rfl hC_490
  refine ⟨(hM525.blk 5 rfl),?_⟩
  refine dx [2] [] 4 (lb 14 5087) (fun w' => [I64 ((1 + g_493:Nat):Int)]) (fun w' hS => (A1 (i64 (by omega)))) ((hM525.blk 5 rfl)) ?_
  obtain ⟨g_505,hg_506⟩ : ∃ x,nextV l_495 n = x := ⟨_,rfl⟩
  obtain ⟨l_507,hl_508⟩ : ∃ x,l_495.drop 1 = x := ⟨_,rfl⟩
  have hs_509 : Small l_507 := hl_508 ▸ hs_497.drop 1
  have hv_510 := nextV_lt l_495 (n := n) (by omega)
  rw [hg_506] at hv_510
  refine d1 5 ?_
  refine Wl E17 (by have h := next_any w bq l_495 sa_488 sc_489 n w_487 hE524 hcs_491 hs_497 (by omega) hks_492 (hM525.blk 6 rfl); rw [hg_506,hl_508] at h; exact h) ?_
  rintro _ w_499 ⟨rfl,sa_500,sc_501,hC_502,hcs_503,hks_504⟩
  have hE526 := hM525.toExt hE524 hC_502 6 rfl
  have hM527 := hM525.set 6 rfl hC_502
  refine ⟨(hM527.blk 5 rfl),?_⟩
  obtain ⟨g_517,hg_518⟩ : ∃ x,nextV l_507 ds.length = x := ⟨_,rfl⟩
  obtain ⟨l_519,hl_520⟩ : ∃ x,l_507.drop 1 = x := ⟨_,rfl⟩
  have hs_521 : Small l_519 := hl_520 ▸ hs_509.drop 1
  have hv_522 := nextV_lt l_507 (n := ds.length) (by omega)
  rw [hg_518] at hv_522
  refine d1 10 ?_
  refine Wl E17 (by have h := next_any w bq l_507 sa_500 sc_501 ds.length w_499 hE526 hcs_503 hs_509 (by omega) hks_504 (hM527.blk 6 rfl); rw [hg_518,hl_520] at h; exact h) ?_
  rintro _ w_511 ⟨rfl,sa_512,sc_513,hC_514,hcs_515,hks_516⟩
  have hE528 := hM527.toExt hE526 hC_514 6 rfl
  have hM529 := hM527.set 6 rfl hC_514
  refine ⟨(hM529.blk 5 rfl),?_⟩
  refine dx0 [11] [] 1 (lb 14 8191) ((hM529.blk 5 rfl)) ?_
  refine d1 13 ?_
  refine Wt 0 0 (.agg #[iv ((1 + g_493:Nat):Int),iv (g_505:Int),iv (g_517:Int),iv 0,iv 0]) rfl hE528 hM529 ?_
  intro w_523 hE531 hM532
  refine ⟨(hM532.blk 5 rfl),?_⟩
  refine ZD ?_
  refine Zh 7 [.c 0 0] hM532 trivial ?_
  refine Zq 0 (((1 + g_493:Nat):Int) = (2 : Int)) (fun hkd => ?_) (fun hkd => ?_)
  ·obtain ⟨g_530,hg_531⟩ : ∃ x,nextV l_519 20 = x := ⟨_,rfl⟩
   obtain ⟨l_532,hl_533⟩ : ∃ x,l_519.drop 1 = x := ⟨_,rfl⟩
   have hs_534 : Small l_532 := hl_533 ▸ hs_521.drop 1
   have hv_535 := nextV_lt l_519 (n := 20) (by omega)
   rw [hg_531] at hv_535
   refine Zl 2 E17 (by have h := next_any w bq l_519 sa_512 sc_513 20 w_523 hE531 hcs_515 hs_521 (by omega) hks_516 (hM532.blk 6 rfl); rw [hg_531,hl_533] at h; exact h) ?_
   rintro _ w_524 ⟨rfl,sa_525,sc_526,hC_527,hcs_528,hks_529⟩
   have hE533 := hM532.toExt hE531 hC_527 6 rfl
   have hM534 := hM532.set 6 rfl hC_527
   refine Zt 1 0 3 (iv (g_530:Int)) rfl hE533 hM534 ?_
   intro w_536 hE536 hM537
   refine Zf 13 [.c 0 0,.gn 0,.y,.y,.gc 0 0 0,.gn 0,.gn 0,.y] hM537 [] trivial [!(decide (((1 + g_493:Nat):Int) = (3 : Int)))] trivial ?_
   refine Zr 0 _ ((((1 + g_493:Nat):Int) = (3 : Int)) ∨ (((1 + g_493:Nat):Int) = (4 : Int))) ((iffOr iffDec iffDec)) (fun hk34 => ?_) (fun hk34 => ?_)
   ·exfalso; omega
   refine Zh 5 [.c 5 6,.a 0 0 5] hM537 trivial ?_
   obtain ⟨cc,hcc⟩ : ∃ x,(⟨((1 + g_493:Nat):Int),(g_505:Int),(g_517:Int),(g_530:Int),0⟩ : PCheck) = x := ⟨_,rfl⟩
   refine Zd 0 1 [iv ((1 + g_493:Nat):Int),iv (g_505:Int),iv (g_517:Int),iv (g_530:Int),iv 0] 51 hE536 hM537 ?_
   intro bf w_537 hE539 hM540
   refine Zp 0 2 0 1 40 ((cs ++ [cc]).length) ((cs ++ [cc]).flatMap checkC) rfl rfl ⟨by omega,by omega⟩ (fun _ _ h => by subst hcc; simpa [checkC] using h) hE539 hM540 ?_
   intro kv2 kc2 w_538 hE541 hM542
   refine Zt 1 6 6 (.slice kv2 ((cs ++ [cc]).length) kc2) rfl hE541 hM542 ?_
   intro w_539 hE544 hM545
   refine Zs 7 [] [I64 (((m:Int) - (cs.length:Int)) - (1 : Int))] (A1 (i64 (by omega))) ?_
   have hM546 := hM545.pickT 9 [2,3,4,5,6,7,8] (by kernel_rfl)
   refine Zw 0 17 (iv (((m:Int) - (cs.length:Int)) - (1 : Int))) (iv ((m:Int) - (((cs ++ [cc]).length:Nat):Int))) (by rw [show ((((m:Int) - (cs.length:Int)) - (1 : Int)) : Int) = ((m:Int) - (((cs ++ [cc]).length:Nat):Int)) from by rw [List.length_append]; show _ = (m:Int) - ((cs.length + 1:Nat):Int); omega]) ?_
   have h1 : netCheck1 n ds.length K = (cc,l_532) := by subst hcc; subst hg_494; subst hl_496; subst hg_506; subst hl_508; subst hg_518; subst hl_520; subst hg_531; subst hl_533; unfold netCheck1; simp only; rw [if_pos (by omega)]
   have hx : (cc :: (netChecks (m - (cs.length + 1)) n ds.length (l_532)).1) = (netChecks (m - cs.length) n ds.length K).1 ∧ (netChecks (m - (cs.length + 1)) n ds.length (l_532)).2 = (netChecks (m - cs.length) n ds.length K).2 := by rw [hfx4,netChecks_step h1]; exact ⟨rfl,rfl⟩
   subst hKT
   exact ZA 0 (netL4 w b0 bq bp n kk pr cp acc av cv la lv lc ds xv xc m R2) (cs,K,s4,e4,kv,kc) ((cs ++ [cc]),l_532,sa_525,sc_526,kv2,kc2) [2,3,4,6,17] (⟨hE544,hM546,hcs_528,hs_534,hks_529,by show (cs ++ [cc]).length ≤ m; rw [List.length_append]; exact hlt4,by show ((cs ++ [cc]) ++ (netChecks (m - (cs ++ [cc]).length) n ds.length _).1,(netChecks (m - (cs ++ [cc]).length) n ds.length _).2) = R2; rw [List.length_append,List.append_assoc,show [cc].length = 1 from rfl,List.singleton_append,hx.1,hx.2]; exact hacc4⟩) (by show m - (cs ++ [cc]).length < m - cs.length; rw [List.length_append]; show m - (cs.length + 1) < _; omega)
  refine Zf 13 [.c 0 0,.gn 0,.y,.y,.gc 0 0 0,.gn 0,.gn 0,.y] hM532 [] trivial [!(decide (((1 + g_493:Nat):Int) = (3 : Int)))] trivial ?_
  refine Zr 0 _ ((((1 + g_493:Nat):Int) = (3 : Int)) ∨ (((1 + g_493:Nat):Int) = (4 : Int))) ((iffOr iffDec iffDec)) (fun hk34 => ?_) (fun hk34 => ?_)
  ·obtain ⟨g_546,hg_547⟩ : ∃ x,nextV l_519 n = x := ⟨_,rfl⟩
   obtain ⟨l_548,hl_549⟩ : ∃ x,l_519.drop 1 = x := ⟨_,rfl⟩
   have hs_550 : Small l_548 := hl_549 ▸ hs_521.drop 1
   have hv_551 := nextV_lt l_519 (n := n) (by omega)
   rw [hg_547] at hv_551
   refine Zl 3 E17 (by have h := next_any w bq l_519 sa_512 sc_513 n w_523 hE531 hcs_515 hs_521 (by omega) hks_516 (hM532.blk 6 rfl); rw [hg_547,hl_549] at h; exact h) ?_
   rintro _ w_540 ⟨rfl,sa_541,sc_542,hC_543,hcs_544,hks_545⟩
   have hE547 := hM532.toExt hE531 hC_543 6 rfl
   have hM548 := hM532.set 6 rfl hC_543
   refine Zt 1 0 4 (iv (g_546:Int)) rfl hE547 hM548 ?_
   intro w_552 hE550 hM551
   refine Zh 5 [.c 5 6,.a 0 0 5] hM551 trivial ?_
   obtain ⟨cc,hcc⟩ : ∃ x,(⟨((1 + g_493:Nat):Int),(g_505:Int),(g_517:Int),0,(g_546:Int)⟩ : PCheck) = x := ⟨_,rfl⟩
   refine Zd 0 1 [iv ((1 + g_493:Nat):Int),iv (g_505:Int),iv (g_517:Int),iv 0,iv (g_546:Int)] 51 hE550 hM551 ?_
   intro bf w_553 hE553 hM554
   refine Zp 0 2 0 1 40 ((cs ++ [cc]).length) ((cs ++ [cc]).flatMap checkC) rfl rfl ⟨by omega,by omega⟩ (fun _ _ h => by subst hcc; simpa [checkC] using h) hE553 hM554 ?_
   intro kv2 kc2 w_554 hE555 hM556
   refine Zt 1 6 6 (.slice kv2 ((cs ++ [cc]).length) kc2) rfl hE555 hM556 ?_
   intro w_555 hE558 hM559
   refine Zs 7 [] [I64 (((m:Int) - (cs.length:Int)) - (1 : Int))] (A1 (i64 (by omega))) ?_
   have hM560 := hM559.pickT 9 [2,3,4,5,6,7,8] (by kernel_rfl)
   refine Zw 0 17 (iv (((m:Int) - (cs.length:Int)) - (1 : Int))) (iv ((m:Int) - (((cs ++ [cc]).length:Nat):Int))) (by rw [show ((((m:Int) - (cs.length:Int)) - (1 : Int)) : Int) = ((m:Int) - (((cs ++ [cc]).length:Nat):Int)) from by rw [List.length_append]; show _ = (m:Int) - ((cs.length + 1:Nat):Int); omega]) ?_
   have h1 : netCheck1 n ds.length K = (cc,l_548) := by subst hcc; subst hg_494; subst hl_496; subst hg_506; subst hl_508; subst hg_518; subst hl_520; subst hg_547; subst hl_549; unfold netCheck1; simp only; rw [if_neg (by omega),if_pos (by omega)]
   have hx : (cc :: (netChecks (m - (cs.length + 1)) n ds.length (l_548)).1) = (netChecks (m - cs.length) n ds.length K).1 ∧ (netChecks (m - (cs.length + 1)) n ds.length (l_548)).2 = (netChecks (m - cs.length) n ds.length K).2 := by rw [hfx4,netChecks_step h1]; exact ⟨rfl,rfl⟩
   subst hKT
   exact ZA 0 (netL4 w b0 bq bp n kk pr cp acc av cv la lv lc ds xv xc m R2) (cs,K,s4,e4,kv,kc) ((cs ++ [cc]),l_548,sa_541,sc_542,kv2,kc2) [2,3,4,6,17] (⟨hE558,hM560,hcs_544,hs_550,hks_545,by show (cs ++ [cc]).length ≤ m; rw [List.length_append]; exact hlt4,by show ((cs ++ [cc]) ++ (netChecks (m - (cs ++ [cc]).length) n ds.length _).1,(netChecks (m - (cs ++ [cc]).length) n ds.length _).2) = R2; rw [List.length_append,List.append_assoc,show [cc].length = 1 from rfl,List.singleton_append,hx.1,hx.2]; exact hacc4⟩) (by show m - (cs ++ [cc]).length < m - cs.length; rw [List.length_append]; show m - (cs.length + 1) < _; omega)
  refine Zh 5 [.c 5 6,.a 0 0 5] hM532 trivial ?_
  obtain ⟨cc,hcc⟩ : ∃ x,(⟨((1 + g_493:Nat):Int),(g_505:Int),(g_517:Int),0,0⟩ : PCheck) = x := ⟨_,rfl⟩
  refine Zd 0 1 [iv ((1 + g_493:Nat):Int),iv (g_505:Int),iv (g_517:Int),iv 0,iv 0] 51 hE531 hM532 ?_
  intro bf w_556 hE562 hM563
  refine Zp 0 2 0 1 40 ((cs ++ [cc]).length) ((cs ++ [cc]).flatMap checkC) rfl rfl ⟨by omega,by omega⟩ (fun _ _ h => by subst hcc; simpa [checkC] using h) hE562 hM563 ?_
  intro kv2 kc2 w_557 hE564 hM565
  refine Zt 1 6 6 (.slice kv2 ((cs ++ [cc]).length) kc2) rfl hE564 hM565 ?_
  intro w_558 hE567 hM568
  refine Zs 7 [] [I64 (((m:Int) - (cs.length:Int)) - (1 : Int))] (A1 (i64 (by omega))) ?_
  have hM569 := hM568.pickT 9 [2,3,4,5,6,7,8] (by kernel_rfl)
  refine Zw 0 17 (iv (((m:Int) - (cs.length:Int)) - (1 : Int))) (iv ((m:Int) - (((cs ++ [cc]).length:Nat):Int))) (by rw [show ((((m:Int) - (cs.length:Int)) - (1 : Int)) : Int) = ((m:Int) - (((cs ++ [cc]).length:Nat):Int)) from by rw [List.length_append]; show _ = (m:Int) - ((cs.length + 1:Nat):Int); omega]) ?_
  have h1 : netCheck1 n ds.length K = (cc,l_519) := by subst hcc; subst hg_494; subst hl_496; subst hg_506; subst hl_508; subst hg_518; subst hl_520; unfold netCheck1; simp only; rw [if_neg (by omega),if_neg (by omega)]
  have hx : (cc :: (netChecks (m - (cs.length + 1)) n ds.length (l_519)).1) = (netChecks (m - cs.length) n ds.length K).1 ∧ (netChecks (m - (cs.length + 1)) n ds.length (l_519)).2 = (netChecks (m - cs.length) n ds.length K).2 := by rw [hfx4,netChecks_step h1]; exact ⟨rfl,rfl⟩
  subst hKT
  exact ZA 0 (netL4 w b0 bq bp n kk pr cp acc av cv la lv lc ds xv xc m R2) (cs,K,s4,e4,kv,kc) ((cs ++ [cc]),l_519,sa_512,sc_513,kv2,kc2) [2,3,4,6,17] (⟨hE567,hM569,hcs_515,hs_521,hks_516,by show (cs ++ [cc]).length ≤ m; rw [List.length_append]; exact hlt4,by show ((cs ++ [cc]) ++ (netChecks (m - (cs ++ [cc]).length) n ds.length _).1,(netChecks (m - (cs ++ [cc]).length) n ds.length _).2) = R2; rw [List.length_append,List.append_assoc,show [cc].length = 1 from rfl,List.singleton_append,hx.1,hx.2]; exact hacc4⟩) (by show m - (cs ++ [cc]).length < m - cs.length; rw [List.length_append]; show m - (cs.length + 1) < _; omega)
 have hle5 : cs.length = m := by omega
 rw [hle5,Nat.sub_self] at hacc4
 have hD2 : netD raw = (cs,K) := by rw [hDeq,← hacc4]; simp [netChecks]
 refine Zh 4 [.a 4 0 7] hM4 trivial ?_
 refine Zt 0 6 0 (.agg #[iv pr,iv (cp:Int),iv (min (kk:Int) (la.length:Int)),.slice av acc.length cv,.slice lv la.length lc,.slice xv ds.length xc,.slice kv cs.length kc]) rfl hE4 hM4 ?_
 intro w_559 hE571 hM572
 have hnet : netP raw = ⟨pr,(cp:Int),min (kk:Int) (la.length:Int),acc,la,ds.map (·.d),cs⟩ := by unfold netP; rw [hpr,hcp,hkk,hA,hB,hC2,hD2]
 have hM573 : Hold w_559 w.heap.size ([.row (.slice kv cs.length kc) 51 5 cs.length (cs.flatMap checkC),.row (.slice xv ds.length xc) 49 2 ds.length (ds.flatMap destC),.row (.slice lv la.length lc) 43 3 la.length (la.flatMap linkC),.row (.slice av acc.length cv) 41 2 acc.length (acc.flatMap nodeC),.blk bp ([iv pr,iv (cp:Int),iv (min (kk:Int) (la.length:Int)),.slice av acc.length cv,.slice lv la.length lc,.slice xv ds.length xc,.slice kv cs.length kc]) 29,.blk bq ([.slice s4 K.length e4]) 46,.blk b0 ([iv pr,iv (cp:Int),iv (min (kk:Int) (la.length:Int)),.slice av acc.length cv,.slice lv la.length lc,.slice xv ds.length xc,.slice kv cs.length kc]) 29] ++ origR ds) := hM572
 have hM_560 := hM573.keepTail [3,2,1,0] (by decide) (by simp) rfl
 exact Ze 1 [.agg #[iv pr,iv (cp:Int),iv (min (kk:Int) (la.length:Int)),.slice av acc.length cv,.slice lv la.length lc,.slice xv ds.length xc,.slice kv cs.length kc]] [.agg #[iv pr,iv (cp:Int),iv (min (kk:Int) (la.length:Int)),.slice av acc.length cv,.slice lv la.length lc,.slice xv ds.length xc,.slice kv cs.length kc]] [w_559.cell? ⟨b0,0,none⟩ = some (iv pr),w_559.cell? ⟨b0,1,none⟩ = some (iv (cp:Int)),w_559.cell? ⟨b0,2,none⟩ = some (iv (min (kk:Int) (la.length:Int))),w_559.cell? ⟨b0,3,none⟩ = some (.slice av acc.length cv),w_559.cell? ⟨b0,4,none⟩ = some (.slice lv la.length lc),w_559.cell? ⟨b0,5,none⟩ = some (.slice xv ds.length xc),w_559.cell? ⟨b0,6,none⟩ = some (.slice kv cs.length kc)] (AC (cell_of (hM573.blk 6 rfl) rfl) (AC (cell_of (hM573.blk 6 rfl) rfl) (AC (cell_of (hM573.blk 6 rfl) rfl) (AC (cell_of (hM573.blk 6 rfl) rfl) (AC (cell_of (hM573.blk 6 rfl) rfl) (AC (cell_of (hM573.blk 6 rfl) rfl) (A1 (cell_of (hM573.blk 6 rfl) rfl)))))))) (v := .agg #[iv pr,iv (cp:Int),iv (min (kk:Int) (la.length:Int)),.slice av acc.length cv,.slice lv la.length lc,.slice xv ds.length xc,.slice kv cs.length kc]) rfl (by rw [hnet]; exact ⟨⟨av,cv,lv,lc,xv,xc,kv,kc,ds⟩,by simp only [List.length_map],hE571,⟨hM_560,rfl⟩⟩)

end Go.Proofs.YtcbclephakfemaaGreatRRRDoor
