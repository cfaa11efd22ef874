/-
  PLAN: the second half of the statements' Net.
-/
import Derived.Test.YtjhgghpeapmgdaaGreatDoorMg2
import Derived.Test.YtjhgghpeapmgdaaGreatDoorPlanNet
import Derived.Test.YtjhgghpeapmgdaaGreatDoorMore
namespace Go.Proofs.YtjhgghpeapmgdaaGreatDoor
open Go.Bk Go.Proofs

def usedC (acc : List PLink) : List Value := (List.range 49).map fun (j : Nat) => .bool (acc.any fun x => decide (7 * x.a + x.b = (j : Int)))
def zero49 : Value := .agg (List.replicate 49 (Value.bool false)).toArray
theorem zero49_cells : zero49.cells = (usedC []).toArray := by kernel_rfl
theorem zero49_set : setAt (usedC []) 0 zero49.cells.toList = usedC [] := by kernel_rfl
theorem zero49_one : ∀ u ∈ zero49.cells.toList,u.oneCell' = true := by
  intro u hu
  rw [show zero49.cells.toList = List.replicate 49 (.bool false) from rfl] at hu
  rw [List.eq_of_mem_replicate hu]; rfl
theorem usedC_len (acc : List PLink) : (usedC acc).length = 49 := by simp [usedC]
theorem usedC_at {acc : List PLink} {j : Nat} (h : j < 49) : (usedC acc)[j]? = some (.bool (acc.any fun x => decide (7 * x.a + x.b = (j : Int)))) := by
  unfold usedC
  rw [List.getElem?_map,List.getElem?_range h]; rfl
theorem usedB_eq {n a b : Nat} {acc : List PLink} (hok : LinksOk n acc) (ha : a < b) (hb : b < n) (hn : n ≤ 7) : (acc.any fun x => decide (7 * x.a + x.b = ((7 * a + b:Nat):Int))) = usedB acc a b := by
  unfold usedB
  rw [Bool.eq_iff_iff,List.any_eq_true,List.any_eq_true]
  constructor
  · rintro ⟨x,hx,h⟩
    refine ⟨x,hx,?_⟩
    have h1 := hok.1 x hx
    simp only [decide_eq_true_eq] at h ⊢
    omega
  · rintro ⟨x,hx,h⟩
    refine ⟨x,hx,?_⟩
    simp only [decide_eq_true_eq] at h ⊢
    omega
theorem used_cell {w : World} {bu : Nat} {t : TypeId} {n a b : Nat} {acc : List PLink} (h : w.heap[bu]? = some (.cells (usedC acc).toArray t (0,0))) (hok : LinksOk n acc) (ha : a < b) (hb : b < n) (hn : n ≤ 7) :
    w.cell? ⟨bu,0 + (7 * a + b) * 1,none⟩ = some (.bool (usedB acc a b)) := by
  refine cell_of h ?_
  rw [Nat.zero_add,Nat.mul_one,List.getElem?_toArray,usedC_at (by omega),usedB_eq hok ha hb hn]
theorem used_set {n a b : Nat} {acc : List PLink} {c : Int} (ha : a < b) (hb : b < n) (hn : n ≤ 7) : setAt (usedC acc) (0 + (7 * a + b) * 1) [.bool true] = usedC (acc ++ [⟨(a : Int),(b : Int),c⟩]) := by
  rw [Nat.zero_add,Nat.mul_one]
  apply List.ext_getElem?
  intro i
  unfold setAt
  have hl := usedC_len acc
  by_cases hi : i < 49
  · rw [usedC_at hi,List.any_append]
    by_cases h1 : i < 7 * a + b
    · rw [List.append_assoc,List.getElem?_append_left (by simp; omega),List.getElem?_take,if_pos h1,usedC_at hi]
      have : ¬ (7 * (a : Int) + (b : Int) = (i : Int)) := by omega
      simp [this]
    · by_cases h2 : i = 7 * a + b
      · subst h2
        rw [List.append_assoc,List.getElem?_append_right (by rw [List.length_take]; omega),List.length_take,hl,Nat.min_eq_left (by omega),Nat.sub_self]
        simp
      · rw [List.getElem?_append_right (by simp; omega),List.length_append,List.length_take,hl,Nat.min_eq_left (by omega),List.getElem?_drop]
        simp only [List.length_cons,List.length_nil]
        rw [show 7 * a + b + (0 + 1) + (i - (7 * a + b + (0 + 1))) = i by omega,usedC_at hi]
        have : ¬ (7 * (a : Int) + (b : Int) = (i : Int)) := by omega
        simp [this]
  · rw [show (usedC (acc ++ [⟨(a : Int),(b : Int),c⟩]))[i]? = none from List.getElem?_eq_none (by rw [usedC_len]; omega),List.getElem?_eq_none]
    simp only [List.length_append,List.length_take,List.length_drop,hl,List.length_cons,List.length_nil]
    omega
theorem netLink1_eq {n i a0 b0 a b : Nat} {l M : List Int} {acc : List PLink} (hq : linkPair n i l = (a0,b0,M)) (ha : (if b0 < a0 then b0 else a0) = a) (hb : (if b0 < a0 then a0 else b0) = b) :
    netLink1 n i l acc = if a ≠ b ∧ usedB acc a b = false then (acc ++ [⟨(a : Int),(b : Int),((1 + nextV M 15 % (1 + nextV (M.drop 1) 15):Nat):Int)⟩],(M.drop 1).drop 1) else (acc,M) := by
  unfold netLink1
  rw [hq]
  simp only
  rw [ha,hb]
theorem netNodes_stepP {f i : Nat} {l : List Int} (h : 0 < nextV (l.drop 1) 3) : netNodes (f + 1) i l = (⟨nodeNames.getD i [],((10 + i:Nat):Int)⟩ :: (netNodes f (i + 1) ((l.drop 1).drop 1)).1,(netNodes f (i + 1) ((l.drop 1).drop 1)).2) := by
  rw [netNodes,if_pos h]
theorem netNodes_stepN {f i : Nat} {l : List Int} (h : ¬ 0 < nextV (l.drop 1) 3) : netNodes (f + 1) i l = (⟨nodeNames.getD i [],((1 + nextV l 9:Nat):Int)⟩ :: (netNodes f (i + 1) ((l.drop 1).drop 1)).1,(netNodes f (i + 1) ((l.drop 1).drop 1)).2) := by
  rw [netNodes,if_neg h]
theorem netLinks_step {f i n : Nat} {l : List Int} {acc acc' : List PLink} {M : List Int} {R : List PLink × List Int} (h : netLinks (f + 1) i n l acc = R) (h1 : netLink1 n i l acc = (acc',M)) : netLinks f (i + 1) n M acc' = R := by
  rw [netLinks,h1] at h; exact h
theorem netDests_stepT {f j n : Nat} {l : List Int} (h : nextV (l.drop 1) 3 = 0 ∧ nextV l n + 1 < n) : netDests (f + 1) j n l = (⟨destNames.getD j [],[((nextV l n:Nat):Int),((nextV l n + 1 + nextV ((l.drop 1).drop 1) (n - nextV l n - 1):Nat):Int)]⟩ :: (netDests f (j + 1) n (((l.drop 1).drop 1).drop 1)).1,(netDests f (j + 1) n (((l.drop 1).drop 1).drop 1)).2) := by
  have e : (decide (nextV (l.drop 1) 3 = 0) && decide (nextV l n + 1 < n)) = true := by rw [decide_eq_true h.1,decide_eq_true h.2]; rfl
  rw [netDests]
  simp only [e,if_true]
theorem netDests_stepF {f j n : Nat} {l : List Int} (h : ¬ (nextV (l.drop 1) 3 = 0 ∧ nextV l n + 1 < n)) : netDests (f + 1) j n l = (⟨destNames.getD j [],[((nextV l n:Nat):Int)]⟩ :: (netDests f (j + 1) n ((l.drop 1).drop 1)).1,(netDests f (j + 1) n ((l.drop 1).drop 1)).2) := by
  have e : (decide (nextV (l.drop 1) 3 = 0) && decide (nextV l n + 1 < n)) = false := by
    cases h2 : (decide (nextV (l.drop 1) 3 = 0) && decide (nextV l n + 1 < n))
    · rfl
    · simp only [Bool.and_eq_true,decide_eq_true_eq] at h2; exact absurd h2 h
  rw [netDests]
  simp only [e,if_false,Bool.false_eq_true]
theorem netChecks_step {f n m : Nat} {l M : List Int} {c : PCheck} (h : netCheck1 n m l = (c,M)) : netChecks (f + 1) n m l = (c :: (netChecks f n m M).1,(netChecks f n m M).2) := by
  rw [netChecks,h]
def origR (ds : List DA) : List Res := ds.map fun x => .row (.slice x.a x.d.origins.length x.c) 3 1 x.d.origins.length (x.d.origins.flatMap intCells)
def planR (p : PPlan) (q : PAd) : List Res := [.row (.slice q.a1 p.nodes.length q.c1) 52 2 p.nodes.length (p.nodes.flatMap nodeC),.row (.slice q.a2 p.links.length q.c2) 61 3 p.links.length (p.links.flatMap linkC),
  .row (.slice q.a3 q.ds.length q.c3) 54 2 q.ds.length (q.ds.flatMap destC),.row (.slice q.a4 p.checks.length q.c4) 67 5 p.checks.length (p.checks.flatMap checkC)] ++ origR q.ds
structure NetAt (w : World) (B : Nat) (p : PPlan) (q : PAd) : Prop where
  hold : Hold w B (planR p q)
  deq : q.ds.map (·.d) = p.dests
theorem nodeNames_at {w : World} {b : Nat} {t : TypeId} (h : w.heap[b]? = some (.cells #[.string (bs [97]),.string (bs [98]),.string (bs [99]),.string (bs [100]),.string (bs [101]),.string (bs [102]),.string (bs [103])] t (0,0))) {i : Nat} (hi : i < 7) :
    w.cell? ⟨b,0 + i * 1,none⟩ = some (.string (bs (nodeNames.getD i []))) := by
  have : i = 0 ∨ i = 1 ∨ i = 2 ∨ i = 3 ∨ i = 4 ∨ i = 5 ∨ i = 6 := by omega
  rcases this with rfl | rfl | rfl | rfl | rfl | rfl | rfl <;> exact cell_of h rfl
theorem destNames_at {w : World} {b : Nat} {t : TypeId} (h : w.heap[b]? = some (.cells #[.string (bs [120]),.string (bs [121])] t (0,0))) {i : Nat} (hi : i < 2) :
    w.cell? ⟨b,0 + i * 1,none⟩ = some (.string (bs (destNames.getD i []))) := by
  have : i = 0 ∨ i = 1 := by omega
  rcases this with rfl | rfl <;> exact cell_of h rfl

def netL4 (w : World) (b0 bq bp n kk : Nat) (pr : Int) (cp : Nat) (acc : List PNode) (av : Option Addr) (cv : Nat) (la : List PLink) (lv : Option Addr) (lc : Nat) (ds : List DA) (xv : Option Addr) (xc : Nat) (m : Nat) (R2 : List PCheck × List Int) : Lp (List PCheck × List Int × Option Addr × Nat × Option Addr × Nat) where
  S := fun x => [(2,none,pt b0 0),(3,none,pt bq 0),(4,none,pt bp 0),(6,none,iv (n:Int)),(17,none,iv ((m:Int) - (x.1.length:Int)))]
  J := fun x w' => Ext w w' ∧ Hold w' w.heap.size (([.row (.slice x.2.2.2.2.1 x.1.length x.2.2.2.2.2) 67 5 x.1.length (x.1.flatMap checkC),.row (.slice xv ds.length xc) 54 2 ds.length (ds.flatMap destC),.row (.slice lv la.length lc) 61 3 la.length (la.flatMap linkC),.row (.slice av acc.length cv) 52 2 acc.length (acc.flatMap nodeC),.blk bp ([iv pr,iv (cp:Int),iv (min (kk:Int) (la.length:Int)),.slice av acc.length cv,.slice lv la.length lc,.slice xv ds.length xc,.slice x.2.2.2.2.1 x.1.length x.2.2.2.2.2]) 29,.blk bq ([.slice x.2.2.1 x.2.1.length x.2.2.2.1]) 64,.blk b0 ([iv 0,iv 0,iv 0,.slice none 0 0,.slice none 0 0,.slice none 0 0,.slice none 0 0]) 29] ++ origR ds)) ∧ Cells w x.2.2.1 (x.2.1.flatMap intCells) ∧ Small x.2.1 ∧ x.2.1.length ≤ x.2.2.2.1 ∧ x.1.length ≤ m ∧ (x.1 ++ (netChecks (m - x.1.length) n ds.length x.2.1).1,(netChecks (m - x.1.length) n ds.length x.2.1).2) = R2
  M := fun x => m - x.1.length
set_option maxRecDepth 20000 in
set_option maxHeartbeats 2000000 in
theorem net_end (raw : List Int) (w wt : World) (b0 bq bp n kk : Nat) (pr : Int) (cp : Nat) (acc : List PNode) (av : Option Addr) (cv : Nat) (la : List PLink) (lv : Option Addr) (lc : Nat) (ds : List DA) (xv : Option Addr) (xc : Nat) (L : List Int) (s : Option Addr) (e : Nat) (y0 : List Int) (hE : Ext w wt) (hM : Hold wt w.heap.size (([.row (.slice xv ds.length xc) 54 2 ds.length (ds.flatMap destC),.row (.slice lv la.length lc) 61 3 la.length (la.flatMap linkC),.row (.slice av acc.length cv) 52 2 acc.length (acc.flatMap nodeC),.blk bp ([iv pr,iv (cp:Int),iv (min (kk:Int) (la.length:Int)),.slice av acc.length cv,.slice lv la.length lc,.slice xv ds.length xc,.slice none 0 0]) 29,.blk bq ([.slice s L.length e]) 64,.blk b0 ([iv 0,iv 0,iv 0,.slice none 0 0,.slice none 0 0,.slice none 0 0,.slice none 0 0]) 29] ++ origR ds))) (hc : Cells w s (L.flatMap intCells)) (hs : Small L) (hk : L.length ≤ e) (hn : netN raw = n) (hpr : (if netPath raw then 2 else 1) = pr) (hcp : netCap raw = cp) (hkk : nextV (netSrc2 raw) 4 = kk) (hA : (netA raw).1 = acc) (hB : netB raw = (la,y0)) (hC2 : netC raw = (ds.map (·.d),L)) (hlen2 : 0 < ds.length) :
    G Tryz.prog 227 [] (bodyPost Tryz.prog Tryz.f14 (Ret fun v w' => ∃ q : PAd,v = .agg #[.int .i64 (netP raw).proto,.int .i64 (netP raw).cap,.int .i64 (netP raw).k,.slice q.a1 (netP raw).nodes.length q.c1,.slice q.a2 (netP raw).links.length q.c2,.slice q.a3 (netP raw).dests.length q.c3,.slice q.a4 (netP raw).checks.length q.c4] ∧ Ext w w' ∧ NetAt w' w.heap.size (netP raw) q)) (kAt Y14 (ro1 13 []) []) (stz [(2,pt b0 0),(3,pt bq 0),(4,pt bp 0),(6,iv (n:Int))]) wt := by
 have hnle := netN_le raw
 refine sg0 4 (kOp Y14 (ro1 13 [0,0]) 1 []) [(2,pt b0 0),(3,pt bq 0),(4,pt bp 0),(6,iv (n:Int)),(184,pt bq 0)] ?_
 refine os0 _ (some 185) (kOp Y14 (ro1 13 [0,0]) 2 []) (runs_call E30 (next_any w bq L s e 7 wt hE hc hs (by omega) hk (hM.blk 4 rfl))) ?_
 rintro _ w_296 ⟨rfl,sa_297,sc_298,hC_299,hcs_300,hks_301⟩
 have hE466 := hM.toExt hE hC_299 4 rfl
 have hM467 := hM.set 4 rfl hC_299
 have hv_302 := nextV_lt L (n := 7) (by omega)
 refine sg0 3 (kAt Y14 (ro1 13 [0,1,0]) []) [(2,pt b0 0),(3,pt bq 0),(4,pt bp 0),(6,iv (n:Int)),(17,iv ((nextV L 7:Nat):Int))] ?_
 obtain ⟨m,hm⟩ : ∃ k,nextV L 7 = k := ⟨_,rfl⟩
 have hml : m < 7 := by rw [← hm]; exact nextV_lt _ (by omega)
 have hM468 := hM467.nilRow (e := 67) (size := 5)
 obtain ⟨R2,hR2⟩ : ∃ R,netChecks m n ds.length (L.drop 1) = R := ⟨_,rfl⟩
 have hDeq : netD raw = R2 := by unfold netD; rw [hC2,hn]; show netChecks (nextV L 7) n (ds.map (·.d)).length (L.drop 1) = R2; rw [hm,List.length_map]; exact hR2
 refine stEq (st' := (stz [(2,pt b0 0),(3,pt bq 0),(4,pt bp 0),(6,iv (n:Int)),(17,iv ((m:Int) - (([] : List PCheck).length : Nat)))])) (by rw [show (((nextV L 7:Nat):Int) : Int) = ((m:Int) - (([] : List PCheck).length : Nat)) from by rw [hm]; exact (Int.sub_zero _).symm]) ?_
 refine loopR (netL4 w b0 bq bp n kk pr cp acc av cv la lv lc ds xv xc m R2) (k' := (kEnd Y14 (ro1 13 [0,1,0]) [])) (body := (cAt Y14 (ro1 13 [0,1,0,0]))) (by kernel_rfl) ([],L.drop 1,sa_297,sc_298,none,0) [2,3,4,6,17] (by kernel_rfl) (⟨hE466,hM468,hcs_300,hs.drop 1,hks_301,Nat.zero_le _,hR2⟩) ?_
 rintro ⟨cs,K,s4,e4,kv,kc⟩ wk ⟨hE4,hM4,hc4,hs4,hk4,hle4,hacc4⟩
 simp only at hE4 hM4 hc4 hs4 hk4 hle4 hacc4
 show G _ _ _ _ (kAt (cAt Y14 (ro1 13 [0,1,0,0])) [] (.inv (LI 227 [] (netL4 w b0 bq bp n kk pr cp acc av cv la lv lc ds xv xc m R2) (cs,K,s4,e4,kv,kc)) :: (kEnd Y14 (ro1 13 [0,1,0]) []))) (stz [(2,pt b0 0),(3,pt bq 0),(4,pt bp 0),(6,iv (n:Int)),(17,iv ((m:Int) - (cs.length:Int)))]) wk
 refine sg0 6 (kAt (cAt Y14 (ro1 13 [0,1,0,0])) [0,1] (.inv (LI 227 [] (netL4 w b0 bq bp n kk pr cp acc av cv la lv lc ds xv xc m R2) (cs,K,s4,e4,kv,kc)) :: (kEnd Y14 (ro1 13 [0,1,0]) []))) [(2,pt b0 0),(3,pt bq 0),(4,pt bp 0),(6,iv (n:Int)),(17,iv ((m:Int) - (cs.length:Int))),(187,.bool (decide ((0 : Int) < ((m:Int) - (cs.length:Int)))))] ?_
 refine brd ((0 : Int) < ((m:Int) - (cs.length:Int))) (fun h9 => ?_) (fun h9 => ?_)
 ·generalize hKT : ((.inv (LI 227 [] (netL4 w b0 bq bp n kk pr cp acc av cv la lv lc ds xv xc m R2) (cs,K,s4,e4,kv,kc)) :: (kEnd Y14 (ro1 13 [0,1,0]) [])) : List Fr) = KT
  have hlt4 : cs.length < m := by omega
  have hfx4 : m - cs.length = (m - (cs.length + 1)) + 1 := by omega
  refine sg0 4 (kAt (cAt Y14 (ro1 13 [0,1,0,0])) [1,0,0,0] KT) [(2,pt b0 0),(3,pt bq 0),(4,pt bp 0),(6,iv (n:Int)),(17,iv ((m:Int) - (cs.length:Int)))] ?_
  refine dBegin (k' := (kAt (cAt Y14 (ro1 13 [0,1,0,0])) [1,0,0,1] KT)) (id := 45) (m := 14) (ops := opsAt (cAt (cAt Y14 (ro1 13 [0,1,0,0])) [1,0,0,0])) (fun _ w' => w'.heap[bp]? = some (.cells #[iv pr,iv (cp:Int),iv (min (kk:Int) (la.length:Int)),.slice av acc.length cv,.slice lv la.length lc,.slice xv ds.length xc,.slice kv cs.length kc] 29 (0,0))) (by kernel_rfl) (PQ.body _ _ _) (by kernel_rfl) (by kernel_rfl) ?_
  intro w469 hx470
  have hE471 := hE4.trans hx470
  have hM472 := hM4.ext hx470
  refine dtz [0,3,4,6,7,8,9] [.ld (.slice xv ds.length xc)] 7 (lb 14 985) [(2,pt b0 0),(3,pt bq 0),(4,pt bp 0),(6,iv (n:Int)),(17,iv ((m:Int) - (cs.length:Int))),(190,pt bq 0),(193,pt bq 0),(194,iv (n:Int)),(196,pt bq 0),(199,iv (ds.length:Int))] (fun w' => [cl w' bp 5 (.slice xv ds.length xc)]) (fun w' hS => (A1 (cell_of hS rfl))) ((hM472.blk 4 rfl)) ?_
  refine dAll 1 [12] (by kernel_rfl) ?_
  refine ⟨?_,?_⟩
  ·obtain ⟨g_309,hg_310⟩ : ∃ x,nextV K 4 = x := ⟨_,rfl⟩
   obtain ⟨l_311,hl_312⟩ : ∃ x,K.drop 1 = x := ⟨_,rfl⟩
   have hs_313 : Small l_311 := hl_312 ▸ hs4.drop 1
   have hv_314 := nextV_lt K (n := 4) (by omega)
   rw [hg_310] at hv_314
   refine dos [] (.call 30 [pt bq 0,iv 4]) (some 191) [] (lb 14 987) trivial (runs_call E30 (by have h := next_any w bq K s4 e4 4 w469 hE471 hc4 hs4 (by omega) hk4 (hM472.blk 5 rfl); rw [hg_310,hl_312] at h; exact h)) ?_
   rintro _ w_303 ⟨rfl,sa_304,sc_305,hC_306,hcs_307,hks_308⟩
   have hE473 := hM472.toExt hE471 hC_306 5 rfl
   have hM474 := hM472.set 5 rfl hC_306
   refine ⟨(hM474.blk 4 rfl),?_⟩
   refine dtz [2] [] 5 (lb 14 991) [(2,pt b0 0),(3,pt bq 0),(4,pt bp 0),(6,iv (n:Int)),(17,iv ((m:Int) - (cs.length:Int))),(192,iv ((1 + g_309:Nat):Int)),(193,pt bq 0),(194,iv (n:Int)),(196,pt bq 0),(199,iv (ds.length:Int))] (fun w' => [I64 ((1 + g_309:Nat):Int)]) (fun w' hS => (A1 (i64 (by omega)))) ((hM474.blk 4 rfl)) ?_
   refine dAll 5 [12] (by kernel_rfl) ?_
   refine ⟨?_,?_⟩
   ·obtain ⟨g_321,hg_322⟩ : ∃ x,nextV l_311 n = x := ⟨_,rfl⟩
    obtain ⟨l_323,hl_324⟩ : ∃ x,l_311.drop 1 = x := ⟨_,rfl⟩
    have hs_325 : Small l_323 := hl_324 ▸ hs_313.drop 1
    have hv_326 := nextV_lt l_311 (n := n) (by omega)
    rw [hg_322] at hv_326
    refine dos [] (.call 30 [pt bq 0,iv (n:Int)]) (some 195) [] (lb 14 1023) trivial (runs_call E30 (by have h := next_any w bq l_311 sa_304 sc_305 n w_303 hE473 hcs_307 hs_313 (by omega) hks_308 (hM474.blk 5 rfl); rw [hg_322,hl_324] at h; exact h)) ?_
    rintro _ w_315 ⟨rfl,sa_316,sc_317,hC_318,hcs_319,hks_320⟩
    have hE475 := hM474.toExt hE473 hC_318 5 rfl
    have hM476 := hM474.set 5 rfl hC_318
    refine ⟨(hM476.blk 4 rfl),?_⟩
    refine dAll 10 [12] (by kernel_rfl) ?_
    refine ⟨?_,?_⟩
    ·obtain ⟨g_333,hg_334⟩ : ∃ x,nextV l_323 ds.length = x := ⟨_,rfl⟩
     obtain ⟨l_335,hl_336⟩ : ∃ x,l_323.drop 1 = x := ⟨_,rfl⟩
     have hs_337 : Small l_335 := hl_336 ▸ hs_325.drop 1
     have hv_338 := nextV_lt l_323 (n := ds.length) (by omega)
     rw [hg_334] at hv_338
     refine dos [] (.call 30 [pt bq 0,iv (ds.length:Int)]) (some 200) [] (lb 14 2047) trivial (runs_call E30 (by have h := next_any w bq l_323 sa_316 sc_317 ds.length w_315 hE475 hcs_319 hs_325 (by omega) hks_320 (hM476.blk 5 rfl); rw [hg_334,hl_336] at h; exact h)) ?_
     rintro _ w_327 ⟨rfl,sa_328,sc_329,hC_330,hcs_331,hks_332⟩
     have hE477 := hM476.toExt hE475 hC_330 5 rfl
     have hM478 := hM476.set 5 rfl hC_330
     refine ⟨(hM478.blk 4 rfl),?_⟩
     refine dtz [11] [] 2 (lb 14 4095) [(2,pt b0 0),(3,pt bq 0),(4,pt bp 0),(6,iv (n:Int)),(17,iv ((m:Int) - (cs.length:Int))),(201,.agg #[iv ((1 + g_309:Nat):Int),iv (g_321:Int),iv (g_333:Int),iv 0,iv 0])] (fun w' => []) (fun w' hS => trivial) ((hM478.blk 4 rfl)) ?_
     refine dAll 12 [] (by kernel_rfl) ?_
     refine dos [] (.alloc 67) (some 18) [] (lb 14 8191) trivial (runs_alloc (z := .agg #[iv 0,iv 0,iv 0,iv 0,iv 0]) (by kernel_rfl)) ?_
     rintro _ w_339 ⟨bc,rfl,hN479⟩
     have hE480 := hE477.trans hN479.ext
     have hM481 := hM478.new hN479
     refine ⟨(hM481.blk 5 rfl),?_⟩
     refine dAll 13 [] (by kernel_rfl) ?_
     refine dos [] (.store 67 (pt bc 0) (.agg #[iv ((1 + g_309:Nat):Int),iv (g_321:Int),iv (g_333:Int),iv 0,iv 0])) none [] (lb 14 16383) trivial (runs_st (hM481.blk 0 rfl) (by kernel_rfl)) ?_
     rintro _ w_340 hC482
     have hE483 := hM481.toExt hE480 hC482 0 rfl
     have hM484 := hM481.set 0 rfl hC482
     refine ⟨(hM484.blk 5 rfl),?_⟩
     refine dDone (by kernel_rfl) ?_
     refine sgz 7 [.ld (iv ((1 + g_309:Nat):Int))] (kAt (cAt Y14 (ro1 13 [0,1,0,0])) [1,0,0,1,0,1] KT) [(2,pt b0 0),(3,pt bq 0),(4,pt bp 0),(6,iv (n:Int)),(17,iv ((m:Int) - (cs.length:Int))),(18,pt bc 0),(204,.bool (decide (((1 + g_309:Nat):Int) = (2 : Int))))] [cl w_340 bc 0 (iv ((1 + g_309:Nat):Int))] (A1 (cell_of (hM484.blk 0 rfl) rfl)) ?_
     refine brd (((1 + g_309:Nat):Int) = (2 : Int)) (fun hkd => ?_) (fun hkd => ?_)
     ·refine sg0 2 (kOp (cAt Y14 (ro1 13 [0,1,0,0])) [1,0,0,1,0,1,0] 1 KT) [(2,pt b0 0),(3,pt bq 0),(4,pt bp 0),(6,iv (n:Int)),(17,iv ((m:Int) - (cs.length:Int))),(18,pt bc 0),(205,pt bq 0)] ?_
      obtain ⟨g_347,hg_348⟩ : ∃ x,nextV l_335 20 = x := ⟨_,rfl⟩
      obtain ⟨l_349,hl_350⟩ : ∃ x,l_335.drop 1 = x := ⟨_,rfl⟩
      have hs_351 : Small l_349 := hl_350 ▸ hs_337.drop 1
      have hv_352 := nextV_lt l_335 (n := 20) (by omega)
      rw [hg_348] at hv_352
      refine os0 (.call 30 [pt bq 0,iv 20]) (some 206) (kOp (cAt Y14 (ro1 13 [0,1,0,0])) [1,0,0,1,0,1,0] 2 KT) (runs_call E30 (by have h := next_any w bq l_335 sa_328 sc_329 20 w_340 hE483 hcs_331 hs_337 (by omega) hks_332 (hM484.blk 6 rfl); rw [hg_348,hl_350] at h; exact h)) ?_
      rintro _ w_341 ⟨rfl,sa_342,sc_343,hC_344,hcs_345,hks_346⟩
      have hE485 := hM484.toExt hE483 hC_344 6 rfl
      have hM486 := hM484.set 6 rfl hC_344
      refine sg0 1 (kOp (cAt Y14 (ro1 13 [0,1,0,0])) [1,0,0,1,0,1,0] 3 KT) [(2,pt b0 0),(3,pt bq 0),(4,pt bp 0),(6,iv (n:Int)),(17,iv ((m:Int) - (cs.length:Int))),(18,pt bc 0),(206,iv (g_347:Int)),(207,pt bc 3)] ?_
      refine os0 (.store 3 (pt bc 3) (iv (g_347:Int))) none (kOp (cAt Y14 (ro1 13 [0,1,0,0])) [1,0,0,1,0,1,0] 4 KT) (runs_st (hM486.blk 0 rfl) (by kernel_rfl)) ?_
      rintro _ w_353 hC487
      have hE488 := hM486.toExt hE485 hC487 0 rfl
      have hM489 := hM486.set 0 rfl hC487
      refine sgz 13 [.ld (iv ((1 + g_309:Nat):Int)),.sym,.sym,.ld (iv ((1 + g_309:Nat):Int)),.sym] (kAt (cAt Y14 (ro1 13 [0,1,0,0])) [1,0,0,1,1,0,1] KT) [(2,pt b0 0),(3,pt bq 0),(4,pt bp 0),(6,iv (n:Int)),(17,iv ((m:Int) - (cs.length:Int))),(18,pt bc 0),(215,.bool ((decide (((1 + g_309:Nat):Int) = (3 : Int))) || (decide (((1 + g_309:Nat):Int) = (4 : Int)))))] ((fun (z1 : Bool) => ([cl w_353 bc 0 (iv ((1 + g_309:Nat):Int)),z1 = true → z1 = true,z1 = true → cl w_353 bc 0 (iv ((1 + g_309:Nat):Int)),z1 = true → z1 = true,z1 = true → z1 = true] : List Prop)) (!(decide (((1 + g_309:Nat):Int) = (3 : Int))))) (AC (cell_of (hM489.blk 0 rfl) rfl) (AC (fun h => h) (AC (fun _ => cell_of (hM489.blk 0 rfl) rfl) (AC (fun h => h) (A1 (fun h => h)))))) ?_
      refine brk _ ((((1 + g_309:Nat):Int) = (3 : Int)) ∨ (((1 + g_309:Nat):Int) = (4 : Int))) ((iffOr iffDec iffDec)) (fun hk34 => ?_) (fun hk34 => ?_)
      ·exfalso; omega
      refine sgz 5 [.ld (.slice kv cs.length kc),.ld (.agg #[iv ((1 + g_309:Nat):Int),iv (g_321:Int),iv (g_333:Int),iv (g_347:Int),iv 0])] (kOp (cAt Y14 (ro1 13 [0,1,0,0])) [1,0,0,1,1,1] 3 KT) [(2,pt b0 0),(3,pt bq 0),(4,pt bp 0),(6,iv (n:Int)),(17,iv ((m:Int) - (cs.length:Int))),(221,.slice kv cs.length kc),(222,.agg #[iv ((1 + g_309:Nat):Int),iv (g_321:Int),iv (g_333:Int),iv (g_347:Int),iv 0])] [cl w_353 bp 6 (.slice kv cs.length kc),cl w_353 bc 0 (iv ((1 + g_309:Nat):Int)),cl w_353 bc 1 (iv (g_321:Int)),cl w_353 bc 2 (iv (g_333:Int)),cl w_353 bc 3 (iv (g_347:Int)),cl w_353 bc 4 (iv 0)] (AC (cell_of (hM489.blk 5 rfl) rfl) (AC (cell_of (hM489.blk 0 rfl) rfl) (AC (cell_of (hM489.blk 0 rfl) rfl) (AC (cell_of (hM489.blk 0 rfl) rfl) (AC (cell_of (hM489.blk 0 rfl) rfl) (A1 (cell_of (hM489.blk 0 rfl) rfl))))))) ?_
      obtain ⟨cc,hcc⟩ : ∃ x,(⟨((1 + g_309:Nat):Int),(g_321:Int),(g_333:Int),(g_347:Int),0⟩ : PCheck) = x := ⟨_,rfl⟩
      refine os0 (.bslice 27 1 [(0,.agg #[iv ((1 + g_309:Nat):Int),iv (g_321:Int),iv (g_333:Int),iv (g_347:Int),iv 0])]) (some 223) (kOp (cAt Y14 (ro1 13 [0,1,0,0])) [1,0,0,1,1,1] 4 KT) (runs_bslice (cs := [iv ((1 + g_309:Nat):Int),iv (g_321:Int),iv (g_333:Int),iv (g_347:Int),iv 0]) (e := 67) (by kernel_rfl)) ?_
      rintro _ w_354 ⟨bf,rfl,hN490⟩
      have hE491 := hE488.trans hN490.ext
      have hM492 := hM489.new hN490
      refine os0 (.builtin .append #[27,27] 27 #[false,false] [.slice kv cs.length kc,.slice (some ⟨bf,0,none⟩) 1 1]) (some 224) (kOp (cAt Y14 (ro1 13 [0,1,0,0])) [1,0,0,1,1,1] 5 KT) (runs_appH (e := 67) (size := 5) (bytes := 40) (by kernel_rfl) (hM492.row 2 rfl) (m := 1) (news := [iv ((1 + g_309:Nat):Int),iv (g_321:Int),iv (g_333:Int),iv (g_347:Int),iv 0]) (hM492.blk 0 rfl) rfl (by simp [Value.oneCell']) (by omega) (by omega) hM492.base) ?_
      rintro vs493 w_355 ⟨hr494,hg495,ho496⟩
      have hr497 : w_355.ownsRow w.heap.size 67 5 vs493 ((cs ++ [cc]).length) ((cs ++ [cc]).flatMap checkC) := by subst hcc; simpa [checkC] using hr494
      have hE498 := hM492.toExtApp hE491 2 rfl hg495
      have hM499 := hM492.app 2 rfl hr497 hg495 ho496
      obtain ⟨kv2,kc2,hvsvs493⟩ := row_slice (hM499.row 2 rfl)
      subst hvsvs493
      refine sg0 1 (kOp (cAt Y14 (ro1 13 [0,1,0,0])) [1,0,0,1,1,1] 6 KT) [(2,pt b0 0),(3,pt bq 0),(4,pt bp 0),(6,iv (n:Int)),(17,iv ((m:Int) - (cs.length:Int))),(224,.slice kv2 ((cs ++ [cc]).length) kc2),(225,pt bp 6)] ?_
      refine os0 (.store 27 (pt bp 6) (.slice kv2 ((cs ++ [cc]).length) kc2)) none (kOp (cAt Y14 (ro1 13 [0,1,0,0])) [1,0,0,1,1,1] 7 KT) (runs_st (hM499.blk 6 rfl) (by kernel_rfl)) ?_
      rintro _ w_356 hC500
      have hE501 := hM499.toExt hE498 hC500 6 rfl
      have hM502 := hM499.set 6 rfl hC500
      refine sgz 7 [] KT [(2,pt b0 0),(3,pt bq 0),(4,pt bp 0),(6,iv (n:Int)),(17,iv (((m:Int) - (cs.length:Int)) - (1 : Int)))] [I64 (((m:Int) - (cs.length:Int)) - (1 : Int))] (A1 (i64 (by omega))) ?_
      have hM503 := hM502.pickT 9 [2,3,4,5,6,7,8] (by kernel_rfl)
      refine stEq (st' := (stz [(2,pt b0 0),(3,pt bq 0),(4,pt bp 0),(6,iv (n:Int)),(17,iv ((m:Int) - (((cs ++ [cc]).length:Nat):Int)))])) (by rw [show ((((m:Int) - (cs.length:Int)) - (1 : Int)) : Int) = ((m:Int) - (((cs ++ [cc]).length:Nat):Int)) from by rw [List.length_append]; show _ = (m:Int) - ((cs.length + 1:Nat):Int); omega]) ?_
      have h1 : netCheck1 n ds.length K = (cc,l_349) := by subst hcc; subst hg_310; subst hl_312; subst hg_322; subst hl_324; subst hg_334; subst hl_336; subst hg_348; subst hl_350; unfold netCheck1; simp only; rw [if_pos (by omega)]
      have hx : (cc :: (netChecks (m - (cs.length + 1)) n ds.length (l_349)).1) = (netChecks (m - cs.length) n ds.length K).1 ∧ (netChecks (m - (cs.length + 1)) n ds.length (l_349)).2 = (netChecks (m - cs.length) n ds.length K).2 := by rw [hfx4,netChecks_step h1]; exact ⟨rfl,rfl⟩
      subst hKT
      exact again ((cs ++ [cc]),l_349,sa_342,sc_343,kv2,kc2) [2,3,4,6,17] (by kernel_rfl) (⟨hE501,hM503,hcs_345,hs_351,hks_346,by show (cs ++ [cc]).length ≤ m; rw [List.length_append]; exact hlt4,by show ((cs ++ [cc]) ++ (netChecks (m - (cs ++ [cc]).length) n ds.length _).1,(netChecks (m - (cs ++ [cc]).length) n ds.length _).2) = R2; rw [List.length_append,List.append_assoc,show [cc].length = 1 from rfl,List.singleton_append,hx.1,hx.2]; exact hacc4⟩) (by show m - (cs ++ [cc]).length < m - cs.length; rw [List.length_append]; show m - (cs.length + 1) < _; omega)
     refine sgz 13 [.ld (iv ((1 + g_309:Nat):Int)),.sym,.sym,.ld (iv ((1 + g_309:Nat):Int)),.sym] (kAt (cAt Y14 (ro1 13 [0,1,0,0])) [1,0,0,1,1,0,1] KT) [(2,pt b0 0),(3,pt bq 0),(4,pt bp 0),(6,iv (n:Int)),(17,iv ((m:Int) - (cs.length:Int))),(18,pt bc 0),(215,.bool ((decide (((1 + g_309:Nat):Int) = (3 : Int))) || (decide (((1 + g_309:Nat):Int) = (4 : Int)))))] ((fun (z1 : Bool) => ([cl w_340 bc 0 (iv ((1 + g_309:Nat):Int)),z1 = true → z1 = true,z1 = true → cl w_340 bc 0 (iv ((1 + g_309:Nat):Int)),z1 = true → z1 = true,z1 = true → z1 = true] : List Prop)) (!(decide (((1 + g_309:Nat):Int) = (3 : Int))))) (AC (cell_of (hM484.blk 0 rfl) rfl) (AC (fun h => h) (AC (fun _ => cell_of (hM484.blk 0 rfl) rfl) (AC (fun h => h) (A1 (fun h => h)))))) ?_
     refine brk _ ((((1 + g_309:Nat):Int) = (3 : Int)) ∨ (((1 + g_309:Nat):Int) = (4 : Int))) ((iffOr iffDec iffDec)) (fun hk34 => ?_) (fun hk34 => ?_)
     ·refine sg0 3 (kOp (cAt Y14 (ro1 13 [0,1,0,0])) [1,0,0,1,1,0,1,0] 2 KT) [(2,pt b0 0),(3,pt bq 0),(4,pt bp 0),(6,iv (n:Int)),(17,iv ((m:Int) - (cs.length:Int))),(18,pt bc 0),(216,pt bq 0),(217,iv (n:Int))] ?_
      obtain ⟨g_363,hg_364⟩ : ∃ x,nextV l_335 n = x := ⟨_,rfl⟩
      obtain ⟨l_365,hl_366⟩ : ∃ x,l_335.drop 1 = x := ⟨_,rfl⟩
      have hs_367 : Small l_365 := hl_366 ▸ hs_337.drop 1
      have hv_368 := nextV_lt l_335 (n := n) (by omega)
      rw [hg_364] at hv_368
      refine os0 (.call 30 [pt bq 0,iv (n:Int)]) (some 218) (kOp (cAt Y14 (ro1 13 [0,1,0,0])) [1,0,0,1,1,0,1,0] 3 KT) (runs_call E30 (by have h := next_any w bq l_335 sa_328 sc_329 n w_340 hE483 hcs_331 hs_337 (by omega) hks_332 (hM484.blk 6 rfl); rw [hg_364,hl_366] at h; exact h)) ?_
      rintro _ w_357 ⟨rfl,sa_358,sc_359,hC_360,hcs_361,hks_362⟩
      have hE504 := hM484.toExt hE483 hC_360 6 rfl
      have hM505 := hM484.set 6 rfl hC_360
      refine sg0 1 (kOp (cAt Y14 (ro1 13 [0,1,0,0])) [1,0,0,1,1,0,1,0] 4 KT) [(2,pt b0 0),(3,pt bq 0),(4,pt bp 0),(6,iv (n:Int)),(17,iv ((m:Int) - (cs.length:Int))),(18,pt bc 0),(218,iv (g_363:Int)),(219,pt bc 4)] ?_
      refine os0 (.store 3 (pt bc 4) (iv (g_363:Int))) none (kOp (cAt Y14 (ro1 13 [0,1,0,0])) [1,0,0,1,1,0,1,0] 5 KT) (runs_st (hM505.blk 0 rfl) (by kernel_rfl)) ?_
      rintro _ w_369 hC506
      have hE507 := hM505.toExt hE504 hC506 0 rfl
      have hM508 := hM505.set 0 rfl hC506
      refine sgz 5 [.ld (.slice kv cs.length kc),.ld (.agg #[iv ((1 + g_309:Nat):Int),iv (g_321:Int),iv (g_333:Int),iv 0,iv (g_363:Int)])] (kOp (cAt Y14 (ro1 13 [0,1,0,0])) [1,0,0,1,1,1] 3 KT) [(2,pt b0 0),(3,pt bq 0),(4,pt bp 0),(6,iv (n:Int)),(17,iv ((m:Int) - (cs.length:Int))),(221,.slice kv cs.length kc),(222,.agg #[iv ((1 + g_309:Nat):Int),iv (g_321:Int),iv (g_333:Int),iv 0,iv (g_363:Int)])] [cl w_369 bp 6 (.slice kv cs.length kc),cl w_369 bc 0 (iv ((1 + g_309:Nat):Int)),cl w_369 bc 1 (iv (g_321:Int)),cl w_369 bc 2 (iv (g_333:Int)),cl w_369 bc 3 (iv 0),cl w_369 bc 4 (iv (g_363:Int))] (AC (cell_of (hM508.blk 5 rfl) rfl) (AC (cell_of (hM508.blk 0 rfl) rfl) (AC (cell_of (hM508.blk 0 rfl) rfl) (AC (cell_of (hM508.blk 0 rfl) rfl) (AC (cell_of (hM508.blk 0 rfl) rfl) (A1 (cell_of (hM508.blk 0 rfl) rfl))))))) ?_
      obtain ⟨cc,hcc⟩ : ∃ x,(⟨((1 + g_309:Nat):Int),(g_321:Int),(g_333:Int),0,(g_363:Int)⟩ : PCheck) = x := ⟨_,rfl⟩
      refine os0 (.bslice 27 1 [(0,.agg #[iv ((1 + g_309:Nat):Int),iv (g_321:Int),iv (g_333:Int),iv 0,iv (g_363:Int)])]) (some 223) (kOp (cAt Y14 (ro1 13 [0,1,0,0])) [1,0,0,1,1,1] 4 KT) (runs_bslice (cs := [iv ((1 + g_309:Nat):Int),iv (g_321:Int),iv (g_333:Int),iv 0,iv (g_363:Int)]) (e := 67) (by kernel_rfl)) ?_
      rintro _ w_370 ⟨bf,rfl,hN509⟩
      have hE510 := hE507.trans hN509.ext
      have hM511 := hM508.new hN509
      refine os0 (.builtin .append #[27,27] 27 #[false,false] [.slice kv cs.length kc,.slice (some ⟨bf,0,none⟩) 1 1]) (some 224) (kOp (cAt Y14 (ro1 13 [0,1,0,0])) [1,0,0,1,1,1] 5 KT) (runs_appH (e := 67) (size := 5) (bytes := 40) (by kernel_rfl) (hM511.row 2 rfl) (m := 1) (news := [iv ((1 + g_309:Nat):Int),iv (g_321:Int),iv (g_333:Int),iv 0,iv (g_363:Int)]) (hM511.blk 0 rfl) rfl (by simp [Value.oneCell']) (by omega) (by omega) hM511.base) ?_
      rintro vs512 w_371 ⟨hr513,hg514,ho515⟩
      have hr516 : w_371.ownsRow w.heap.size 67 5 vs512 ((cs ++ [cc]).length) ((cs ++ [cc]).flatMap checkC) := by subst hcc; simpa [checkC] using hr513
      have hE517 := hM511.toExtApp hE510 2 rfl hg514
      have hM518 := hM511.app 2 rfl hr516 hg514 ho515
      obtain ⟨kv2,kc2,hvsvs512⟩ := row_slice (hM518.row 2 rfl)
      subst hvsvs512
      refine sg0 1 (kOp (cAt Y14 (ro1 13 [0,1,0,0])) [1,0,0,1,1,1] 6 KT) [(2,pt b0 0),(3,pt bq 0),(4,pt bp 0),(6,iv (n:Int)),(17,iv ((m:Int) - (cs.length:Int))),(224,.slice kv2 ((cs ++ [cc]).length) kc2),(225,pt bp 6)] ?_
      refine os0 (.store 27 (pt bp 6) (.slice kv2 ((cs ++ [cc]).length) kc2)) none (kOp (cAt Y14 (ro1 13 [0,1,0,0])) [1,0,0,1,1,1] 7 KT) (runs_st (hM518.blk 6 rfl) (by kernel_rfl)) ?_
      rintro _ w_372 hC519
      have hE520 := hM518.toExt hE517 hC519 6 rfl
      have hM521 := hM518.set 6 rfl hC519
      refine sgz 7 [] KT [(2,pt b0 0),(3,pt bq 0),(4,pt bp 0),(6,iv (n:Int)),(17,iv (((m:Int) - (cs.length:Int)) - (1 : Int)))] [I64 (((m:Int) - (cs.length:Int)) - (1 : Int))] (A1 (i64 (by omega))) ?_
      have hM522 := hM521.pickT 9 [2,3,4,5,6,7,8] (by kernel_rfl)
      refine stEq (st' := (stz [(2,pt b0 0),(3,pt bq 0),(4,pt bp 0),(6,iv (n:Int)),(17,iv ((m:Int) - (((cs ++ [cc]).length:Nat):Int)))])) (by rw [show ((((m:Int) - (cs.length:Int)) - (1 : Int)) : Int) = ((m:Int) - (((cs ++ [cc]).length:Nat):Int)) from by rw [List.length_append]; show _ = (m:Int) - ((cs.length + 1:Nat):Int); omega]) ?_
      have h1 : netCheck1 n ds.length K = (cc,l_365) := by subst hcc; subst hg_310; subst hl_312; subst hg_322; subst hl_324; subst hg_334; subst hl_336; subst hg_364; subst hl_366; unfold netCheck1; simp only; rw [if_neg (by omega),if_pos (by omega)]
      have hx : (cc :: (netChecks (m - (cs.length + 1)) n ds.length (l_365)).1) = (netChecks (m - cs.length) n ds.length K).1 ∧ (netChecks (m - (cs.length + 1)) n ds.length (l_365)).2 = (netChecks (m - cs.length) n ds.length K).2 := by rw [hfx4,netChecks_step h1]; exact ⟨rfl,rfl⟩
      subst hKT
      exact again ((cs ++ [cc]),l_365,sa_358,sc_359,kv2,kc2) [2,3,4,6,17] (by kernel_rfl) (⟨hE520,hM522,hcs_361,hs_367,hks_362,by show (cs ++ [cc]).length ≤ m; rw [List.length_append]; exact hlt4,by show ((cs ++ [cc]) ++ (netChecks (m - (cs ++ [cc]).length) n ds.length _).1,(netChecks (m - (cs ++ [cc]).length) n ds.length _).2) = R2; rw [List.length_append,List.append_assoc,show [cc].length = 1 from rfl,List.singleton_append,hx.1,hx.2]; exact hacc4⟩) (by show m - (cs ++ [cc]).length < m - cs.length; rw [List.length_append]; show m - (cs.length + 1) < _; omega)
     refine sgz 5 [.ld (.slice kv cs.length kc),.ld (.agg #[iv ((1 + g_309:Nat):Int),iv (g_321:Int),iv (g_333:Int),iv 0,iv 0])] (kOp (cAt Y14 (ro1 13 [0,1,0,0])) [1,0,0,1,1,1] 3 KT) [(2,pt b0 0),(3,pt bq 0),(4,pt bp 0),(6,iv (n:Int)),(17,iv ((m:Int) - (cs.length:Int))),(221,.slice kv cs.length kc),(222,.agg #[iv ((1 + g_309:Nat):Int),iv (g_321:Int),iv (g_333:Int),iv 0,iv 0])] [cl w_340 bp 6 (.slice kv cs.length kc),cl w_340 bc 0 (iv ((1 + g_309:Nat):Int)),cl w_340 bc 1 (iv (g_321:Int)),cl w_340 bc 2 (iv (g_333:Int)),cl w_340 bc 3 (iv 0),cl w_340 bc 4 (iv 0)] (AC (cell_of (hM484.blk 5 rfl) rfl) (AC (cell_of (hM484.blk 0 rfl) rfl) (AC (cell_of (hM484.blk 0 rfl) rfl) (AC (cell_of (hM484.blk 0 rfl) rfl) (AC (cell_of (hM484.blk 0 rfl) rfl) (A1 (cell_of (hM484.blk 0 rfl) rfl))))))) ?_
     obtain ⟨cc,hcc⟩ : ∃ x,(⟨((1 + g_309:Nat):Int),(g_321:Int),(g_333:Int),0,0⟩ : PCheck) = x := ⟨_,rfl⟩
     refine os0 (.bslice 27 1 [(0,.agg #[iv ((1 + g_309:Nat):Int),iv (g_321:Int),iv (g_333:Int),iv 0,iv 0])]) (some 223) (kOp (cAt Y14 (ro1 13 [0,1,0,0])) [1,0,0,1,1,1] 4 KT) (runs_bslice (cs := [iv ((1 + g_309:Nat):Int),iv (g_321:Int),iv (g_333:Int),iv 0,iv 0]) (e := 67) (by kernel_rfl)) ?_
     rintro _ w_373 ⟨bf,rfl,hN523⟩
     have hE524 := hE483.trans hN523.ext
     have hM525 := hM484.new hN523
     refine os0 (.builtin .append #[27,27] 27 #[false,false] [.slice kv cs.length kc,.slice (some ⟨bf,0,none⟩) 1 1]) (some 224) (kOp (cAt Y14 (ro1 13 [0,1,0,0])) [1,0,0,1,1,1] 5 KT) (runs_appH (e := 67) (size := 5) (bytes := 40) (by kernel_rfl) (hM525.row 2 rfl) (m := 1) (news := [iv ((1 + g_309:Nat):Int),iv (g_321:Int),iv (g_333:Int),iv 0,iv 0]) (hM525.blk 0 rfl) rfl (by simp [Value.oneCell']) (by omega) (by omega) hM525.base) ?_
     rintro vs526 w_374 ⟨hr527,hg528,ho529⟩
     have hr530 : w_374.ownsRow w.heap.size 67 5 vs526 ((cs ++ [cc]).length) ((cs ++ [cc]).flatMap checkC) := by subst hcc; simpa [checkC] using hr527
     have hE531 := hM525.toExtApp hE524 2 rfl hg528
     have hM532 := hM525.app 2 rfl hr530 hg528 ho529
     obtain ⟨kv2,kc2,hvsvs526⟩ := row_slice (hM532.row 2 rfl)
     subst hvsvs526
     refine sg0 1 (kOp (cAt Y14 (ro1 13 [0,1,0,0])) [1,0,0,1,1,1] 6 KT) [(2,pt b0 0),(3,pt bq 0),(4,pt bp 0),(6,iv (n:Int)),(17,iv ((m:Int) - (cs.length:Int))),(224,.slice kv2 ((cs ++ [cc]).length) kc2),(225,pt bp 6)] ?_
     refine os0 (.store 27 (pt bp 6) (.slice kv2 ((cs ++ [cc]).length) kc2)) none (kOp (cAt Y14 (ro1 13 [0,1,0,0])) [1,0,0,1,1,1] 7 KT) (runs_st (hM532.blk 6 rfl) (by kernel_rfl)) ?_
     rintro _ w_375 hC533
     have hE534 := hM532.toExt hE531 hC533 6 rfl
     have hM535 := hM532.set 6 rfl hC533
     refine sgz 7 [] KT [(2,pt b0 0),(3,pt bq 0),(4,pt bp 0),(6,iv (n:Int)),(17,iv (((m:Int) - (cs.length:Int)) - (1 : Int)))] [I64 (((m:Int) - (cs.length:Int)) - (1 : Int))] (A1 (i64 (by omega))) ?_
     have hM536 := hM535.pickT 9 [2,3,4,5,6,7,8] (by kernel_rfl)
     refine stEq (st' := (stz [(2,pt b0 0),(3,pt bq 0),(4,pt bp 0),(6,iv (n:Int)),(17,iv ((m:Int) - (((cs ++ [cc]).length:Nat):Int)))])) (by rw [show ((((m:Int) - (cs.length:Int)) - (1 : Int)) : Int) = ((m:Int) - (((cs ++ [cc]).length:Nat):Int)) from by rw [List.length_append]; show _ = (m:Int) - ((cs.length + 1:Nat):Int); omega]) ?_
     have h1 : netCheck1 n ds.length K = (cc,l_335) := by subst hcc; subst hg_310; subst hl_312; subst hg_322; subst hl_324; subst hg_334; subst hl_336; unfold netCheck1; simp only; rw [if_neg (by omega),if_neg (by omega)]
     have hx : (cc :: (netChecks (m - (cs.length + 1)) n ds.length (l_335)).1) = (netChecks (m - cs.length) n ds.length K).1 ∧ (netChecks (m - (cs.length + 1)) n ds.length (l_335)).2 = (netChecks (m - cs.length) n ds.length K).2 := by rw [hfx4,netChecks_step h1]; exact ⟨rfl,rfl⟩
     subst hKT
     exact again ((cs ++ [cc]),l_335,sa_328,sc_329,kv2,kc2) [2,3,4,6,17] (by kernel_rfl) (⟨hE534,hM536,hcs_331,hs_337,hks_332,by show (cs ++ [cc]).length ≤ m; rw [List.length_append]; exact hlt4,by show ((cs ++ [cc]) ++ (netChecks (m - (cs ++ [cc]).length) n ds.length _).1,(netChecks (m - (cs ++ [cc]).length) n ds.length _).2) = R2; rw [List.length_append,List.append_assoc,show [cc].length = 1 from rfl,List.singleton_append,hx.1,hx.2]; exact hacc4⟩) (by show m - (cs ++ [cc]).length < m - cs.length; rw [List.length_append]; show m - (cs.length + 1) < _; omega)
    refine dos [] (.alloc 67) (some 18) [] (lb 14 5119) trivial (runs_alloc (z := .agg #[iv 0,iv 0,iv 0,iv 0,iv 0]) (by kernel_rfl)) ?_
    rintro _ w_376 ⟨bc,rfl,hN537⟩
    have hE538 := hE475.trans hN537.ext
    have hM539 := hM476.new hN537
    refine ⟨(hM539.blk 5 rfl),?_⟩
    obtain ⟨g_383,hg_384⟩ : ∃ x,nextV l_323 ds.length = x := ⟨_,rfl⟩
    obtain ⟨l_385,hl_386⟩ : ∃ x,l_323.drop 1 = x := ⟨_,rfl⟩
    have hs_387 : Small l_385 := hl_386 ▸ hs_325.drop 1
    have hv_388 := nextV_lt l_323 (n := ds.length) (by omega)
    rw [hg_384] at hv_388
    refine dAll 10 [] (by kernel_rfl) ?_
    refine dos [] (.call 30 [pt bq 0,iv (ds.length:Int)]) (some 200) [] (lb 14 6143) trivial (runs_call E30 (by have h := next_any w bq l_323 sa_316 sc_317 ds.length w_376 hE538 hcs_319 hs_325 (by omega) hks_320 (hM539.blk 6 rfl); rw [hg_384,hl_386] at h; exact h)) ?_
    rintro _ w_377 ⟨rfl,sa_378,sc_379,hC_380,hcs_381,hks_382⟩
    have hE540 := hM539.toExt hE538 hC_380 6 rfl
    have hM541 := hM539.set 6 rfl hC_380
    refine ⟨(hM541.blk 5 rfl),?_⟩
    refine dtz [11] [] 1 (lb 14 8191) [(2,pt b0 0),(3,pt bq 0),(4,pt bp 0),(6,iv (n:Int)),(17,iv ((m:Int) - (cs.length:Int))),(18,pt bc 0),(201,.agg #[iv ((1 + g_309:Nat):Int),iv (g_321:Int),iv (g_383:Int),iv 0,iv 0])] (fun w' => []) (fun w' hS => trivial) ((hM541.blk 5 rfl)) ?_
    refine dAll 13 [] (by kernel_rfl) ?_
    refine dos [] (.store 67 (pt bc 0) (.agg #[iv ((1 + g_309:Nat):Int),iv (g_321:Int),iv (g_383:Int),iv 0,iv 0])) none [] (lb 14 16383) trivial (runs_st (hM541.blk 0 rfl) (by kernel_rfl)) ?_
    rintro _ w_389 hC542
    have hE543 := hM541.toExt hE540 hC542 0 rfl
    have hM544 := hM541.set 0 rfl hC542
    refine ⟨(hM544.blk 5 rfl),?_⟩
    refine dDone (by kernel_rfl) ?_
    refine sgz 7 [.ld (iv ((1 + g_309:Nat):Int))] (kAt (cAt Y14 (ro1 13 [0,1,0,0])) [1,0,0,1,0,1] KT) [(2,pt b0 0),(3,pt bq 0),(4,pt bp 0),(6,iv (n:Int)),(17,iv ((m:Int) - (cs.length:Int))),(18,pt bc 0),(204,.bool (decide (((1 + g_309:Nat):Int) = (2 : Int))))] [cl w_389 bc 0 (iv ((1 + g_309:Nat):Int))] (A1 (cell_of (hM544.blk 0 rfl) rfl)) ?_
    refine brd (((1 + g_309:Nat):Int) = (2 : Int)) (fun hkd => ?_) (fun hkd => ?_)
    ·refine sg0 2 (kOp (cAt Y14 (ro1 13 [0,1,0,0])) [1,0,0,1,0,1,0] 1 KT) [(2,pt b0 0),(3,pt bq 0),(4,pt bp 0),(6,iv (n:Int)),(17,iv ((m:Int) - (cs.length:Int))),(18,pt bc 0),(205,pt bq 0)] ?_
     obtain ⟨g_396,hg_397⟩ : ∃ x,nextV l_385 20 = x := ⟨_,rfl⟩
     obtain ⟨l_398,hl_399⟩ : ∃ x,l_385.drop 1 = x := ⟨_,rfl⟩
     have hs_400 : Small l_398 := hl_399 ▸ hs_387.drop 1
     have hv_401 := nextV_lt l_385 (n := 20) (by omega)
     rw [hg_397] at hv_401
     refine os0 (.call 30 [pt bq 0,iv 20]) (some 206) (kOp (cAt Y14 (ro1 13 [0,1,0,0])) [1,0,0,1,0,1,0] 2 KT) (runs_call E30 (by have h := next_any w bq l_385 sa_378 sc_379 20 w_389 hE543 hcs_381 hs_387 (by omega) hks_382 (hM544.blk 6 rfl); rw [hg_397,hl_399] at h; exact h)) ?_
     rintro _ w_390 ⟨rfl,sa_391,sc_392,hC_393,hcs_394,hks_395⟩
     have hE545 := hM544.toExt hE543 hC_393 6 rfl
     have hM546 := hM544.set 6 rfl hC_393
     refine sg0 1 (kOp (cAt Y14 (ro1 13 [0,1,0,0])) [1,0,0,1,0,1,0] 3 KT) [(2,pt b0 0),(3,pt bq 0),(4,pt bp 0),(6,iv (n:Int)),(17,iv ((m:Int) - (cs.length:Int))),(18,pt bc 0),(206,iv (g_396:Int)),(207,pt bc 3)] ?_
     refine os0 (.store 3 (pt bc 3) (iv (g_396:Int))) none (kOp (cAt Y14 (ro1 13 [0,1,0,0])) [1,0,0,1,0,1,0] 4 KT) (runs_st (hM546.blk 0 rfl) (by kernel_rfl)) ?_
     rintro _ w_402 hC547
     have hE548 := hM546.toExt hE545 hC547 0 rfl
     have hM549 := hM546.set 0 rfl hC547
     refine sgz 13 [.ld (iv ((1 + g_309:Nat):Int)),.sym,.sym,.ld (iv ((1 + g_309:Nat):Int)),.sym] (kAt (cAt Y14 (ro1 13 [0,1,0,0])) [1,0,0,1,1,0,1] KT) [(2,pt b0 0),(3,pt bq 0),(4,pt bp 0),(6,iv (n:Int)),(17,iv ((m:Int) - (cs.length:Int))),(18,pt bc 0),(215,.bool ((decide (((1 + g_309:Nat):Int) = (3 : Int))) || (decide (((1 + g_309:Nat):Int) = (4 : Int)))))] ((fun (z1 : Bool) => ([cl w_402 bc 0 (iv ((1 + g_309:Nat):Int)),z1 = true → z1 = true,z1 = true → cl w_402 bc 0 (iv ((1 + g_309:Nat):Int)),z1 = true → z1 = true,z1 = true → z1 = true] : List Prop)) (!(decide (((1 + g_309:Nat):Int) = (3 : Int))))) (AC (cell_of (hM549.blk 0 rfl) rfl) (AC (fun h => h) (AC (fun _ => cell_of (hM549.blk 0 rfl) rfl) (AC (fun h => h) (A1 (fun h => h)))))) ?_
     refine brk _ ((((1 + g_309:Nat):Int) = (3 : Int)) ∨ (((1 + g_309:Nat):Int) = (4 : Int))) ((iffOr iffDec iffDec)) (fun hk34 => ?_) (fun hk34 => ?_)
     ·exfalso; omega
     refine sgz 5 [.ld (.slice kv cs.length kc),.ld (.agg #[iv ((1 + g_309:Nat):Int),iv (g_321:Int),iv (g_383:Int),iv (g_396:Int),iv 0])] (kOp (cAt Y14 (ro1 13 [0,1,0,0])) [1,0,0,1,1,1] 3 KT) [(2,pt b0 0),(3,pt bq 0),(4,pt bp 0),(6,iv (n:Int)),(17,iv ((m:Int) - (cs.length:Int))),(221,.slice kv cs.length kc),(222,.agg #[iv ((1 + g_309:Nat):Int),iv (g_321:Int),iv (g_383:Int),iv (g_396:Int),iv 0])] [cl w_402 bp 6 (.slice kv cs.length kc),cl w_402 bc 0 (iv ((1 + g_309:Nat):Int)),cl w_402 bc 1 (iv (g_321:Int)),cl w_402 bc 2 (iv (g_383:Int)),cl w_402 bc 3 (iv (g_396:Int)),cl w_402 bc 4 (iv 0)] (AC (cell_of (hM549.blk 5 rfl) rfl) (AC (cell_of (hM549.blk 0 rfl) rfl) (AC (cell_of (hM549.blk 0 rfl) rfl) (AC (cell_of (hM549.blk 0 rfl) rfl) (AC (cell_of (hM549.blk 0 rfl) rfl) (A1 (cell_of (hM549.blk 0 rfl) rfl))))))) ?_
     obtain ⟨cc,hcc⟩ : ∃ x,(⟨((1 + g_309:Nat):Int),(g_321:Int),(g_383:Int),(g_396:Int),0⟩ : PCheck) = x := ⟨_,rfl⟩
     refine os0 (.bslice 27 1 [(0,.agg #[iv ((1 + g_309:Nat):Int),iv (g_321:Int),iv (g_383:Int),iv (g_396:Int),iv 0])]) (some 223) (kOp (cAt Y14 (ro1 13 [0,1,0,0])) [1,0,0,1,1,1] 4 KT) (runs_bslice (cs := [iv ((1 + g_309:Nat):Int),iv (g_321:Int),iv (g_383:Int),iv (g_396:Int),iv 0]) (e := 67) (by kernel_rfl)) ?_
     rintro _ w_403 ⟨bf,rfl,hN550⟩
     have hE551 := hE548.trans hN550.ext
     have hM552 := hM549.new hN550
     refine os0 (.builtin .append #[27,27] 27 #[false,false] [.slice kv cs.length kc,.slice (some ⟨bf,0,none⟩) 1 1]) (some 224) (kOp (cAt Y14 (ro1 13 [0,1,0,0])) [1,0,0,1,1,1] 5 KT) (runs_appH (e := 67) (size := 5) (bytes := 40) (by kernel_rfl) (hM552.row 2 rfl) (m := 1) (news := [iv ((1 + g_309:Nat):Int),iv (g_321:Int),iv (g_383:Int),iv (g_396:Int),iv 0]) (hM552.blk 0 rfl) rfl (by simp [Value.oneCell']) (by omega) (by omega) hM552.base) ?_
     rintro vs553 w_404 ⟨hr554,hg555,ho556⟩
     have hr557 : w_404.ownsRow w.heap.size 67 5 vs553 ((cs ++ [cc]).length) ((cs ++ [cc]).flatMap checkC) := by subst hcc; simpa [checkC] using hr554
     have hE558 := hM552.toExtApp hE551 2 rfl hg555
     have hM559 := hM552.app 2 rfl hr557 hg555 ho556
     obtain ⟨kv2,kc2,hvsvs553⟩ := row_slice (hM559.row 2 rfl)
     subst hvsvs553
     refine sg0 1 (kOp (cAt Y14 (ro1 13 [0,1,0,0])) [1,0,0,1,1,1] 6 KT) [(2,pt b0 0),(3,pt bq 0),(4,pt bp 0),(6,iv (n:Int)),(17,iv ((m:Int) - (cs.length:Int))),(224,.slice kv2 ((cs ++ [cc]).length) kc2),(225,pt bp 6)] ?_
     refine os0 (.store 27 (pt bp 6) (.slice kv2 ((cs ++ [cc]).length) kc2)) none (kOp (cAt Y14 (ro1 13 [0,1,0,0])) [1,0,0,1,1,1] 7 KT) (runs_st (hM559.blk 6 rfl) (by kernel_rfl)) ?_
     rintro _ w_405 hC560
     have hE561 := hM559.toExt hE558 hC560 6 rfl
     have hM562 := hM559.set 6 rfl hC560
     refine sgz 7 [] KT [(2,pt b0 0),(3,pt bq 0),(4,pt bp 0),(6,iv (n:Int)),(17,iv (((m:Int) - (cs.length:Int)) - (1 : Int)))] [I64 (((m:Int) - (cs.length:Int)) - (1 : Int))] (A1 (i64 (by omega))) ?_
     have hM563 := hM562.pickT 9 [2,3,4,5,6,7,8] (by kernel_rfl)
     refine stEq (st' := (stz [(2,pt b0 0),(3,pt bq 0),(4,pt bp 0),(6,iv (n:Int)),(17,iv ((m:Int) - (((cs ++ [cc]).length:Nat):Int)))])) (by rw [show ((((m:Int) - (cs.length:Int)) - (1 : Int)) : Int) = ((m:Int) - (((cs ++ [cc]).length:Nat):Int)) from by rw [List.length_append]; show _ = (m:Int) - ((cs.length + 1:Nat):Int); omega]) ?_
     have h1 : netCheck1 n ds.length K = (cc,l_398) := by subst hcc; subst hg_310; subst hl_312; subst hg_322; subst hl_324; subst hg_384; subst hl_386; subst hg_397; subst hl_399; unfold netCheck1; simp only; rw [if_pos (by omega)]
     have hx : (cc :: (netChecks (m - (cs.length + 1)) n ds.length (l_398)).1) = (netChecks (m - cs.length) n ds.length K).1 ∧ (netChecks (m - (cs.length + 1)) n ds.length (l_398)).2 = (netChecks (m - cs.length) n ds.length K).2 := by rw [hfx4,netChecks_step h1]; exact ⟨rfl,rfl⟩
     subst hKT
     exact again ((cs ++ [cc]),l_398,sa_391,sc_392,kv2,kc2) [2,3,4,6,17] (by kernel_rfl) (⟨hE561,hM563,hcs_394,hs_400,hks_395,by show (cs ++ [cc]).length ≤ m; rw [List.length_append]; exact hlt4,by show ((cs ++ [cc]) ++ (netChecks (m - (cs ++ [cc]).length) n ds.length _).1,(netChecks (m - (cs ++ [cc]).length) n ds.length _).2) = R2; rw [List.length_append,List.append_assoc,show [cc].length = 1 from rfl,List.singleton_append,hx.1,hx.2]; exact hacc4⟩) (by show m - (cs ++ [cc]).length < m - cs.length; rw [List.length_append]; show m - (cs.length + 1) < _; omega)
    refine sgz 13 [.ld (iv ((1 + g_309:Nat):Int)),.sym,.sym,.ld (iv ((1 + g_309:Nat):Int)),.sym] (kAt (cAt Y14 (ro1 13 [0,1,0,0])) [1,0,0,1,1,0,1] KT) [(2,pt b0 0),(3,pt bq 0),(4,pt bp 0),(6,iv (n:Int)),(17,iv ((m:Int) - (cs.length:Int))),(18,pt bc 0),(215,.bool ((decide (((1 + g_309:Nat):Int) = (3 : Int))) || (decide (((1 + g_309:Nat):Int) = (4 : Int)))))] ((fun (z1 : Bool) => ([cl w_389 bc 0 (iv ((1 + g_309:Nat):Int)),z1 = true → z1 = true,z1 = true → cl w_389 bc 0 (iv ((1 + g_309:Nat):Int)),z1 = true → z1 = true,z1 = true → z1 = true] : List Prop)) (!(decide (((1 + g_309:Nat):Int) = (3 : Int))))) (AC (cell_of (hM544.blk 0 rfl) rfl) (AC (fun h => h) (AC (fun _ => cell_of (hM544.blk 0 rfl) rfl) (AC (fun h => h) (A1 (fun h => h)))))) ?_
    refine brk _ ((((1 + g_309:Nat):Int) = (3 : Int)) ∨ (((1 + g_309:Nat):Int) = (4 : Int))) ((iffOr iffDec iffDec)) (fun hk34 => ?_) (fun hk34 => ?_)
    ·refine sg0 3 (kOp (cAt Y14 (ro1 13 [0,1,0,0])) [1,0,0,1,1,0,1,0] 2 KT) [(2,pt b0 0),(3,pt bq 0),(4,pt bp 0),(6,iv (n:Int)),(17,iv ((m:Int) - (cs.length:Int))),(18,pt bc 0),(216,pt bq 0),(217,iv (n:Int))] ?_
     obtain ⟨g_412,hg_413⟩ : ∃ x,nextV l_385 n = x := ⟨_,rfl⟩
     obtain ⟨l_414,hl_415⟩ : ∃ x,l_385.drop 1 = x := ⟨_,rfl⟩
     have hs_416 : Small l_414 := hl_415 ▸ hs_387.drop 1
     have hv_417 := nextV_lt l_385 (n := n) (by omega)
     rw [hg_413] at hv_417
     refine os0 (.call 30 [pt bq 0,iv (n:Int)]) (some 218) (kOp (cAt Y14 (ro1 13 [0,1,0,0])) [1,0,0,1,1,0,1,0] 3 KT) (runs_call E30 (by have h := next_any w bq l_385 sa_378 sc_379 n w_389 hE543 hcs_381 hs_387 (by omega) hks_382 (hM544.blk 6 rfl); rw [hg_413,hl_415] at h; exact h)) ?_
     rintro _ w_406 ⟨rfl,sa_407,sc_408,hC_409,hcs_410,hks_411⟩
     have hE564 := hM544.toExt hE543 hC_409 6 rfl
     have hM565 := hM544.set 6 rfl hC_409
     refine sg0 1 (kOp (cAt Y14 (ro1 13 [0,1,0,0])) [1,0,0,1,1,0,1,0] 4 KT) [(2,pt b0 0),(3,pt bq 0),(4,pt bp 0),(6,iv (n:Int)),(17,iv ((m:Int) - (cs.length:Int))),(18,pt bc 0),(218,iv (g_412:Int)),(219,pt bc 4)] ?_
     refine os0 (.store 3 (pt bc 4) (iv (g_412:Int))) none (kOp (cAt Y14 (ro1 13 [0,1,0,0])) [1,0,0,1,1,0,1,0] 5 KT) (runs_st (hM565.blk 0 rfl) (by kernel_rfl)) ?_
     rintro _ w_418 hC566
     have hE567 := hM565.toExt hE564 hC566 0 rfl
     have hM568 := hM565.set 0 rfl hC566
     refine sgz 5 [.ld (.slice kv cs.length kc),.ld (.agg #[iv ((1 + g_309:Nat):Int),iv (g_321:Int),iv (g_383:Int),iv 0,iv (g_412:Int)])] (kOp (cAt Y14 (ro1 13 [0,1,0,0])) [1,0,0,1,1,1] 3 KT) [(2,pt b0 0),(3,pt bq 0),(4,pt bp 0),(6,iv (n:Int)),(17,iv ((m:Int) - (cs.length:Int))),(221,.slice kv cs.length kc),(222,.agg #[iv ((1 + g_309:Nat):Int),iv (g_321:Int),iv (g_383:Int),iv 0,iv (g_412:Int)])] [cl w_418 bp 6 (.slice kv cs.length kc),cl w_418 bc 0 (iv ((1 + g_309:Nat):Int)),cl w_418 bc 1 (iv (g_321:Int)),cl w_418 bc 2 (iv (g_383:Int)),cl w_418 bc 3 (iv 0),cl w_418 bc 4 (iv (g_412:Int))] (AC (cell_of (hM568.blk 5 rfl) rfl) (AC (cell_of (hM568.blk 0 rfl) rfl) (AC (cell_of (hM568.blk 0 rfl) rfl) (AC (cell_of (hM568.blk 0 rfl) rfl) (AC (cell_of (hM568.blk 0 rfl) rfl) (A1 (cell_of (hM568.blk 0 rfl) rfl))))))) ?_
     obtain ⟨cc,hcc⟩ : ∃ x,(⟨((1 + g_309:Nat):Int),(g_321:Int),(g_383:Int),0,(g_412:Int)⟩ : PCheck) = x := ⟨_,rfl⟩
     refine os0 (.bslice 27 1 [(0,.agg #[iv ((1 + g_309:Nat):Int),iv (g_321:Int),iv (g_383:Int),iv 0,iv (g_412:Int)])]) (some 223) (kOp (cAt Y14 (ro1 13 [0,1,0,0])) [1,0,0,1,1,1] 4 KT) (runs_bslice (cs := [iv ((1 + g_309:Nat):Int),iv (g_321:Int),iv (g_383:Int),iv 0,iv (g_412:Int)]) (e := 67) (by kernel_rfl)) ?_
     rintro _ w_419 ⟨bf,rfl,hN569⟩
     have hE570 := hE567.trans hN569.ext
     have hM571 := hM568.new hN569
     refine os0 (.builtin .append #[27,27] 27 #[false,false] [.slice kv cs.length kc,.slice (some ⟨bf,0,none⟩) 1 1]) (some 224) (kOp (cAt Y14 (ro1 13 [0,1,0,0])) [1,0,0,1,1,1] 5 KT) (runs_appH (e := 67) (size := 5) (bytes := 40) (by kernel_rfl) (hM571.row 2 rfl) (m := 1) (news := [iv ((1 + g_309:Nat):Int),iv (g_321:Int),iv (g_383:Int),iv 0,iv (g_412:Int)]) (hM571.blk 0 rfl) rfl (by simp [Value.oneCell']) (by omega) (by omega) hM571.base) ?_
     rintro vs572 w_420 ⟨hr573,hg574,ho575⟩
     have hr576 : w_420.ownsRow w.heap.size 67 5 vs572 ((cs ++ [cc]).length) ((cs ++ [cc]).flatMap checkC) := by subst hcc; simpa [checkC] using hr573
     have hE577 := hM571.toExtApp hE570 2 rfl hg574
     have hM578 := hM571.app 2 rfl hr576 hg574 ho575
     obtain ⟨kv2,kc2,hvsvs572⟩ := row_slice (hM578.row 2 rfl)
     subst hvsvs572
     refine sg0 1 (kOp (cAt Y14 (ro1 13 [0,1,0,0])) [1,0,0,1,1,1] 6 KT) [(2,pt b0 0),(3,pt bq 0),(4,pt bp 0),(6,iv (n:Int)),(17,iv ((m:Int) - (cs.length:Int))),(224,.slice kv2 ((cs ++ [cc]).length) kc2),(225,pt bp 6)] ?_
     refine os0 (.store 27 (pt bp 6) (.slice kv2 ((cs ++ [cc]).length) kc2)) none (kOp (cAt Y14 (ro1 13 [0,1,0,0])) [1,0,0,1,1,1] 7 KT) (runs_st (hM578.blk 6 rfl) (by kernel_rfl)) ?_
     rintro _ w_421 hC579
     have hE580 := hM578.toExt hE577 hC579 6 rfl
     have hM581 := hM578.set 6 rfl hC579
     refine sgz 7 [] KT [(2,pt b0 0),(3,pt bq 0),(4,pt bp 0),(6,iv (n:Int)),(17,iv (((m:Int) - (cs.length:Int)) - (1 : Int)))] [I64 (((m:Int) - (cs.length:Int)) - (1 : Int))] (A1 (i64 (by omega))) ?_
     have hM582 := hM581.pickT 9 [2,3,4,5,6,7,8] (by kernel_rfl)
     refine stEq (st' := (stz [(2,pt b0 0),(3,pt bq 0),(4,pt bp 0),(6,iv (n:Int)),(17,iv ((m:Int) - (((cs ++ [cc]).length:Nat):Int)))])) (by rw [show ((((m:Int) - (cs.length:Int)) - (1 : Int)) : Int) = ((m:Int) - (((cs ++ [cc]).length:Nat):Int)) from by rw [List.length_append]; show _ = (m:Int) - ((cs.length + 1:Nat):Int); omega]) ?_
     have h1 : netCheck1 n ds.length K = (cc,l_414) := by subst hcc; subst hg_310; subst hl_312; subst hg_322; subst hl_324; subst hg_384; subst hl_386; subst hg_413; subst hl_415; unfold netCheck1; simp only; rw [if_neg (by omega),if_pos (by omega)]
     have hx : (cc :: (netChecks (m - (cs.length + 1)) n ds.length (l_414)).1) = (netChecks (m - cs.length) n ds.length K).1 ∧ (netChecks (m - (cs.length + 1)) n ds.length (l_414)).2 = (netChecks (m - cs.length) n ds.length K).2 := by rw [hfx4,netChecks_step h1]; exact ⟨rfl,rfl⟩
     subst hKT
     exact again ((cs ++ [cc]),l_414,sa_407,sc_408,kv2,kc2) [2,3,4,6,17] (by kernel_rfl) (⟨hE580,hM582,hcs_410,hs_416,hks_411,by show (cs ++ [cc]).length ≤ m; rw [List.length_append]; exact hlt4,by show ((cs ++ [cc]) ++ (netChecks (m - (cs ++ [cc]).length) n ds.length _).1,(netChecks (m - (cs ++ [cc]).length) n ds.length _).2) = R2; rw [List.length_append,List.append_assoc,show [cc].length = 1 from rfl,List.singleton_append,hx.1,hx.2]; exact hacc4⟩) (by show m - (cs ++ [cc]).length < m - cs.length; rw [List.length_append]; show m - (cs.length + 1) < _; omega)
    refine sgz 5 [.ld (.slice kv cs.length kc),.ld (.agg #[iv ((1 + g_309:Nat):Int),iv (g_321:Int),iv (g_383:Int),iv 0,iv 0])] (kOp (cAt Y14 (ro1 13 [0,1,0,0])) [1,0,0,1,1,1] 3 KT) [(2,pt b0 0),(3,pt bq 0),(4,pt bp 0),(6,iv (n:Int)),(17,iv ((m:Int) - (cs.length:Int))),(221,.slice kv cs.length kc),(222,.agg #[iv ((1 + g_309:Nat):Int),iv (g_321:Int),iv (g_383:Int),iv 0,iv 0])] [cl w_389 bp 6 (.slice kv cs.length kc),cl w_389 bc 0 (iv ((1 + g_309:Nat):Int)),cl w_389 bc 1 (iv (g_321:Int)),cl w_389 bc 2 (iv (g_383:Int)),cl w_389 bc 3 (iv 0),cl w_389 bc 4 (iv 0)] (AC (cell_of (hM544.blk 5 rfl) rfl) (AC (cell_of (hM544.blk 0 rfl) rfl) (AC (cell_of (hM544.blk 0 rfl) rfl) (AC (cell_of (hM544.blk 0 rfl) rfl) (AC (cell_of (hM544.blk 0 rfl) rfl) (A1 (cell_of (hM544.blk 0 rfl) rfl))))))) ?_
    obtain ⟨cc,hcc⟩ : ∃ x,(⟨((1 + g_309:Nat):Int),(g_321:Int),(g_383:Int),0,0⟩ : PCheck) = x := ⟨_,rfl⟩
    refine os0 (.bslice 27 1 [(0,.agg #[iv ((1 + g_309:Nat):Int),iv (g_321:Int),iv (g_383:Int),iv 0,iv 0])]) (some 223) (kOp (cAt Y14 (ro1 13 [0,1,0,0])) [1,0,0,1,1,1] 4 KT) (runs_bslice (cs := [iv ((1 + g_309:Nat):Int),iv (g_321:Int),iv (g_383:Int),iv 0,iv 0]) (e := 67) (by kernel_rfl)) ?_
    rintro _ w_422 ⟨bf,rfl,hN583⟩
    have hE584 := hE543.trans hN583.ext
    have hM585 := hM544.new hN583
    refine os0 (.builtin .append #[27,27] 27 #[false,false] [.slice kv cs.length kc,.slice (some ⟨bf,0,none⟩) 1 1]) (some 224) (kOp (cAt Y14 (ro1 13 [0,1,0,0])) [1,0,0,1,1,1] 5 KT) (runs_appH (e := 67) (size := 5) (bytes := 40) (by kernel_rfl) (hM585.row 2 rfl) (m := 1) (news := [iv ((1 + g_309:Nat):Int),iv (g_321:Int),iv (g_383:Int),iv 0,iv 0]) (hM585.blk 0 rfl) rfl (by simp [Value.oneCell']) (by omega) (by omega) hM585.base) ?_
    rintro vs586 w_423 ⟨hr587,hg588,ho589⟩
    have hr590 : w_423.ownsRow w.heap.size 67 5 vs586 ((cs ++ [cc]).length) ((cs ++ [cc]).flatMap checkC) := by subst hcc; simpa [checkC] using hr587
    have hE591 := hM585.toExtApp hE584 2 rfl hg588
    have hM592 := hM585.app 2 rfl hr590 hg588 ho589
    obtain ⟨kv2,kc2,hvsvs586⟩ := row_slice (hM592.row 2 rfl)
    subst hvsvs586
    refine sg0 1 (kOp (cAt Y14 (ro1 13 [0,1,0,0])) [1,0,0,1,1,1] 6 KT) [(2,pt b0 0),(3,pt bq 0),(4,pt bp 0),(6,iv (n:Int)),(17,iv ((m:Int) - (cs.length:Int))),(224,.slice kv2 ((cs ++ [cc]).length) kc2),(225,pt bp 6)] ?_
    refine os0 (.store 27 (pt bp 6) (.slice kv2 ((cs ++ [cc]).length) kc2)) none (kOp (cAt Y14 (ro1 13 [0,1,0,0])) [1,0,0,1,1,1] 7 KT) (runs_st (hM592.blk 6 rfl) (by kernel_rfl)) ?_
    rintro _ w_424 hC593
    have hE594 := hM592.toExt hE591 hC593 6 rfl
    have hM595 := hM592.set 6 rfl hC593
    refine sgz 7 [] KT [(2,pt b0 0),(3,pt bq 0),(4,pt bp 0),(6,iv (n:Int)),(17,iv (((m:Int) - (cs.length:Int)) - (1 : Int)))] [I64 (((m:Int) - (cs.length:Int)) - (1 : Int))] (A1 (i64 (by omega))) ?_
    have hM596 := hM595.pickT 9 [2,3,4,5,6,7,8] (by kernel_rfl)
    refine stEq (st' := (stz [(2,pt b0 0),(3,pt bq 0),(4,pt bp 0),(6,iv (n:Int)),(17,iv ((m:Int) - (((cs ++ [cc]).length:Nat):Int)))])) (by rw [show ((((m:Int) - (cs.length:Int)) - (1 : Int)) : Int) = ((m:Int) - (((cs ++ [cc]).length:Nat):Int)) from by rw [List.length_append]; show _ = (m:Int) - ((cs.length + 1:Nat):Int); omega]) ?_
    have h1 : netCheck1 n ds.length K = (cc,l_385) := by subst hcc; subst hg_310; subst hl_312; subst hg_322; subst hl_324; subst hg_384; subst hl_386; unfold netCheck1; simp only; rw [if_neg (by omega),if_neg (by omega)]
    have hx : (cc :: (netChecks (m - (cs.length + 1)) n ds.length (l_385)).1) = (netChecks (m - cs.length) n ds.length K).1 ∧ (netChecks (m - (cs.length + 1)) n ds.length (l_385)).2 = (netChecks (m - cs.length) n ds.length K).2 := by rw [hfx4,netChecks_step h1]; exact ⟨rfl,rfl⟩
    subst hKT
    exact again ((cs ++ [cc]),l_385,sa_378,sc_379,kv2,kc2) [2,3,4,6,17] (by kernel_rfl) (⟨hE594,hM596,hcs_381,hs_387,hks_382,by show (cs ++ [cc]).length ≤ m; rw [List.length_append]; exact hlt4,by show ((cs ++ [cc]) ++ (netChecks (m - (cs ++ [cc]).length) n ds.length _).1,(netChecks (m - (cs ++ [cc]).length) n ds.length _).2) = R2; rw [List.length_append,List.append_assoc,show [cc].length = 1 from rfl,List.singleton_append,hx.1,hx.2]; exact hacc4⟩) (by show m - (cs ++ [cc]).length < m - cs.length; rw [List.length_append]; show m - (cs.length + 1) < _; omega)
   refine dos [] (.alloc 67) (some 18) [] (lb 14 5087) trivial (runs_alloc (z := .agg #[iv 0,iv 0,iv 0,iv 0,iv 0]) (by kernel_rfl)) ?_
   rintro _ w_425 ⟨bc,rfl,hN597⟩
   have hE598 := hE473.trans hN597.ext
   have hM599 := hM474.new hN597
   refine ⟨(hM599.blk 5 rfl),?_⟩
   obtain ⟨g_432,hg_433⟩ : ∃ x,nextV l_311 n = x := ⟨_,rfl⟩
   obtain ⟨l_434,hl_435⟩ : ∃ x,l_311.drop 1 = x := ⟨_,rfl⟩
   have hs_436 : Small l_434 := hl_435 ▸ hs_313.drop 1
   have hv_437 := nextV_lt l_311 (n := n) (by omega)
   rw [hg_433] at hv_437
   refine dAll 5 [] (by kernel_rfl) ?_
   refine dos [] (.call 30 [pt bq 0,iv (n:Int)]) (some 195) [] (lb 14 5119) trivial (runs_call E30 (by have h := next_any w bq l_311 sa_304 sc_305 n w_425 hE598 hcs_307 hs_313 (by omega) hks_308 (hM599.blk 6 rfl); rw [hg_433,hl_435] at h; exact h)) ?_
   rintro _ w_426 ⟨rfl,sa_427,sc_428,hC_429,hcs_430,hks_431⟩
   have hE600 := hM599.toExt hE598 hC_429 6 rfl
   have hM601 := hM599.set 6 rfl hC_429
   refine ⟨(hM601.blk 5 rfl),?_⟩
   obtain ⟨g_444,hg_445⟩ : ∃ x,nextV l_434 ds.length = x := ⟨_,rfl⟩
   obtain ⟨l_446,hl_447⟩ : ∃ x,l_434.drop 1 = x := ⟨_,rfl⟩
   have hs_448 : Small l_446 := hl_447 ▸ hs_436.drop 1
   have hv_449 := nextV_lt l_434 (n := ds.length) (by omega)
   rw [hg_445] at hv_449
   refine dAll 10 [] (by kernel_rfl) ?_
   refine dos [] (.call 30 [pt bq 0,iv (ds.length:Int)]) (some 200) [] (lb 14 6143) trivial (runs_call E30 (by have h := next_any w bq l_434 sa_427 sc_428 ds.length w_426 hE600 hcs_430 hs_436 (by omega) hks_431 (hM601.blk 6 rfl); rw [hg_445,hl_447] at h; exact h)) ?_
   rintro _ w_438 ⟨rfl,sa_439,sc_440,hC_441,hcs_442,hks_443⟩
   have hE602 := hM601.toExt hE600 hC_441 6 rfl
   have hM603 := hM601.set 6 rfl hC_441
   refine ⟨(hM603.blk 5 rfl),?_⟩
   refine dtz [11] [] 1 (lb 14 8191) [(2,pt b0 0),(3,pt bq 0),(4,pt bp 0),(6,iv (n:Int)),(17,iv ((m:Int) - (cs.length:Int))),(18,pt bc 0),(201,.agg #[iv ((1 + g_309:Nat):Int),iv (g_432:Int),iv (g_444:Int),iv 0,iv 0])] (fun w' => []) (fun w' hS => trivial) ((hM603.blk 5 rfl)) ?_
   refine dAll 13 [] (by kernel_rfl) ?_
   refine dos [] (.store 67 (pt bc 0) (.agg #[iv ((1 + g_309:Nat):Int),iv (g_432:Int),iv (g_444:Int),iv 0,iv 0])) none [] (lb 14 16383) trivial (runs_st (hM603.blk 0 rfl) (by kernel_rfl)) ?_
   rintro _ w_450 hC604
   have hE605 := hM603.toExt hE602 hC604 0 rfl
   have hM606 := hM603.set 0 rfl hC604
   refine ⟨(hM606.blk 5 rfl),?_⟩
   refine dDone (by kernel_rfl) ?_
   refine sgz 7 [.ld (iv ((1 + g_309:Nat):Int))] (kAt (cAt Y14 (ro1 13 [0,1,0,0])) [1,0,0,1,0,1] KT) [(2,pt b0 0),(3,pt bq 0),(4,pt bp 0),(6,iv (n:Int)),(17,iv ((m:Int) - (cs.length:Int))),(18,pt bc 0),(204,.bool (decide (((1 + g_309:Nat):Int) = (2 : Int))))] [cl w_450 bc 0 (iv ((1 + g_309:Nat):Int))] (A1 (cell_of (hM606.blk 0 rfl) rfl)) ?_
   refine brd (((1 + g_309:Nat):Int) = (2 : Int)) (fun hkd => ?_) (fun hkd => ?_)
   ·refine sg0 2 (kOp (cAt Y14 (ro1 13 [0,1,0,0])) [1,0,0,1,0,1,0] 1 KT) [(2,pt b0 0),(3,pt bq 0),(4,pt bp 0),(6,iv (n:Int)),(17,iv ((m:Int) - (cs.length:Int))),(18,pt bc 0),(205,pt bq 0)] ?_
    obtain ⟨g_457,hg_458⟩ : ∃ x,nextV l_446 20 = x := ⟨_,rfl⟩
    obtain ⟨l_459,hl_460⟩ : ∃ x,l_446.drop 1 = x := ⟨_,rfl⟩
    have hs_461 : Small l_459 := hl_460 ▸ hs_448.drop 1
    have hv_462 := nextV_lt l_446 (n := 20) (by omega)
    rw [hg_458] at hv_462
    refine os0 (.call 30 [pt bq 0,iv 20]) (some 206) (kOp (cAt Y14 (ro1 13 [0,1,0,0])) [1,0,0,1,0,1,0] 2 KT) (runs_call E30 (by have h := next_any w bq l_446 sa_439 sc_440 20 w_450 hE605 hcs_442 hs_448 (by omega) hks_443 (hM606.blk 6 rfl); rw [hg_458,hl_460] at h; exact h)) ?_
    rintro _ w_451 ⟨rfl,sa_452,sc_453,hC_454,hcs_455,hks_456⟩
    have hE607 := hM606.toExt hE605 hC_454 6 rfl
    have hM608 := hM606.set 6 rfl hC_454
    refine sg0 1 (kOp (cAt Y14 (ro1 13 [0,1,0,0])) [1,0,0,1,0,1,0] 3 KT) [(2,pt b0 0),(3,pt bq 0),(4,pt bp 0),(6,iv (n:Int)),(17,iv ((m:Int) - (cs.length:Int))),(18,pt bc 0),(206,iv (g_457:Int)),(207,pt bc 3)] ?_
    refine os0 (.store 3 (pt bc 3) (iv (g_457:Int))) none (kOp (cAt Y14 (ro1 13 [0,1,0,0])) [1,0,0,1,0,1,0] 4 KT) (runs_st (hM608.blk 0 rfl) (by kernel_rfl)) ?_
    rintro _ w_463 hC609
    have hE610 := hM608.toExt hE607 hC609 0 rfl
    have hM611 := hM608.set 0 rfl hC609
    refine sgz 13 [.ld (iv ((1 + g_309:Nat):Int)),.sym,.sym,.ld (iv ((1 + g_309:Nat):Int)),.sym] (kAt (cAt Y14 (ro1 13 [0,1,0,0])) [1,0,0,1,1,0,1] KT) [(2,pt b0 0),(3,pt bq 0),(4,pt bp 0),(6,iv (n:Int)),(17,iv ((m:Int) - (cs.length:Int))),(18,pt bc 0),(215,.bool ((decide (((1 + g_309:Nat):Int) = (3 : Int))) || (decide (((1 + g_309:Nat):Int) = (4 : Int)))))] ((fun (z1 : Bool) => ([cl w_463 bc 0 (iv ((1 + g_309:Nat):Int)),z1 = true → z1 = true,z1 = true → cl w_463 bc 0 (iv ((1 + g_309:Nat):Int)),z1 = true → z1 = true,z1 = true → z1 = true] : List Prop)) (!(decide (((1 + g_309:Nat):Int) = (3 : Int))))) (AC (cell_of (hM611.blk 0 rfl) rfl) (AC (fun h => h) (AC (fun _ => cell_of (hM611.blk 0 rfl) rfl) (AC (fun h => h) (A1 (fun h => h)))))) ?_
    refine brk _ ((((1 + g_309:Nat):Int) = (3 : Int)) ∨ (((1 + g_309:Nat):Int) = (4 : Int))) ((iffOr iffDec iffDec)) (fun hk34 => ?_) (fun hk34 => ?_)
    ·exfalso; omega
    refine sgz 5 [.ld (.slice kv cs.length kc),.ld (.agg #[iv ((1 + g_309:Nat):Int),iv (g_432:Int),iv (g_444:Int),iv (g_457:Int),iv 0])] (kOp (cAt Y14 (ro1 13 [0,1,0,0])) [1,0,0,1,1,1] 3 KT) [(2,pt b0 0),(3,pt bq 0),(4,pt bp 0),(6,iv (n:Int)),(17,iv ((m:Int) - (cs.length:Int))),(221,.slice kv cs.length kc),(222,.agg #[iv ((1 + g_309:Nat):Int),iv (g_432:Int),iv (g_444:Int),iv (g_457:Int),iv 0])] [cl w_463 bp 6 (.slice kv cs.length kc),cl w_463 bc 0 (iv ((1 + g_309:Nat):Int)),cl w_463 bc 1 (iv (g_432:Int)),cl w_463 bc 2 (iv (g_444:Int)),cl w_463 bc 3 (iv (g_457:Int)),cl w_463 bc 4 (iv 0)] (AC (cell_of (hM611.blk 5 rfl) rfl) (AC (cell_of (hM611.blk 0 rfl) rfl) (AC (cell_of (hM611.blk 0 rfl) rfl) (AC (cell_of (hM611.blk 0 rfl) rfl) (AC (cell_of (hM611.blk 0 rfl) rfl) (A1 (cell_of (hM611.blk 0 rfl) rfl))))))) ?_
    obtain ⟨cc,hcc⟩ : ∃ x,(⟨((1 + g_309:Nat):Int),(g_432:Int),(g_444:Int),(g_457:Int),0⟩ : PCheck) = x := ⟨_,rfl⟩
    refine os0 (.bslice 27 1 [(0,.agg #[iv ((1 + g_309:Nat):Int),iv (g_432:Int),iv (g_444:Int),iv (g_457:Int),iv 0])]) (some 223) (kOp (cAt Y14 (ro1 13 [0,1,0,0])) [1,0,0,1,1,1] 4 KT) (runs_bslice (cs := [iv ((1 + g_309:Nat):Int),iv (g_432:Int),iv (g_444:Int),iv (g_457:Int),iv 0]) (e := 67) (by kernel_rfl)) ?_
    rintro _ w_464 ⟨bf,rfl,hN612⟩
    have hE613 := hE610.trans hN612.ext
    have hM614 := hM611.new hN612
    refine os0 (.builtin .append #[27,27] 27 #[false,false] [.slice kv cs.length kc,.slice (some ⟨bf,0,none⟩) 1 1]) (some 224) (kOp (cAt Y14 (ro1 13 [0,1,0,0])) [1,0,0,1,1,1] 5 KT) (runs_appH (e := 67) (size := 5) (bytes := 40) (by kernel_rfl) (hM614.row 2 rfl) (m := 1) (news := [iv ((1 + g_309:Nat):Int),iv (g_432:Int),iv (g_444:Int),iv (g_457:Int),iv 0]) (hM614.blk 0 rfl) rfl (by simp [Value.oneCell']) (by omega) (by omega) hM614.base) ?_
    rintro vs615 w_465 ⟨hr616,hg617,ho618⟩
    have hr619 : w_465.ownsRow w.heap.size 67 5 vs615 ((cs ++ [cc]).length) ((cs ++ [cc]).flatMap checkC) := by subst hcc; simpa [checkC] using hr616
    have hE620 := hM614.toExtApp hE613 2 rfl hg617
    have hM621 := hM614.app 2 rfl hr619 hg617 ho618
    obtain ⟨kv2,kc2,hvsvs615⟩ := row_slice (hM621.row 2 rfl)
    subst hvsvs615
    refine sg0 1 (kOp (cAt Y14 (ro1 13 [0,1,0,0])) [1,0,0,1,1,1] 6 KT) [(2,pt b0 0),(3,pt bq 0),(4,pt bp 0),(6,iv (n:Int)),(17,iv ((m:Int) - (cs.length:Int))),(224,.slice kv2 ((cs ++ [cc]).length) kc2),(225,pt bp 6)] ?_
    refine os0 (.store 27 (pt bp 6) (.slice kv2 ((cs ++ [cc]).length) kc2)) none (kOp (cAt Y14 (ro1 13 [0,1,0,0])) [1,0,0,1,1,1] 7 KT) (runs_st (hM621.blk 6 rfl) (by kernel_rfl)) ?_
    rintro _ w_466 hC622
    have hE623 := hM621.toExt hE620 hC622 6 rfl
    have hM624 := hM621.set 6 rfl hC622
    refine sgz 7 [] KT [(2,pt b0 0),(3,pt bq 0),(4,pt bp 0),(6,iv (n:Int)),(17,iv (((m:Int) - (cs.length:Int)) - (1 : Int)))] [I64 (((m:Int) - (cs.length:Int)) - (1 : Int))] (A1 (i64 (by omega))) ?_
    have hM625 := hM624.pickT 9 [2,3,4,5,6,7,8] (by kernel_rfl)
    refine stEq (st' := (stz [(2,pt b0 0),(3,pt bq 0),(4,pt bp 0),(6,iv (n:Int)),(17,iv ((m:Int) - (((cs ++ [cc]).length:Nat):Int)))])) (by rw [show ((((m:Int) - (cs.length:Int)) - (1 : Int)) : Int) = ((m:Int) - (((cs ++ [cc]).length:Nat):Int)) from by rw [List.length_append]; show _ = (m:Int) - ((cs.length + 1:Nat):Int); omega]) ?_
    have h1 : netCheck1 n ds.length K = (cc,l_459) := by subst hcc; subst hg_310; subst hl_312; subst hg_433; subst hl_435; subst hg_445; subst hl_447; subst hg_458; subst hl_460; unfold netCheck1; simp only; rw [if_pos (by omega)]
    have hx : (cc :: (netChecks (m - (cs.length + 1)) n ds.length (l_459)).1) = (netChecks (m - cs.length) n ds.length K).1 ∧ (netChecks (m - (cs.length + 1)) n ds.length (l_459)).2 = (netChecks (m - cs.length) n ds.length K).2 := by rw [hfx4,netChecks_step h1]; exact ⟨rfl,rfl⟩
    subst hKT
    exact again ((cs ++ [cc]),l_459,sa_452,sc_453,kv2,kc2) [2,3,4,6,17] (by kernel_rfl) (⟨hE623,hM625,hcs_455,hs_461,hks_456,by show (cs ++ [cc]).length ≤ m; rw [List.length_append]; exact hlt4,by show ((cs ++ [cc]) ++ (netChecks (m - (cs ++ [cc]).length) n ds.length _).1,(netChecks (m - (cs ++ [cc]).length) n ds.length _).2) = R2; rw [List.length_append,List.append_assoc,show [cc].length = 1 from rfl,List.singleton_append,hx.1,hx.2]; exact hacc4⟩) (by show m - (cs ++ [cc]).length < m - cs.length; rw [List.length_append]; show m - (cs.length + 1) < _; omega)
   refine sgz 13 [.ld (iv ((1 + g_309:Nat):Int)),.sym,.sym,.ld (iv ((1 + g_309:Nat):Int)),.sym] (kAt (cAt Y14 (ro1 13 [0,1,0,0])) [1,0,0,1,1,0,1] KT) [(2,pt b0 0),(3,pt bq 0),(4,pt bp 0),(6,iv (n:Int)),(17,iv ((m:Int) - (cs.length:Int))),(18,pt bc 0),(215,.bool ((decide (((1 + g_309:Nat):Int) = (3 : Int))) || (decide (((1 + g_309:Nat):Int) = (4 : Int)))))] ((fun (z1 : Bool) => ([cl w_450 bc 0 (iv ((1 + g_309:Nat):Int)),z1 = true → z1 = true,z1 = true → cl w_450 bc 0 (iv ((1 + g_309:Nat):Int)),z1 = true → z1 = true,z1 = true → z1 = true] : List Prop)) (!(decide (((1 + g_309:Nat):Int) = (3 : Int))))) (AC (cell_of (hM606.blk 0 rfl) rfl) (AC (fun h => h) (AC (fun _ => cell_of (hM606.blk 0 rfl) rfl) (AC (fun h => h) (A1 (fun h => h)))))) ?_
   refine brk _ ((((1 + g_309:Nat):Int) = (3 : Int)) ∨ (((1 + g_309:Nat):Int) = (4 : Int))) ((iffOr iffDec iffDec)) (fun hk34 => ?_) (fun hk34 => ?_)
   ·refine sg0 3 (kOp (cAt Y14 (ro1 13 [0,1,0,0])) [1,0,0,1,1,0,1,0] 2 KT) [(2,pt b0 0),(3,pt bq 0),(4,pt bp 0),(6,iv (n:Int)),(17,iv ((m:Int) - (cs.length:Int))),(18,pt bc 0),(216,pt bq 0),(217,iv (n:Int))] ?_
    obtain ⟨g_473,hg_474⟩ : ∃ x,nextV l_446 n = x := ⟨_,rfl⟩
    obtain ⟨l_475,hl_476⟩ : ∃ x,l_446.drop 1 = x := ⟨_,rfl⟩
    have hs_477 : Small l_475 := hl_476 ▸ hs_448.drop 1
    have hv_478 := nextV_lt l_446 (n := n) (by omega)
    rw [hg_474] at hv_478
    refine os0 (.call 30 [pt bq 0,iv (n:Int)]) (some 218) (kOp (cAt Y14 (ro1 13 [0,1,0,0])) [1,0,0,1,1,0,1,0] 3 KT) (runs_call E30 (by have h := next_any w bq l_446 sa_439 sc_440 n w_450 hE605 hcs_442 hs_448 (by omega) hks_443 (hM606.blk 6 rfl); rw [hg_474,hl_476] at h; exact h)) ?_
    rintro _ w_467 ⟨rfl,sa_468,sc_469,hC_470,hcs_471,hks_472⟩
    have hE626 := hM606.toExt hE605 hC_470 6 rfl
    have hM627 := hM606.set 6 rfl hC_470
    refine sg0 1 (kOp (cAt Y14 (ro1 13 [0,1,0,0])) [1,0,0,1,1,0,1,0] 4 KT) [(2,pt b0 0),(3,pt bq 0),(4,pt bp 0),(6,iv (n:Int)),(17,iv ((m:Int) - (cs.length:Int))),(18,pt bc 0),(218,iv (g_473:Int)),(219,pt bc 4)] ?_
    refine os0 (.store 3 (pt bc 4) (iv (g_473:Int))) none (kOp (cAt Y14 (ro1 13 [0,1,0,0])) [1,0,0,1,1,0,1,0] 5 KT) (runs_st (hM627.blk 0 rfl) (by kernel_rfl)) ?_
    rintro _ w_479 hC628
    have hE629 := hM627.toExt hE626 hC628 0 rfl
    have hM630 := hM627.set 0 rfl hC628
    refine sgz 5 [.ld (.slice kv cs.length kc),.ld (.agg #[iv ((1 + g_309:Nat):Int),iv (g_432:Int),iv (g_444:Int),iv 0,iv (g_473:Int)])] (kOp (cAt Y14 (ro1 13 [0,1,0,0])) [1,0,0,1,1,1] 3 KT) [(2,pt b0 0),(3,pt bq 0),(4,pt bp 0),(6,iv (n:Int)),(17,iv ((m:Int) - (cs.length:Int))),(221,.slice kv cs.length kc),(222,.agg #[iv ((1 + g_309:Nat):Int),iv (g_432:Int),iv (g_444:Int),iv 0,iv (g_473:Int)])] [cl w_479 bp 6 (.slice kv cs.length kc),cl w_479 bc 0 (iv ((1 + g_309:Nat):Int)),cl w_479 bc 1 (iv (g_432:Int)),cl w_479 bc 2 (iv (g_444:Int)),cl w_479 bc 3 (iv 0),cl w_479 bc 4 (iv (g_473:Int))] (AC (cell_of (hM630.blk 5 rfl) rfl) (AC (cell_of (hM630.blk 0 rfl) rfl) (AC (cell_of (hM630.blk 0 rfl) rfl) (AC (cell_of (hM630.blk 0 rfl) rfl) (AC (cell_of (hM630.blk 0 rfl) rfl) (A1 (cell_of (hM630.blk 0 rfl) rfl))))))) ?_
    obtain ⟨cc,hcc⟩ : ∃ x,(⟨((1 + g_309:Nat):Int),(g_432:Int),(g_444:Int),0,(g_473:Int)⟩ : PCheck) = x := ⟨_,rfl⟩
    refine os0 (.bslice 27 1 [(0,.agg #[iv ((1 + g_309:Nat):Int),iv (g_432:Int),iv (g_444:Int),iv 0,iv (g_473:Int)])]) (some 223) (kOp (cAt Y14 (ro1 13 [0,1,0,0])) [1,0,0,1,1,1] 4 KT) (runs_bslice (cs := [iv ((1 + g_309:Nat):Int),iv (g_432:Int),iv (g_444:Int),iv 0,iv (g_473:Int)]) (e := 67) (by kernel_rfl)) ?_
    rintro _ w_480 ⟨bf,rfl,hN631⟩
    have hE632 := hE629.trans hN631.ext
    have hM633 := hM630.new hN631
    refine os0 (.builtin .append #[27,27] 27 #[false,false] [.slice kv cs.length kc,.slice (some ⟨bf,0,none⟩) 1 1]) (some 224) (kOp (cAt Y14 (ro1 13 [0,1,0,0])) [1,0,0,1,1,1] 5 KT) (runs_appH (e := 67) (size := 5) (bytes := 40) (by kernel_rfl) (hM633.row 2 rfl) (m := 1) (news := [iv ((1 + g_309:Nat):Int),iv (g_432:Int),iv (g_444:Int),iv 0,iv (g_473:Int)]) (hM633.blk 0 rfl) rfl (by simp [Value.oneCell']) (by omega) (by omega) hM633.base) ?_
    rintro vs634 w_481 ⟨hr635,hg636,ho637⟩
    have hr638 : w_481.ownsRow w.heap.size 67 5 vs634 ((cs ++ [cc]).length) ((cs ++ [cc]).flatMap checkC) := by subst hcc; simpa [checkC] using hr635
    have hE639 := hM633.toExtApp hE632 2 rfl hg636
    have hM640 := hM633.app 2 rfl hr638 hg636 ho637
    obtain ⟨kv2,kc2,hvsvs634⟩ := row_slice (hM640.row 2 rfl)
    subst hvsvs634
    refine sg0 1 (kOp (cAt Y14 (ro1 13 [0,1,0,0])) [1,0,0,1,1,1] 6 KT) [(2,pt b0 0),(3,pt bq 0),(4,pt bp 0),(6,iv (n:Int)),(17,iv ((m:Int) - (cs.length:Int))),(224,.slice kv2 ((cs ++ [cc]).length) kc2),(225,pt bp 6)] ?_
    refine os0 (.store 27 (pt bp 6) (.slice kv2 ((cs ++ [cc]).length) kc2)) none (kOp (cAt Y14 (ro1 13 [0,1,0,0])) [1,0,0,1,1,1] 7 KT) (runs_st (hM640.blk 6 rfl) (by kernel_rfl)) ?_
    rintro _ w_482 hC641
    have hE642 := hM640.toExt hE639 hC641 6 rfl
    have hM643 := hM640.set 6 rfl hC641
    refine sgz 7 [] KT [(2,pt b0 0),(3,pt bq 0),(4,pt bp 0),(6,iv (n:Int)),(17,iv (((m:Int) - (cs.length:Int)) - (1 : Int)))] [I64 (((m:Int) - (cs.length:Int)) - (1 : Int))] (A1 (i64 (by omega))) ?_
    have hM644 := hM643.pickT 9 [2,3,4,5,6,7,8] (by kernel_rfl)
    refine stEq (st' := (stz [(2,pt b0 0),(3,pt bq 0),(4,pt bp 0),(6,iv (n:Int)),(17,iv ((m:Int) - (((cs ++ [cc]).length:Nat):Int)))])) (by rw [show ((((m:Int) - (cs.length:Int)) - (1 : Int)) : Int) = ((m:Int) - (((cs ++ [cc]).length:Nat):Int)) from by rw [List.length_append]; show _ = (m:Int) - ((cs.length + 1:Nat):Int); omega]) ?_
    have h1 : netCheck1 n ds.length K = (cc,l_475) := by subst hcc; subst hg_310; subst hl_312; subst hg_433; subst hl_435; subst hg_445; subst hl_447; subst hg_474; subst hl_476; unfold netCheck1; simp only; rw [if_neg (by omega),if_pos (by omega)]
    have hx : (cc :: (netChecks (m - (cs.length + 1)) n ds.length (l_475)).1) = (netChecks (m - cs.length) n ds.length K).1 ∧ (netChecks (m - (cs.length + 1)) n ds.length (l_475)).2 = (netChecks (m - cs.length) n ds.length K).2 := by rw [hfx4,netChecks_step h1]; exact ⟨rfl,rfl⟩
    subst hKT
    exact again ((cs ++ [cc]),l_475,sa_468,sc_469,kv2,kc2) [2,3,4,6,17] (by kernel_rfl) (⟨hE642,hM644,hcs_471,hs_477,hks_472,by show (cs ++ [cc]).length ≤ m; rw [List.length_append]; exact hlt4,by show ((cs ++ [cc]) ++ (netChecks (m - (cs ++ [cc]).length) n ds.length _).1,(netChecks (m - (cs ++ [cc]).length) n ds.length _).2) = R2; rw [List.length_append,List.append_assoc,show [cc].length = 1 from rfl,List.singleton_append,hx.1,hx.2]; exact hacc4⟩) (by show m - (cs ++ [cc]).length < m - cs.length; rw [List.length_append]; show m - (cs.length + 1) < _; omega)
   refine sgz 5 [.ld (.slice kv cs.length kc),.ld (.agg #[iv ((1 + g_309:Nat):Int),iv (g_432:Int),iv (g_444:Int),iv 0,iv 0])] (kOp (cAt Y14 (ro1 13 [0,1,0,0])) [1,0,0,1,1,1] 3 KT) [(2,pt b0 0),(3,pt bq 0),(4,pt bp 0),(6,iv (n:Int)),(17,iv ((m:Int) - (cs.length:Int))),(221,.slice kv cs.length kc),(222,.agg #[iv ((1 + g_309:Nat):Int),iv (g_432:Int),iv (g_444:Int),iv 0,iv 0])] [cl w_450 bp 6 (.slice kv cs.length kc),cl w_450 bc 0 (iv ((1 + g_309:Nat):Int)),cl w_450 bc 1 (iv (g_432:Int)),cl w_450 bc 2 (iv (g_444:Int)),cl w_450 bc 3 (iv 0),cl w_450 bc 4 (iv 0)] (AC (cell_of (hM606.blk 5 rfl) rfl) (AC (cell_of (hM606.blk 0 rfl) rfl) (AC (cell_of (hM606.blk 0 rfl) rfl) (AC (cell_of (hM606.blk 0 rfl) rfl) (AC (cell_of (hM606.blk 0 rfl) rfl) (A1 (cell_of (hM606.blk 0 rfl) rfl))))))) ?_
   obtain ⟨cc,hcc⟩ : ∃ x,(⟨((1 + g_309:Nat):Int),(g_432:Int),(g_444:Int),0,0⟩ : PCheck) = x := ⟨_,rfl⟩
   refine os0 (.bslice 27 1 [(0,.agg #[iv ((1 + g_309:Nat):Int),iv (g_432:Int),iv (g_444:Int),iv 0,iv 0])]) (some 223) (kOp (cAt Y14 (ro1 13 [0,1,0,0])) [1,0,0,1,1,1] 4 KT) (runs_bslice (cs := [iv ((1 + g_309:Nat):Int),iv (g_432:Int),iv (g_444:Int),iv 0,iv 0]) (e := 67) (by kernel_rfl)) ?_
   rintro _ w_483 ⟨bf,rfl,hN645⟩
   have hE646 := hE605.trans hN645.ext
   have hM647 := hM606.new hN645
   refine os0 (.builtin .append #[27,27] 27 #[false,false] [.slice kv cs.length kc,.slice (some ⟨bf,0,none⟩) 1 1]) (some 224) (kOp (cAt Y14 (ro1 13 [0,1,0,0])) [1,0,0,1,1,1] 5 KT) (runs_appH (e := 67) (size := 5) (bytes := 40) (by kernel_rfl) (hM647.row 2 rfl) (m := 1) (news := [iv ((1 + g_309:Nat):Int),iv (g_432:Int),iv (g_444:Int),iv 0,iv 0]) (hM647.blk 0 rfl) rfl (by simp [Value.oneCell']) (by omega) (by omega) hM647.base) ?_
   rintro vs648 w_484 ⟨hr649,hg650,ho651⟩
   have hr652 : w_484.ownsRow w.heap.size 67 5 vs648 ((cs ++ [cc]).length) ((cs ++ [cc]).flatMap checkC) := by subst hcc; simpa [checkC] using hr649
   have hE653 := hM647.toExtApp hE646 2 rfl hg650
   have hM654 := hM647.app 2 rfl hr652 hg650 ho651
   obtain ⟨kv2,kc2,hvsvs648⟩ := row_slice (hM654.row 2 rfl)
   subst hvsvs648
   refine sg0 1 (kOp (cAt Y14 (ro1 13 [0,1,0,0])) [1,0,0,1,1,1] 6 KT) [(2,pt b0 0),(3,pt bq 0),(4,pt bp 0),(6,iv (n:Int)),(17,iv ((m:Int) - (cs.length:Int))),(224,.slice kv2 ((cs ++ [cc]).length) kc2),(225,pt bp 6)] ?_
   refine os0 (.store 27 (pt bp 6) (.slice kv2 ((cs ++ [cc]).length) kc2)) none (kOp (cAt Y14 (ro1 13 [0,1,0,0])) [1,0,0,1,1,1] 7 KT) (runs_st (hM654.blk 6 rfl) (by kernel_rfl)) ?_
   rintro _ w_485 hC655
   have hE656 := hM654.toExt hE653 hC655 6 rfl
   have hM657 := hM654.set 6 rfl hC655
   refine sgz 7 [] KT [(2,pt b0 0),(3,pt bq 0),(4,pt bp 0),(6,iv (n:Int)),(17,iv (((m:Int) - (cs.length:Int)) - (1 : Int)))] [I64 (((m:Int) - (cs.length:Int)) - (1 : Int))] (A1 (i64 (by omega))) ?_
   have hM658 := hM657.pickT 9 [2,3,4,5,6,7,8] (by kernel_rfl)
   refine stEq (st' := (stz [(2,pt b0 0),(3,pt bq 0),(4,pt bp 0),(6,iv (n:Int)),(17,iv ((m:Int) - (((cs ++ [cc]).length:Nat):Int)))])) (by rw [show ((((m:Int) - (cs.length:Int)) - (1 : Int)) : Int) = ((m:Int) - (((cs ++ [cc]).length:Nat):Int)) from by rw [List.length_append]; show _ = (m:Int) - ((cs.length + 1:Nat):Int); omega]) ?_
   have h1 : netCheck1 n ds.length K = (cc,l_446) := by subst hcc; subst hg_310; subst hl_312; subst hg_433; subst hl_435; subst hg_445; subst hl_447; unfold netCheck1; simp only; rw [if_neg (by omega),if_neg (by omega)]
   have hx : (cc :: (netChecks (m - (cs.length + 1)) n ds.length (l_446)).1) = (netChecks (m - cs.length) n ds.length K).1 ∧ (netChecks (m - (cs.length + 1)) n ds.length (l_446)).2 = (netChecks (m - cs.length) n ds.length K).2 := by rw [hfx4,netChecks_step h1]; exact ⟨rfl,rfl⟩
   subst hKT
   exact again ((cs ++ [cc]),l_446,sa_439,sc_440,kv2,kc2) [2,3,4,6,17] (by kernel_rfl) (⟨hE656,hM658,hcs_442,hs_448,hks_443,by show (cs ++ [cc]).length ≤ m; rw [List.length_append]; exact hlt4,by show ((cs ++ [cc]) ++ (netChecks (m - (cs ++ [cc]).length) n ds.length _).1,(netChecks (m - (cs ++ [cc]).length) n ds.length _).2) = R2; rw [List.length_append,List.append_assoc,show [cc].length = 1 from rfl,List.singleton_append,hx.1,hx.2]; exact hacc4⟩) (by show m - (cs ++ [cc]).length < m - cs.length; rw [List.length_append]; show m - (cs.length + 1) < _; omega)
  refine dos [] (.alloc 67) (some 18) [] (lb 14 5081) trivial (runs_alloc (z := .agg #[iv 0,iv 0,iv 0,iv 0,iv 0]) (by kernel_rfl)) ?_
  rintro _ w_486 ⟨bc,rfl,hN659⟩
  have hE660 := hE471.trans hN659.ext
  have hM661 := hM472.new hN659
  refine ⟨(hM661.blk 5 rfl),?_⟩
  obtain ⟨g_493,hg_494⟩ : ∃ x,nextV K 4 = x := ⟨_,rfl⟩
  obtain ⟨l_495,hl_496⟩ : ∃ x,K.drop 1 = x := ⟨_,rfl⟩
  have hs_497 : Small l_495 := hl_496 ▸ hs4.drop 1
  have hv_498 := nextV_lt K (n := 4) (by omega)
  rw [hg_494] at hv_498
  refine dAll 1 [] (by kernel_rfl) ?_
  refine dos [] (.call 30 [pt bq 0,iv 4]) (some 191) [] (lb 14 5083) trivial (runs_call E30 (by have h := next_any w bq K s4 e4 4 w_486 hE660 hc4 hs4 (by omega) hk4 (hM661.blk 6 rfl); rw [hg_494,hl_496] at h; exact h)) ?_
  rintro _ w_487 ⟨rfl,sa_488,sc_489,hC_490,hcs_491,hks_492⟩
  have hE662 := hM661.toExt hE660 hC_490 6 rfl
  have hM663 := hM661.set 6 rfl hC_490
  refine ⟨(hM663.blk 5 rfl),?_⟩
  refine dtz [2] [] 4 (lb 14 5087) [(2,pt b0 0),(3,pt bq 0),(4,pt bp 0),(6,iv (n:Int)),(17,iv ((m:Int) - (cs.length:Int))),(18,pt bc 0),(192,iv ((1 + g_493:Nat):Int)),(193,pt bq 0),(194,iv (n:Int)),(196,pt bq 0),(199,iv (ds.length:Int))] (fun w' => [I64 ((1 + g_493:Nat):Int)]) (fun w' hS => (A1 (i64 (by omega)))) ((hM663.blk 5 rfl)) ?_
  obtain ⟨g_505,hg_506⟩ : ∃ x,nextV l_495 n = x := ⟨_,rfl⟩
  obtain ⟨l_507,hl_508⟩ : ∃ x,l_495.drop 1 = x := ⟨_,rfl⟩
  have hs_509 : Small l_507 := hl_508 ▸ hs_497.drop 1
  have hv_510 := nextV_lt l_495 (n := n) (by omega)
  rw [hg_506] at hv_510
  refine dAll 5 [] (by kernel_rfl) ?_
  refine dos [] (.call 30 [pt bq 0,iv (n:Int)]) (some 195) [] (lb 14 5119) trivial (runs_call E30 (by have h := next_any w bq l_495 sa_488 sc_489 n w_487 hE662 hcs_491 hs_497 (by omega) hks_492 (hM663.blk 6 rfl); rw [hg_506,hl_508] at h; exact h)) ?_
  rintro _ w_499 ⟨rfl,sa_500,sc_501,hC_502,hcs_503,hks_504⟩
  have hE664 := hM663.toExt hE662 hC_502 6 rfl
  have hM665 := hM663.set 6 rfl hC_502
  refine ⟨(hM665.blk 5 rfl),?_⟩
  obtain ⟨g_517,hg_518⟩ : ∃ x,nextV l_507 ds.length = x := ⟨_,rfl⟩
  obtain ⟨l_519,hl_520⟩ : ∃ x,l_507.drop 1 = x := ⟨_,rfl⟩
  have hs_521 : Small l_519 := hl_520 ▸ hs_509.drop 1
  have hv_522 := nextV_lt l_507 (n := ds.length) (by omega)
  rw [hg_518] at hv_522
  refine dAll 10 [] (by kernel_rfl) ?_
  refine dos [] (.call 30 [pt bq 0,iv (ds.length:Int)]) (some 200) [] (lb 14 6143) trivial (runs_call E30 (by have h := next_any w bq l_507 sa_500 sc_501 ds.length w_499 hE664 hcs_503 hs_509 (by omega) hks_504 (hM665.blk 6 rfl); rw [hg_518,hl_520] at h; exact h)) ?_
  rintro _ w_511 ⟨rfl,sa_512,sc_513,hC_514,hcs_515,hks_516⟩
  have hE666 := hM665.toExt hE664 hC_514 6 rfl
  have hM667 := hM665.set 6 rfl hC_514
  refine ⟨(hM667.blk 5 rfl),?_⟩
  refine dtz [11] [] 1 (lb 14 8191) [(2,pt b0 0),(3,pt bq 0),(4,pt bp 0),(6,iv (n:Int)),(17,iv ((m:Int) - (cs.length:Int))),(18,pt bc 0),(201,.agg #[iv ((1 + g_493:Nat):Int),iv (g_505:Int),iv (g_517:Int),iv 0,iv 0])] (fun w' => []) (fun w' hS => trivial) ((hM667.blk 5 rfl)) ?_
  refine dAll 13 [] (by kernel_rfl) ?_
  refine dos [] (.store 67 (pt bc 0) (.agg #[iv ((1 + g_493:Nat):Int),iv (g_505:Int),iv (g_517:Int),iv 0,iv 0])) none [] (lb 14 16383) trivial (runs_st (hM667.blk 0 rfl) (by kernel_rfl)) ?_
  rintro _ w_523 hC668
  have hE669 := hM667.toExt hE666 hC668 0 rfl
  have hM670 := hM667.set 0 rfl hC668
  refine ⟨(hM670.blk 5 rfl),?_⟩
  refine dDone (by kernel_rfl) ?_
  refine sgz 7 [.ld (iv ((1 + g_493:Nat):Int))] (kAt (cAt Y14 (ro1 13 [0,1,0,0])) [1,0,0,1,0,1] KT) [(2,pt b0 0),(3,pt bq 0),(4,pt bp 0),(6,iv (n:Int)),(17,iv ((m:Int) - (cs.length:Int))),(18,pt bc 0),(204,.bool (decide (((1 + g_493:Nat):Int) = (2 : Int))))] [cl w_523 bc 0 (iv ((1 + g_493:Nat):Int))] (A1 (cell_of (hM670.blk 0 rfl) rfl)) ?_
  refine brd (((1 + g_493:Nat):Int) = (2 : Int)) (fun hkd => ?_) (fun hkd => ?_)
  ·refine sg0 2 (kOp (cAt Y14 (ro1 13 [0,1,0,0])) [1,0,0,1,0,1,0] 1 KT) [(2,pt b0 0),(3,pt bq 0),(4,pt bp 0),(6,iv (n:Int)),(17,iv ((m:Int) - (cs.length:Int))),(18,pt bc 0),(205,pt bq 0)] ?_
   obtain ⟨g_530,hg_531⟩ : ∃ x,nextV l_519 20 = x := ⟨_,rfl⟩
   obtain ⟨l_532,hl_533⟩ : ∃ x,l_519.drop 1 = x := ⟨_,rfl⟩
   have hs_534 : Small l_532 := hl_533 ▸ hs_521.drop 1
   have hv_535 := nextV_lt l_519 (n := 20) (by omega)
   rw [hg_531] at hv_535
   refine os0 (.call 30 [pt bq 0,iv 20]) (some 206) (kOp (cAt Y14 (ro1 13 [0,1,0,0])) [1,0,0,1,0,1,0] 2 KT) (runs_call E30 (by have h := next_any w bq l_519 sa_512 sc_513 20 w_523 hE669 hcs_515 hs_521 (by omega) hks_516 (hM670.blk 6 rfl); rw [hg_531,hl_533] at h; exact h)) ?_
   rintro _ w_524 ⟨rfl,sa_525,sc_526,hC_527,hcs_528,hks_529⟩
   have hE671 := hM670.toExt hE669 hC_527 6 rfl
   have hM672 := hM670.set 6 rfl hC_527
   refine sg0 1 (kOp (cAt Y14 (ro1 13 [0,1,0,0])) [1,0,0,1,0,1,0] 3 KT) [(2,pt b0 0),(3,pt bq 0),(4,pt bp 0),(6,iv (n:Int)),(17,iv ((m:Int) - (cs.length:Int))),(18,pt bc 0),(206,iv (g_530:Int)),(207,pt bc 3)] ?_
   refine os0 (.store 3 (pt bc 3) (iv (g_530:Int))) none (kOp (cAt Y14 (ro1 13 [0,1,0,0])) [1,0,0,1,0,1,0] 4 KT) (runs_st (hM672.blk 0 rfl) (by kernel_rfl)) ?_
   rintro _ w_536 hC673
   have hE674 := hM672.toExt hE671 hC673 0 rfl
   have hM675 := hM672.set 0 rfl hC673
   refine sgz 13 [.ld (iv ((1 + g_493:Nat):Int)),.sym,.sym,.ld (iv ((1 + g_493:Nat):Int)),.sym] (kAt (cAt Y14 (ro1 13 [0,1,0,0])) [1,0,0,1,1,0,1] KT) [(2,pt b0 0),(3,pt bq 0),(4,pt bp 0),(6,iv (n:Int)),(17,iv ((m:Int) - (cs.length:Int))),(18,pt bc 0),(215,.bool ((decide (((1 + g_493:Nat):Int) = (3 : Int))) || (decide (((1 + g_493:Nat):Int) = (4 : Int)))))] ((fun (z1 : Bool) => ([cl w_536 bc 0 (iv ((1 + g_493:Nat):Int)),z1 = true → z1 = true,z1 = true → cl w_536 bc 0 (iv ((1 + g_493:Nat):Int)),z1 = true → z1 = true,z1 = true → z1 = true] : List Prop)) (!(decide (((1 + g_493:Nat):Int) = (3 : Int))))) (AC (cell_of (hM675.blk 0 rfl) rfl) (AC (fun h => h) (AC (fun _ => cell_of (hM675.blk 0 rfl) rfl) (AC (fun h => h) (A1 (fun h => h)))))) ?_
   refine brk _ ((((1 + g_493:Nat):Int) = (3 : Int)) ∨ (((1 + g_493:Nat):Int) = (4 : Int))) ((iffOr iffDec iffDec)) (fun hk34 => ?_) (fun hk34 => ?_)
   ·exfalso; omega
   refine sgz 5 [.ld (.slice kv cs.length kc),.ld (.agg #[iv ((1 + g_493:Nat):Int),iv (g_505:Int),iv (g_517:Int),iv (g_530:Int),iv 0])] (kOp (cAt Y14 (ro1 13 [0,1,0,0])) [1,0,0,1,1,1] 3 KT) [(2,pt b0 0),(3,pt bq 0),(4,pt bp 0),(6,iv (n:Int)),(17,iv ((m:Int) - (cs.length:Int))),(221,.slice kv cs.length kc),(222,.agg #[iv ((1 + g_493:Nat):Int),iv (g_505:Int),iv (g_517:Int),iv (g_530:Int),iv 0])] [cl w_536 bp 6 (.slice kv cs.length kc),cl w_536 bc 0 (iv ((1 + g_493:Nat):Int)),cl w_536 bc 1 (iv (g_505:Int)),cl w_536 bc 2 (iv (g_517:Int)),cl w_536 bc 3 (iv (g_530:Int)),cl w_536 bc 4 (iv 0)] (AC (cell_of (hM675.blk 5 rfl) rfl) (AC (cell_of (hM675.blk 0 rfl) rfl) (AC (cell_of (hM675.blk 0 rfl) rfl) (AC (cell_of (hM675.blk 0 rfl) rfl) (AC (cell_of (hM675.blk 0 rfl) rfl) (A1 (cell_of (hM675.blk 0 rfl) rfl))))))) ?_
   obtain ⟨cc,hcc⟩ : ∃ x,(⟨((1 + g_493:Nat):Int),(g_505:Int),(g_517:Int),(g_530:Int),0⟩ : PCheck) = x := ⟨_,rfl⟩
   refine os0 (.bslice 27 1 [(0,.agg #[iv ((1 + g_493:Nat):Int),iv (g_505:Int),iv (g_517:Int),iv (g_530:Int),iv 0])]) (some 223) (kOp (cAt Y14 (ro1 13 [0,1,0,0])) [1,0,0,1,1,1] 4 KT) (runs_bslice (cs := [iv ((1 + g_493:Nat):Int),iv (g_505:Int),iv (g_517:Int),iv (g_530:Int),iv 0]) (e := 67) (by kernel_rfl)) ?_
   rintro _ w_537 ⟨bf,rfl,hN676⟩
   have hE677 := hE674.trans hN676.ext
   have hM678 := hM675.new hN676
   refine os0 (.builtin .append #[27,27] 27 #[false,false] [.slice kv cs.length kc,.slice (some ⟨bf,0,none⟩) 1 1]) (some 224) (kOp (cAt Y14 (ro1 13 [0,1,0,0])) [1,0,0,1,1,1] 5 KT) (runs_appH (e := 67) (size := 5) (bytes := 40) (by kernel_rfl) (hM678.row 2 rfl) (m := 1) (news := [iv ((1 + g_493:Nat):Int),iv (g_505:Int),iv (g_517:Int),iv (g_530:Int),iv 0]) (hM678.blk 0 rfl) rfl (by simp [Value.oneCell']) (by omega) (by omega) hM678.base) ?_
   rintro vs679 w_538 ⟨hr680,hg681,ho682⟩
   have hr683 : w_538.ownsRow w.heap.size 67 5 vs679 ((cs ++ [cc]).length) ((cs ++ [cc]).flatMap checkC) := by subst hcc; simpa [checkC] using hr680
   have hE684 := hM678.toExtApp hE677 2 rfl hg681
   have hM685 := hM678.app 2 rfl hr683 hg681 ho682
   obtain ⟨kv2,kc2,hvsvs679⟩ := row_slice (hM685.row 2 rfl)
   subst hvsvs679
   refine sg0 1 (kOp (cAt Y14 (ro1 13 [0,1,0,0])) [1,0,0,1,1,1] 6 KT) [(2,pt b0 0),(3,pt bq 0),(4,pt bp 0),(6,iv (n:Int)),(17,iv ((m:Int) - (cs.length:Int))),(224,.slice kv2 ((cs ++ [cc]).length) kc2),(225,pt bp 6)] ?_
   refine os0 (.store 27 (pt bp 6) (.slice kv2 ((cs ++ [cc]).length) kc2)) none (kOp (cAt Y14 (ro1 13 [0,1,0,0])) [1,0,0,1,1,1] 7 KT) (runs_st (hM685.blk 6 rfl) (by kernel_rfl)) ?_
   rintro _ w_539 hC686
   have hE687 := hM685.toExt hE684 hC686 6 rfl
   have hM688 := hM685.set 6 rfl hC686
   refine sgz 7 [] KT [(2,pt b0 0),(3,pt bq 0),(4,pt bp 0),(6,iv (n:Int)),(17,iv (((m:Int) - (cs.length:Int)) - (1 : Int)))] [I64 (((m:Int) - (cs.length:Int)) - (1 : Int))] (A1 (i64 (by omega))) ?_
   have hM689 := hM688.pickT 9 [2,3,4,5,6,7,8] (by kernel_rfl)
   refine stEq (st' := (stz [(2,pt b0 0),(3,pt bq 0),(4,pt bp 0),(6,iv (n:Int)),(17,iv ((m:Int) - (((cs ++ [cc]).length:Nat):Int)))])) (by rw [show ((((m:Int) - (cs.length:Int)) - (1 : Int)) : Int) = ((m:Int) - (((cs ++ [cc]).length:Nat):Int)) from by rw [List.length_append]; show _ = (m:Int) - ((cs.length + 1:Nat):Int); omega]) ?_
   have h1 : netCheck1 n ds.length K = (cc,l_532) := by subst hcc; subst hg_494; subst hl_496; subst hg_506; subst hl_508; subst hg_518; subst hl_520; subst hg_531; subst hl_533; unfold netCheck1; simp only; rw [if_pos (by omega)]
   have hx : (cc :: (netChecks (m - (cs.length + 1)) n ds.length (l_532)).1) = (netChecks (m - cs.length) n ds.length K).1 ∧ (netChecks (m - (cs.length + 1)) n ds.length (l_532)).2 = (netChecks (m - cs.length) n ds.length K).2 := by rw [hfx4,netChecks_step h1]; exact ⟨rfl,rfl⟩
   subst hKT
   exact again ((cs ++ [cc]),l_532,sa_525,sc_526,kv2,kc2) [2,3,4,6,17] (by kernel_rfl) (⟨hE687,hM689,hcs_528,hs_534,hks_529,by show (cs ++ [cc]).length ≤ m; rw [List.length_append]; exact hlt4,by show ((cs ++ [cc]) ++ (netChecks (m - (cs ++ [cc]).length) n ds.length _).1,(netChecks (m - (cs ++ [cc]).length) n ds.length _).2) = R2; rw [List.length_append,List.append_assoc,show [cc].length = 1 from rfl,List.singleton_append,hx.1,hx.2]; exact hacc4⟩) (by show m - (cs ++ [cc]).length < m - cs.length; rw [List.length_append]; show m - (cs.length + 1) < _; omega)
  refine sgz 13 [.ld (iv ((1 + g_493:Nat):Int)),.sym,.sym,.ld (iv ((1 + g_493:Nat):Int)),.sym] (kAt (cAt Y14 (ro1 13 [0,1,0,0])) [1,0,0,1,1,0,1] KT) [(2,pt b0 0),(3,pt bq 0),(4,pt bp 0),(6,iv (n:Int)),(17,iv ((m:Int) - (cs.length:Int))),(18,pt bc 0),(215,.bool ((decide (((1 + g_493:Nat):Int) = (3 : Int))) || (decide (((1 + g_493:Nat):Int) = (4 : Int)))))] ((fun (z1 : Bool) => ([cl w_523 bc 0 (iv ((1 + g_493:Nat):Int)),z1 = true → z1 = true,z1 = true → cl w_523 bc 0 (iv ((1 + g_493:Nat):Int)),z1 = true → z1 = true,z1 = true → z1 = true] : List Prop)) (!(decide (((1 + g_493:Nat):Int) = (3 : Int))))) (AC (cell_of (hM670.blk 0 rfl) rfl) (AC (fun h => h) (AC (fun _ => cell_of (hM670.blk 0 rfl) rfl) (AC (fun h => h) (A1 (fun h => h)))))) ?_
  refine brk _ ((((1 + g_493:Nat):Int) = (3 : Int)) ∨ (((1 + g_493:Nat):Int) = (4 : Int))) ((iffOr iffDec iffDec)) (fun hk34 => ?_) (fun hk34 => ?_)
  ·refine sg0 3 (kOp (cAt Y14 (ro1 13 [0,1,0,0])) [1,0,0,1,1,0,1,0] 2 KT) [(2,pt b0 0),(3,pt bq 0),(4,pt bp 0),(6,iv (n:Int)),(17,iv ((m:Int) - (cs.length:Int))),(18,pt bc 0),(216,pt bq 0),(217,iv (n:Int))] ?_
   obtain ⟨g_546,hg_547⟩ : ∃ x,nextV l_519 n = x := ⟨_,rfl⟩
   obtain ⟨l_548,hl_549⟩ : ∃ x,l_519.drop 1 = x := ⟨_,rfl⟩
   have hs_550 : Small l_548 := hl_549 ▸ hs_521.drop 1
   have hv_551 := nextV_lt l_519 (n := n) (by omega)
   rw [hg_547] at hv_551
   refine os0 (.call 30 [pt bq 0,iv (n:Int)]) (some 218) (kOp (cAt Y14 (ro1 13 [0,1,0,0])) [1,0,0,1,1,0,1,0] 3 KT) (runs_call E30 (by have h := next_any w bq l_519 sa_512 sc_513 n w_523 hE669 hcs_515 hs_521 (by omega) hks_516 (hM670.blk 6 rfl); rw [hg_547,hl_549] at h; exact h)) ?_
   rintro _ w_540 ⟨rfl,sa_541,sc_542,hC_543,hcs_544,hks_545⟩
   have hE690 := hM670.toExt hE669 hC_543 6 rfl
   have hM691 := hM670.set 6 rfl hC_543
   refine sg0 1 (kOp (cAt Y14 (ro1 13 [0,1,0,0])) [1,0,0,1,1,0,1,0] 4 KT) [(2,pt b0 0),(3,pt bq 0),(4,pt bp 0),(6,iv (n:Int)),(17,iv ((m:Int) - (cs.length:Int))),(18,pt bc 0),(218,iv (g_546:Int)),(219,pt bc 4)] ?_
   refine os0 (.store 3 (pt bc 4) (iv (g_546:Int))) none (kOp (cAt Y14 (ro1 13 [0,1,0,0])) [1,0,0,1,1,0,1,0] 5 KT) (runs_st (hM691.blk 0 rfl) (by kernel_rfl)) ?_
   rintro _ w_552 hC692
   have hE693 := hM691.toExt hE690 hC692 0 rfl
   have hM694 := hM691.set 0 rfl hC692
   refine sgz 5 [.ld (.slice kv cs.length kc),.ld (.agg #[iv ((1 + g_493:Nat):Int),iv (g_505:Int),iv (g_517:Int),iv 0,iv (g_546:Int)])] (kOp (cAt Y14 (ro1 13 [0,1,0,0])) [1,0,0,1,1,1] 3 KT) [(2,pt b0 0),(3,pt bq 0),(4,pt bp 0),(6,iv (n:Int)),(17,iv ((m:Int) - (cs.length:Int))),(221,.slice kv cs.length kc),(222,.agg #[iv ((1 + g_493:Nat):Int),iv (g_505:Int),iv (g_517:Int),iv 0,iv (g_546:Int)])] [cl w_552 bp 6 (.slice kv cs.length kc),cl w_552 bc 0 (iv ((1 + g_493:Nat):Int)),cl w_552 bc 1 (iv (g_505:Int)),cl w_552 bc 2 (iv (g_517:Int)),cl w_552 bc 3 (iv 0),cl w_552 bc 4 (iv (g_546:Int))] (AC (cell_of (hM694.blk 5 rfl) rfl) (AC (cell_of (hM694.blk 0 rfl) rfl) (AC (cell_of (hM694.blk 0 rfl) rfl) (AC (cell_of (hM694.blk 0 rfl) rfl) (AC (cell_of (hM694.blk 0 rfl) rfl) (A1 (cell_of (hM694.blk 0 rfl) rfl))))))) ?_
   obtain ⟨cc,hcc⟩ : ∃ x,(⟨((1 + g_493:Nat):Int),(g_505:Int),(g_517:Int),0,(g_546:Int)⟩ : PCheck) = x := ⟨_,rfl⟩
   refine os0 (.bslice 27 1 [(0,.agg #[iv ((1 + g_493:Nat):Int),iv (g_505:Int),iv (g_517:Int),iv 0,iv (g_546:Int)])]) (some 223) (kOp (cAt Y14 (ro1 13 [0,1,0,0])) [1,0,0,1,1,1] 4 KT) (runs_bslice (cs := [iv ((1 + g_493:Nat):Int),iv (g_505:Int),iv (g_517:Int),iv 0,iv (g_546:Int)]) (e := 67) (by kernel_rfl)) ?_
   rintro _ w_553 ⟨bf,rfl,hN695⟩
   have hE696 := hE693.trans hN695.ext
   have hM697 := hM694.new hN695
   refine os0 (.builtin .append #[27,27] 27 #[false,false] [.slice kv cs.length kc,.slice (some ⟨bf,0,none⟩) 1 1]) (some 224) (kOp (cAt Y14 (ro1 13 [0,1,0,0])) [1,0,0,1,1,1] 5 KT) (runs_appH (e := 67) (size := 5) (bytes := 40) (by kernel_rfl) (hM697.row 2 rfl) (m := 1) (news := [iv ((1 + g_493:Nat):Int),iv (g_505:Int),iv (g_517:Int),iv 0,iv (g_546:Int)]) (hM697.blk 0 rfl) rfl (by simp [Value.oneCell']) (by omega) (by omega) hM697.base) ?_
   rintro vs698 w_554 ⟨hr699,hg700,ho701⟩
   have hr702 : w_554.ownsRow w.heap.size 67 5 vs698 ((cs ++ [cc]).length) ((cs ++ [cc]).flatMap checkC) := by subst hcc; simpa [checkC] using hr699
   have hE703 := hM697.toExtApp hE696 2 rfl hg700
   have hM704 := hM697.app 2 rfl hr702 hg700 ho701
   obtain ⟨kv2,kc2,hvsvs698⟩ := row_slice (hM704.row 2 rfl)
   subst hvsvs698
   refine sg0 1 (kOp (cAt Y14 (ro1 13 [0,1,0,0])) [1,0,0,1,1,1] 6 KT) [(2,pt b0 0),(3,pt bq 0),(4,pt bp 0),(6,iv (n:Int)),(17,iv ((m:Int) - (cs.length:Int))),(224,.slice kv2 ((cs ++ [cc]).length) kc2),(225,pt bp 6)] ?_
   refine os0 (.store 27 (pt bp 6) (.slice kv2 ((cs ++ [cc]).length) kc2)) none (kOp (cAt Y14 (ro1 13 [0,1,0,0])) [1,0,0,1,1,1] 7 KT) (runs_st (hM704.blk 6 rfl) (by kernel_rfl)) ?_
   rintro _ w_555 hC705
   have hE706 := hM704.toExt hE703 hC705 6 rfl
   have hM707 := hM704.set 6 rfl hC705
   refine sgz 7 [] KT [(2,pt b0 0),(3,pt bq 0),(4,pt bp 0),(6,iv (n:Int)),(17,iv (((m:Int) - (cs.length:Int)) - (1 : Int)))] [I64 (((m:Int) - (cs.length:Int)) - (1 : Int))] (A1 (i64 (by omega))) ?_
   have hM708 := hM707.pickT 9 [2,3,4,5,6,7,8] (by kernel_rfl)
   refine stEq (st' := (stz [(2,pt b0 0),(3,pt bq 0),(4,pt bp 0),(6,iv (n:Int)),(17,iv ((m:Int) - (((cs ++ [cc]).length:Nat):Int)))])) (by rw [show ((((m:Int) - (cs.length:Int)) - (1 : Int)) : Int) = ((m:Int) - (((cs ++ [cc]).length:Nat):Int)) from by rw [List.length_append]; show _ = (m:Int) - ((cs.length + 1:Nat):Int); omega]) ?_
   have h1 : netCheck1 n ds.length K = (cc,l_548) := by subst hcc; subst hg_494; subst hl_496; subst hg_506; subst hl_508; subst hg_518; subst hl_520; subst hg_547; subst hl_549; unfold netCheck1; simp only; rw [if_neg (by omega),if_pos (by omega)]
   have hx : (cc :: (netChecks (m - (cs.length + 1)) n ds.length (l_548)).1) = (netChecks (m - cs.length) n ds.length K).1 ∧ (netChecks (m - (cs.length + 1)) n ds.length (l_548)).2 = (netChecks (m - cs.length) n ds.length K).2 := by rw [hfx4,netChecks_step h1]; exact ⟨rfl,rfl⟩
   subst hKT
   exact again ((cs ++ [cc]),l_548,sa_541,sc_542,kv2,kc2) [2,3,4,6,17] (by kernel_rfl) (⟨hE706,hM708,hcs_544,hs_550,hks_545,by show (cs ++ [cc]).length ≤ m; rw [List.length_append]; exact hlt4,by show ((cs ++ [cc]) ++ (netChecks (m - (cs ++ [cc]).length) n ds.length _).1,(netChecks (m - (cs ++ [cc]).length) n ds.length _).2) = R2; rw [List.length_append,List.append_assoc,show [cc].length = 1 from rfl,List.singleton_append,hx.1,hx.2]; exact hacc4⟩) (by show m - (cs ++ [cc]).length < m - cs.length; rw [List.length_append]; show m - (cs.length + 1) < _; omega)
  refine sgz 5 [.ld (.slice kv cs.length kc),.ld (.agg #[iv ((1 + g_493:Nat):Int),iv (g_505:Int),iv (g_517:Int),iv 0,iv 0])] (kOp (cAt Y14 (ro1 13 [0,1,0,0])) [1,0,0,1,1,1] 3 KT) [(2,pt b0 0),(3,pt bq 0),(4,pt bp 0),(6,iv (n:Int)),(17,iv ((m:Int) - (cs.length:Int))),(221,.slice kv cs.length kc),(222,.agg #[iv ((1 + g_493:Nat):Int),iv (g_505:Int),iv (g_517:Int),iv 0,iv 0])] [cl w_523 bp 6 (.slice kv cs.length kc),cl w_523 bc 0 (iv ((1 + g_493:Nat):Int)),cl w_523 bc 1 (iv (g_505:Int)),cl w_523 bc 2 (iv (g_517:Int)),cl w_523 bc 3 (iv 0),cl w_523 bc 4 (iv 0)] (AC (cell_of (hM670.blk 5 rfl) rfl) (AC (cell_of (hM670.blk 0 rfl) rfl) (AC (cell_of (hM670.blk 0 rfl) rfl) (AC (cell_of (hM670.blk 0 rfl) rfl) (AC (cell_of (hM670.blk 0 rfl) rfl) (A1 (cell_of (hM670.blk 0 rfl) rfl))))))) ?_
  obtain ⟨cc,hcc⟩ : ∃ x,(⟨((1 + g_493:Nat):Int),(g_505:Int),(g_517:Int),0,0⟩ : PCheck) = x := ⟨_,rfl⟩
  refine os0 (.bslice 27 1 [(0,.agg #[iv ((1 + g_493:Nat):Int),iv (g_505:Int),iv (g_517:Int),iv 0,iv 0])]) (some 223) (kOp (cAt Y14 (ro1 13 [0,1,0,0])) [1,0,0,1,1,1] 4 KT) (runs_bslice (cs := [iv ((1 + g_493:Nat):Int),iv (g_505:Int),iv (g_517:Int),iv 0,iv 0]) (e := 67) (by kernel_rfl)) ?_
  rintro _ w_556 ⟨bf,rfl,hN709⟩
  have hE710 := hE669.trans hN709.ext
  have hM711 := hM670.new hN709
  refine os0 (.builtin .append #[27,27] 27 #[false,false] [.slice kv cs.length kc,.slice (some ⟨bf,0,none⟩) 1 1]) (some 224) (kOp (cAt Y14 (ro1 13 [0,1,0,0])) [1,0,0,1,1,1] 5 KT) (runs_appH (e := 67) (size := 5) (bytes := 40) (by kernel_rfl) (hM711.row 2 rfl) (m := 1) (news := [iv ((1 + g_493:Nat):Int),iv (g_505:Int),iv (g_517:Int),iv 0,iv 0]) (hM711.blk 0 rfl) rfl (by simp [Value.oneCell']) (by omega) (by omega) hM711.base) ?_
  rintro vs712 w_557 ⟨hr713,hg714,ho715⟩
  have hr716 : w_557.ownsRow w.heap.size 67 5 vs712 ((cs ++ [cc]).length) ((cs ++ [cc]).flatMap checkC) := by subst hcc; simpa [checkC] using hr713
  have hE717 := hM711.toExtApp hE710 2 rfl hg714
  have hM718 := hM711.app 2 rfl hr716 hg714 ho715
  obtain ⟨kv2,kc2,hvsvs712⟩ := row_slice (hM718.row 2 rfl)
  subst hvsvs712
  refine sg0 1 (kOp (cAt Y14 (ro1 13 [0,1,0,0])) [1,0,0,1,1,1] 6 KT) [(2,pt b0 0),(3,pt bq 0),(4,pt bp 0),(6,iv (n:Int)),(17,iv ((m:Int) - (cs.length:Int))),(224,.slice kv2 ((cs ++ [cc]).length) kc2),(225,pt bp 6)] ?_
  refine os0 (.store 27 (pt bp 6) (.slice kv2 ((cs ++ [cc]).length) kc2)) none (kOp (cAt Y14 (ro1 13 [0,1,0,0])) [1,0,0,1,1,1] 7 KT) (runs_st (hM718.blk 6 rfl) (by kernel_rfl)) ?_
  rintro _ w_558 hC719
  have hE720 := hM718.toExt hE717 hC719 6 rfl
  have hM721 := hM718.set 6 rfl hC719
  refine sgz 7 [] KT [(2,pt b0 0),(3,pt bq 0),(4,pt bp 0),(6,iv (n:Int)),(17,iv (((m:Int) - (cs.length:Int)) - (1 : Int)))] [I64 (((m:Int) - (cs.length:Int)) - (1 : Int))] (A1 (i64 (by omega))) ?_
  have hM722 := hM721.pickT 9 [2,3,4,5,6,7,8] (by kernel_rfl)
  refine stEq (st' := (stz [(2,pt b0 0),(3,pt bq 0),(4,pt bp 0),(6,iv (n:Int)),(17,iv ((m:Int) - (((cs ++ [cc]).length:Nat):Int)))])) (by rw [show ((((m:Int) - (cs.length:Int)) - (1 : Int)) : Int) = ((m:Int) - (((cs ++ [cc]).length:Nat):Int)) from by rw [List.length_append]; show _ = (m:Int) - ((cs.length + 1:Nat):Int); omega]) ?_
  have h1 : netCheck1 n ds.length K = (cc,l_519) := by subst hcc; subst hg_494; subst hl_496; subst hg_506; subst hl_508; subst hg_518; subst hl_520; unfold netCheck1; simp only; rw [if_neg (by omega),if_neg (by omega)]
  have hx : (cc :: (netChecks (m - (cs.length + 1)) n ds.length (l_519)).1) = (netChecks (m - cs.length) n ds.length K).1 ∧ (netChecks (m - (cs.length + 1)) n ds.length (l_519)).2 = (netChecks (m - cs.length) n ds.length K).2 := by rw [hfx4,netChecks_step h1]; exact ⟨rfl,rfl⟩
  subst hKT
  exact again ((cs ++ [cc]),l_519,sa_512,sc_513,kv2,kc2) [2,3,4,6,17] (by kernel_rfl) (⟨hE720,hM722,hcs_515,hs_521,hks_516,by show (cs ++ [cc]).length ≤ m; rw [List.length_append]; exact hlt4,by show ((cs ++ [cc]) ++ (netChecks (m - (cs ++ [cc]).length) n ds.length _).1,(netChecks (m - (cs ++ [cc]).length) n ds.length _).2) = R2; rw [List.length_append,List.append_assoc,show [cc].length = 1 from rfl,List.singleton_append,hx.1,hx.2]; exact hacc4⟩) (by show m - (cs ++ [cc]).length < m - cs.length; rw [List.length_append]; show m - (cs.length + 1) < _; omega)
 have hle5 : cs.length = m := by omega
 rw [hle5,Nat.sub_self] at hacc4
 have hD2 : netD raw = (cs,K) := by rw [hDeq,← hacc4]; simp [netChecks]
 refine sgz 4 [.ld (.agg #[iv pr,iv (cp:Int),iv (min (kk:Int) (la.length:Int)),.slice av acc.length cv,.slice lv la.length lc,.slice xv ds.length xc,.slice kv cs.length kc])] (kOp Y14 (ro1 14 [0]) 1 []) [(2,pt b0 0),(226,.agg #[iv pr,iv (cp:Int),iv (min (kk:Int) (la.length:Int)),.slice av acc.length cv,.slice lv la.length lc,.slice xv ds.length xc,.slice kv cs.length kc])] [cl wk bp 0 (iv pr),cl wk bp 1 (iv (cp:Int)),cl wk bp 2 (iv (min (kk:Int) (la.length:Int))),cl wk bp 3 (.slice av acc.length cv),cl wk bp 4 (.slice lv la.length lc),cl wk bp 5 (.slice xv ds.length xc),cl wk bp 6 (.slice kv cs.length kc)] (AC (cell_of (hM4.blk 4 rfl) rfl) (AC (cell_of (hM4.blk 4 rfl) rfl) (AC (cell_of (hM4.blk 4 rfl) rfl) (AC (cell_of (hM4.blk 4 rfl) rfl) (AC (cell_of (hM4.blk 4 rfl) rfl) (AC (cell_of (hM4.blk 4 rfl) rfl) (A1 (cell_of (hM4.blk 4 rfl) rfl)))))))) ?_
 refine os0 (.store 29 (pt b0 0) (.agg #[iv pr,iv (cp:Int),iv (min (kk:Int) (la.length:Int)),.slice av acc.length cv,.slice lv la.length lc,.slice xv ds.length xc,.slice kv cs.length kc])) none (kOp Y14 (ro1 14 [0]) 2 []) (runs_st (hM4.blk 6 rfl) (by kernel_rfl)) ?_
 rintro _ w_559 hC723
 have hE724 := hM4.toExt hE4 hC723 6 rfl
 have hM725 := hM4.set 6 rfl hC723
 refine sg0 1 (kAt Y14 (ro1 15 []) []) [(2,pt b0 0)] ?_
 have hnet : netP raw = ⟨pr,(cp:Int),min (kk:Int) (la.length:Int),acc,la,ds.map (·.d),cs⟩ := by unfold netP; rw [hpr,hcp,hkk,hA,hB,hC2,hD2]
 have hM726 : Hold w_559 w.heap.size ([.row (.slice kv cs.length kc) 67 5 cs.length (cs.flatMap checkC),.row (.slice xv ds.length xc) 54 2 ds.length (ds.flatMap destC),.row (.slice lv la.length lc) 61 3 la.length (la.flatMap linkC),.row (.slice av acc.length cv) 52 2 acc.length (acc.flatMap nodeC),.blk bp ([iv pr,iv (cp:Int),iv (min (kk:Int) (la.length:Int)),.slice av acc.length cv,.slice lv la.length lc,.slice xv ds.length xc,.slice kv cs.length kc]) 29,.blk bq ([.slice s4 K.length e4]) 64,.blk b0 ([iv pr,iv (cp:Int),iv (min (kk:Int) (la.length:Int)),.slice av acc.length cv,.slice lv la.length lc,.slice xv ds.length xc,.slice kv cs.length kc]) 29] ++ origR ds) := hM725
 have hM_560 := hM726.keepTail [3,2,1,0] (by decide) (by simp) rfl
 exact retD (hs := [.agg #[iv pr,iv (cp:Int),iv (min (kk:Int) (la.length:Int)),.slice av acc.length cv,.slice lv la.length lc,.slice xv ds.length xc,.slice kv cs.length kc]]) (vs := [.agg #[iv pr,iv (cp:Int),iv (min (kk:Int) (la.length:Int)),.slice av acc.length cv,.slice lv la.length lc,.slice xv ds.length xc,.slice kv cs.length kc]]) (ps := [w_559.cell? ⟨b0,0,none⟩ = some (iv pr),w_559.cell? ⟨b0,1,none⟩ = some (iv (cp:Int)),w_559.cell? ⟨b0,2,none⟩ = some (iv (min (kk:Int) (la.length:Int))),w_559.cell? ⟨b0,3,none⟩ = some (.slice av acc.length cv),w_559.cell? ⟨b0,4,none⟩ = some (.slice lv la.length lc),w_559.cell? ⟨b0,5,none⟩ = some (.slice xv ds.length xc),w_559.cell? ⟨b0,6,none⟩ = some (.slice kv cs.length kc)]) (by kernel_rfl) (AC (cell_of (hM726.blk 6 rfl) rfl) (AC (cell_of (hM726.blk 6 rfl) rfl) (AC (cell_of (hM726.blk 6 rfl) rfl) (AC (cell_of (hM726.blk 6 rfl) rfl) (AC (cell_of (hM726.blk 6 rfl) rfl) (AC (cell_of (hM726.blk 6 rfl) rfl) (A1 (cell_of (hM726.blk 6 rfl) rfl)))))))) (v := .agg #[iv pr,iv (cp:Int),iv (min (kk:Int) (la.length:Int)),.slice av acc.length cv,.slice lv la.length lc,.slice xv ds.length xc,.slice kv cs.length kc]) rfl (by rw [hnet]; exact ⟨⟨av,cv,lv,lc,xv,xc,kv,kc,ds⟩,by simp only [List.length_map],hE724,⟨hM_560,rfl⟩⟩)

end Go.Proofs.YtjhgghpeapmgdaaGreatDoor
