/-
  PLAN: the contract of the statements' Net.
-/
import Derived.Test.YtjhgghpeapmgdaaGreatDoorPlanK2
import Derived.Test.YtjhgghpeapmgdaaGreatDoorMg2
namespace Go.Proofs.YtjhgghpeapmgdaaGreatDoor
open Go.Bk Go.Proofs

def netL1 (w : World) (b0 bq bp n kk : Nat) (pr : Int) (cp : Nat) (A : List PNode × List Int) : Lp (List PNode × List Int × Option Addr × Nat × Option Addr × Nat) where
  S := fun x => [(2,none,pt b0 0),(3,none,pt bq 0),(4,none,pt bp 0),(5,none,iv (kk:Int)),(6,none,iv (n:Int)),(7,none,iv (x.1.length:Int))]
  J := fun x w' => Ext w w' ∧ Hold w' w.heap.size [.row (.slice x.2.2.2.2.1 x.1.length x.2.2.2.2.2) 52 2 x.1.length (x.1.flatMap nodeC),.blk bp ([iv pr,iv (cp:Int),iv 0,.slice x.2.2.2.2.1 x.1.length x.2.2.2.2.2,.slice none 0 0,.slice none 0 0,.slice none 0 0]) 29,.blk bq ([.slice x.2.2.1 x.2.1.length x.2.2.2.1]) 64,.blk b0 ([iv 0,iv 0,iv 0,.slice none 0 0,.slice none 0 0,.slice none 0 0,.slice none 0 0]) 29] ∧ Cells w x.2.2.1 (x.2.1.flatMap intCells) ∧ Small x.2.1 ∧ x.2.1.length ≤ x.2.2.2.1 ∧ x.1.length ≤ n ∧ (x.1 ++ (netNodes (n - x.1.length) x.1.length x.2.1).1,(netNodes (n - x.1.length) x.1.length x.2.1).2) = A
  M := fun x => n - x.1.length
def netL2 (w : World) (b0 bq bp bu n kk many : Nat) (pr : Int) (cp : Nat) (acc : List PNode) (av : Option Addr) (cv : Nat) (R : List PLink × List Int) : Lp (List PLink × Nat × List Int × Option Addr × Nat × Option Addr × Nat) where
  S := fun x => [(2,none,pt b0 0),(3,none,pt bq 0),(4,none,pt bp 0),(5,none,iv (kk:Int)),(6,none,iv (n:Int)),(9,none,iv (many:Int)),(10,none,pt bu 0),(11,none,iv (x.2.1:Int))]
  J := fun x w' => Ext w w' ∧ Hold w' w.heap.size [.row (.slice x.2.2.2.2.2.1 x.1.length x.2.2.2.2.2.2) 61 3 x.1.length (x.1.flatMap linkC),.blk bu (usedC x.1) 68,.row (.slice av acc.length cv) 52 2 acc.length (acc.flatMap nodeC),.blk bp ([iv pr,iv (cp:Int),iv 0,.slice av acc.length cv,.slice x.2.2.2.2.2.1 x.1.length x.2.2.2.2.2.2,.slice none 0 0,.slice none 0 0]) 29,.blk bq ([.slice x.2.2.2.1 x.2.2.1.length x.2.2.2.2.1]) 64,.blk b0 ([iv 0,iv 0,iv 0,.slice none 0 0,.slice none 0 0,.slice none 0 0,.slice none 0 0]) 29] ∧ Cells w x.2.2.2.1 (x.2.2.1.flatMap intCells) ∧ Small x.2.2.1 ∧ x.2.2.1.length ≤ x.2.2.2.2.1 ∧ x.2.1 ≤ many ∧ netLinks (many - x.2.1) x.2.1 n x.2.2.1 x.1 = R ∧ LinksOk n x.1 ∧ x.1.length ≤ x.2.1
  M := fun x => many - x.2.1
set_option maxRecDepth 20000 in
set_option maxHeartbeats 2000000 in
theorem Net_any (raw : List Int) (a : Option Addr) (c : Nat) (w : World) (hc : Cells w a (raw.flatMap intCells)) (hs : Small raw) (hcap : raw.length ≤ c) :
    Does Tryz.prog 14 [.slice a raw.length c] w (fun v w' => ∃ q : PAd,v = .agg #[.int .i64 (netP raw).proto,.int .i64 (netP raw).cap,.int .i64 (netP raw).k,.slice q.a1 (netP raw).nodes.length q.c1,.slice q.a2 (netP raw).links.length q.c2,.slice q.a3 (netP raw).dests.length q.c3,.slice q.a4 (netP raw).checks.length q.c4] ∧ Ext w w' ∧ NetAt w' w.heap.size (netP raw) q) := by
 refine startD (c := Y14) Tryz.func14 rfl (by kernel_rfl) ?_
 show G _ 227 [] _ (kAt Y14 [] []) (stz [(0,.slice a raw.length c)]) w
 have hE1 : Ext w w := Ext.refl w
 have hM2 : Hold w w.heap.size [] := Hold.nil hE1.le
 refine sg0 2 (kOp Y14 [0] 0 []) [(0,.slice a raw.length c)] ?_
 refine os0 (.alloc 29) (some 2) (kOp Y14 [0] 1 []) (runs_alloc (z := .agg #[iv 0,iv 0,iv 0,.slice none 0 0,.slice none 0 0,.slice none 0 0,.slice none 0 0]) (by kernel_rfl)) ?_
 rintro _ w0 ⟨b0,rfl,hN3⟩
 have hE4 := hE1.trans hN3.ext
 have hM5 := hM2.new hN3
 refine sg0 8 (kAt Y14 [1,0,1] []) [(0,.slice a raw.length c),(2,pt b0 0),(21,.bool (decide ((200 : Int) < (raw.length:Int))))] ?_
 have rest : ∀ l0 : List Int,raw.take 200 = l0 → Cells w a (l0.flatMap intCells) → Small l0 → l0.length ≤ c → G Tryz.prog 227 [] (bodyPost Tryz.prog Tryz.f14 (Ret fun v w' => ∃ q : PAd,v = .agg #[.int .i64 (netP raw).proto,.int .i64 (netP raw).cap,.int .i64 (netP raw).k,.slice q.a1 (netP raw).nodes.length q.c1,.slice q.a2 (netP raw).links.length q.c2,.slice q.a3 (netP raw).dests.length q.c3,.slice q.a4 (netP raw).checks.length q.c4] ∧ Ext w w' ∧ NetAt w' w.heap.size (netP raw) q)) (kAt Y14 [1,1] []) (stz [(0,.slice a l0.length c),(2,pt b0 0)]) w0 := by
   intro l0 hl0 hc0 hs0 hcap0
   refine sg0 4 (kOp Y14 [1,1,0] 2 []) [(2,pt b0 0),(25,.agg #[.slice a l0.length c])] ?_
   refine os0 (.box 64 (.agg #[.slice a l0.length c])) (some 26) (kOp Y14 [1,1,0] 3 []) (runs_box _ _) ?_
   rintro _ w1 ⟨bq,rfl,hN6⟩
   have hE7 := hE4.trans hN6.ext
   have hM8 := hM5.new hN6
   refine sg0 5 (kOp Y14 [1,1,1,0] 1 []) [(2,pt b0 0),(3,pt bq 0),(27,.agg #[iv 1,iv 0,iv 0,.slice none 0 0,.slice none 0 0,.slice none 0 0,.slice none 0 0])] ?_
   refine os0 (.alloc 29) (some 4) (kOp Y14 [1,1,1,0] 2 []) (runs_alloc (z := .agg #[iv 0,iv 0,iv 0,.slice none 0 0,.slice none 0 0,.slice none 0 0,.slice none 0 0]) (by kernel_rfl)) ?_
   rintro _ w2 ⟨bp,rfl,hN9⟩
   have hE10 := hE7.trans hN9.ext
   have hM11 := hM8.new hN9
   refine os0 (.store 29 (pt bp 0) (.agg #[iv 1,iv 0,iv 0,.slice none 0 0,.slice none 0 0,.slice none 0 0,.slice none 0 0])) none (kOp Y14 [1,1,1,0] 3 []) (runs_st (hM11.blk 0 rfl) (by kernel_rfl)) ?_
   rintro _ w3 hC12
   have hE13 := hM11.toExt hE10 hC12 0 rfl
   have hM14 := hM11.set 0 rfl hC12
   refine sg0 5 (kOp Y14 (ro1 4 [0,0]) 1 []) [(2,pt b0 0),(3,pt bq 0),(4,pt bp 0),(28,pt bq 0)] ?_
   refine os0 _ (some 29) (kOp Y14 (ro1 4 [0,0]) 2 []) (runs_call E30 (next_any w bq l0 a c 2 w3 hE13 hc0 hs0 (by omega) hcap0 (hM14.blk 1 rfl))) ?_
   rintro _ w_1 ⟨rfl,sa_2,sc_3,hC_4,hcs_5,hks_6⟩
   have hE15 := hM14.toExt hE13 hC_4 1 rfl
   have hM16 := hM14.set 1 rfl hC_4
   have hv_7 := nextV_lt l0 (n := 2) (by omega)
   refine sg0 2 (kAt Y14 (ro1 4 [0,1]) []) [(2,pt b0 0),(3,pt bq 0),(4,pt bp 0),(30,.bool (decide (((nextV l0 2:Nat):Int) = (1 : Int))))] ?_
   have rest2 : ∀ (wz : World) (pr : Int) (cp : Nat) (l2 : List Int) (s2 : Option Addr) (e2 : Nat),Ext w wz → Hold wz w.heap.size [.blk bp ([iv pr,iv (cp:Int),iv 0,.slice none 0 0,.slice none 0 0,.slice none 0 0,.slice none 0 0]) 29,.blk bq ([.slice s2 l2.length e2]) 64,.blk b0 ([iv 0,iv 0,iv 0,.slice none 0 0,.slice none 0 0,.slice none 0 0,.slice none 0 0]) 29] → Cells w s2 (l2.flatMap intCells) → Small l2 → l2.length ≤ e2 → (if netPath raw then 2 else 1) = pr → netCap raw = cp → netSrc2 raw = l2 → G Tryz.prog 227 [] (bodyPost Tryz.prog Tryz.f14 (Ret fun v w' => ∃ q : PAd,v = .agg #[.int .i64 (netP raw).proto,.int .i64 (netP raw).cap,.int .i64 (netP raw).k,.slice q.a1 (netP raw).nodes.length q.c1,.slice q.a2 (netP raw).links.length q.c2,.slice q.a3 (netP raw).dests.length q.c3,.slice q.a4 (netP raw).checks.length q.c4] ∧ Ext w w' ∧ NetAt w' w.heap.size (netP raw) q)) (kAt Y14 (ro1 5 []) []) (stz [(2,pt b0 0),(3,pt bq 0),(4,pt bp 0)]) wz := by
     intro wz pr cp l2 s2 e2 hEz hMz hc2 hs2 hk2 hpr hcp hl2
     refine sg0 3 (kOp Y14 (ro1 5 [0]) 1 []) [(2,pt b0 0),(3,pt bq 0),(4,pt bp 0),(36,pt bq 0)] ?_
     refine os0 _ (some 37) (kOp Y14 (ro1 5 [0]) 2 []) (runs_call E30 (next_any w bq l2 s2 e2 4 wz hEz hc2 hs2 (by omega) hk2 (hMz.blk 1 rfl))) ?_
     rintro _ w_8 ⟨rfl,sa_9,sc_10,hC_11,hcs_12,hks_13⟩
     have hE17 := hMz.toExt hEz hC_11 1 rfl
     have hM18 := hMz.set 1 rfl hC_11
     have hv_14 := nextV_lt l2 (n := 4) (by omega)
     refine sg0 5 (kOp Y14 (ro1 6 [0]) 1 []) [(2,pt b0 0),(3,pt bq 0),(4,pt bp 0),(5,iv ((nextV l2 4:Nat):Int)),(38,pt bq 0)] ?_
     refine os0 _ (some 39) (kOp Y14 (ro1 6 [0]) 2 []) (runs_call E30 (next_any w bq (l2.drop 1) sa_9 sc_10 6 w_8 hE17 hcs_12 (hs2.drop 1) (by omega) hks_13 (hM18.blk 1 rfl))) ?_
     rintro _ w_15 ⟨rfl,sa_16,sc_17,hC_18,hcs_19,hks_20⟩
     have hE19 := hM18.toExt hE17 hC_18 1 rfl
     have hM20 := hM18.set 1 rfl hC_18
     have hv_21 := nextV_lt (l2.drop 1) (n := 6) (by omega)
     refine sgz 9 [] (kAt Y14 (ro1 7 [0,1,0]) []) [(2,pt b0 0),(3,pt bq 0),(4,pt bp 0),(5,iv ((nextV l2 4:Nat):Int)),(6,iv ((2 + (nextV (l2.drop 1) 6):Nat):Int)),(7,iv 0)] [I64 ((2 + (nextV (l2.drop 1) 6):Nat):Int)] (A1 (i64 (by omega))) ?_
     have hn : netN raw = 2 + nextV (l2.drop 1) 6 := by unfold netN; rw [hl2]
     obtain ⟨n,hnn⟩ : ∃ n,2 + nextV (l2.drop 1) 6 = n := ⟨_,rfl⟩
     have hnle := netN_le raw
     rw [hnn]
     rw [hnn] at hn
     obtain ⟨kk,hkk⟩ : ∃ k,nextV l2 4 = k := ⟨_,rfl⟩
     rw [hkk]
     have hM21 := hM20.nilRow (e := 52) (size := 2)
     obtain ⟨l4,hl4⟩ : ∃ l,(l2.drop 1).drop 1 = l := ⟨_,rfl⟩
     obtain ⟨A,hA⟩ : ∃ A,netNodes n 0 l4 = A := ⟨_,rfl⟩
     have hAeq : netA raw = A := by unfold netA; rw [hl2,hl4,hn]; exact hA
     refine loopR (netL1 w b0 bq bp n kk pr cp A) (k' := (kEnd Y14 (ro1 7 [0,1,0]) [])) (body := (cAt Y14 (ro1 7 [0,1,0,0]))) (by kernel_rfl) ([],(l2.drop 1).drop 1,sa_16,sc_17,none,0) [2,3,4,5,6,7] (by kernel_rfl) (⟨hE19,hM21,hcs_19,(hs2.drop 1).drop 1,hks_20,Nat.zero_le _,by rw [hl4]; exact hA⟩) ?_
     rintro ⟨acc,L,s,e,av,cv⟩ wi ⟨hE1,hM1,hc1,hs1,hk1,hle,hacc⟩
     simp only at hE1 hM1 hc1 hs1 hk1 hle hacc
     show G _ _ _ _ (kAt (cAt Y14 (ro1 7 [0,1,0,0])) [] (.inv (LI 227 [] (netL1 w b0 bq bp n kk pr cp A) (acc,L,s,e,av,cv)) :: (kEnd Y14 (ro1 7 [0,1,0]) []))) (stz [(2,pt b0 0),(3,pt bq 0),(4,pt bp 0),(5,iv (kk:Int)),(6,iv (n:Int)),(7,iv (acc.length:Int))]) wi
     refine sg0 7 (kAt (cAt Y14 (ro1 7 [0,1,0,0])) [0,1] (.inv (LI 227 [] (netL1 w b0 bq bp n kk pr cp A) (acc,L,s,e,av,cv)) :: (kEnd Y14 (ro1 7 [0,1,0]) []))) [(2,pt b0 0),(3,pt bq 0),(4,pt bp 0),(5,iv (kk:Int)),(6,iv (n:Int)),(7,iv (acc.length:Int)),(43,.bool (decide ((acc.length:Int) < (n:Int))))] ?_
     refine brd ((acc.length:Int) < (n:Int)) (fun h1 => ?_) (fun h1 => ?_)
     ·generalize hKT : ((.inv (LI 227 [] (netL1 w b0 bq bp n kk pr cp A) (acc,L,s,e,av,cv)) :: (kEnd Y14 (ro1 7 [0,1,0]) [])) : List Fr) = KT
      have hlt : acc.length < n := by omega
      refine sg0 6 (kOp (cAt Y14 (ro1 7 [0,1,0,0])) [1,0,0,0] 1 KT) [(2,pt b0 0),(3,pt bq 0),(4,pt bp 0),(5,iv (kk:Int)),(6,iv (n:Int)),(7,iv (acc.length:Int)),(46,pt bq 0)] ?_
      obtain ⟨g_28,hg_29⟩ : ∃ x,nextV L 9 = x := ⟨_,rfl⟩
      obtain ⟨l_30,hl_31⟩ : ∃ x,L.drop 1 = x := ⟨_,rfl⟩
      have hs_32 : Small l_30 := hl_31 ▸ hs1.drop 1
      have hv_33 := nextV_lt L (n := 9) (by omega)
      rw [hg_29] at hv_33
      refine os0 (.call 30 [pt bq 0,iv 9]) (some 47) (kOp (cAt Y14 (ro1 7 [0,1,0,0])) [1,0,0,0] 2 KT) (runs_call E30 (by have h := next_any w bq L s e 9 wi hE1 hc1 hs1 (by omega) hk1 (hM1.blk 2 rfl); rw [hg_29,hl_31] at h; exact h)) ?_
      rintro _ w_22 ⟨rfl,sa_23,sc_24,hC_25,hcs_26,hks_27⟩
      have hE22 := hM1.toExt hE1 hC_25 2 rfl
      have hM23 := hM1.set 2 rfl hC_25
      refine sgz 7 [] (kOp (cAt Y14 (ro1 7 [0,1,0,0])) [1,0,0,1,0,0] 1 KT) [(2,pt b0 0),(3,pt bq 0),(4,pt bp 0),(5,iv (kk:Int)),(6,iv (n:Int)),(7,iv (acc.length:Int)),(8,iv ((1 + g_28:Nat):Int)),(49,pt bq 0)] [I64 ((1 + g_28:Nat):Int)] (A1 (i64 (by omega))) ?_
      obtain ⟨g_40,hg_41⟩ : ∃ x,nextV l_30 3 = x := ⟨_,rfl⟩
      obtain ⟨l_42,hl_43⟩ : ∃ x,l_30.drop 1 = x := ⟨_,rfl⟩
      have hs_44 : Small l_42 := hl_43 ▸ hs_32.drop 1
      have hv_45 := nextV_lt l_30 (n := 3) (by omega)
      rw [hg_41] at hv_45
      refine os0 (.call 30 [pt bq 0,iv 3]) (some 50) (kOp (cAt Y14 (ro1 7 [0,1,0,0])) [1,0,0,1,0,0] 2 KT) (runs_call E30 (by have h := next_any w bq l_30 sa_23 sc_24 3 w_22 hE22 hcs_26 hs_32 (by omega) hks_27 (hM23.blk 2 rfl); rw [hg_41,hl_43] at h; exact h)) ?_
      rintro _ w_34 ⟨rfl,sa_35,sc_36,hC_37,hcs_38,hks_39⟩
      have hE24 := hM23.toExt hE22 hC_37 2 rfl
      have hM25 := hM23.set 2 rfl hC_37
      refine sg0 2 (kAt (cAt Y14 (ro1 7 [0,1,0,0])) [1,0,0,1,0,1] KT) [(2,pt b0 0),(3,pt bq 0),(4,pt bp 0),(5,iv (kk:Int)),(6,iv (n:Int)),(7,iv (acc.length:Int)),(8,iv ((1 + g_28:Nat):Int)),(51,.bool (decide ((0 : Int) < (g_40:Int))))] ?_
      refine brd ((0 : Int) < (g_40:Int)) (fun h2 => ?_) (fun h2 => ?_)
      ·obtain ⟨nd,hnd⟩ : ∃ x,(⟨nodeNames.getD acc.length [],((10 + acc.length:Nat):Int)⟩ : PNode) = x := ⟨_,rfl⟩
       refine sgz 5 [] (kAt (cAt Y14 (ro1 7 [0,1,0,0])) [1,0,0,1,1] KT) [(2,pt b0 0),(3,pt bq 0),(4,pt bp 0),(5,iv (kk:Int)),(6,iv (n:Int)),(7,iv (acc.length:Int)),(8,iv ((10 + acc.length:Nat):Int))] [I64 ((10 + acc.length:Nat):Int)] (A1 (i64 (by omega))) ?_
       refine dBegin (k' := (Fr.blk 1 :: (kAt (cAt Y14 (ro1 7 [0,1,0,0])) [1,1] KT))) (id := 16) (m := 12) (ops := opsAt (cAt (cAt Y14 (ro1 7 [0,1,0,0])) [1,0,0,1,1])) (fun _ _ => True) (by kernel_rfl) (PQ.body _ _ _) (by kernel_rfl) (by kernel_rfl) ?_
       intro w26 hx27
       have hE28 := hE24.trans hx27
       have hM29 := hM25.ext hx27
       refine dtz [0,3,6] [] 9 (lb 12 73) [(2,pt b0 0),(3,pt bq 0),(4,pt bp 0),(5,iv (kk:Int)),(6,iv (n:Int)),(7,iv (acc.length:Int)),(54,pt bp 3),(57,iv (acc.length:Int)),(60,iv ((10 + acc.length:Nat):Int))] (fun w' => []) (fun w' hS => trivial) (trivial) ?_
       refine dAll 1 [2] (by kernel_rfl) ?_
       refine ⟨?_,?_⟩
       ·refine dos [] (.load 24 (pt bp 3)) (some 55) [] (lb 12 75) trivial (runs_load (v := .slice av acc.length cv) (ps := [cl w26 bp 3 (.slice av acc.length cv)]) (by kernel_rfl) (A1 (cell_of (hM29.blk 1 rfl) rfl))) ?_
        rintro _ _ ⟨rfl,rfl⟩
        refine ⟨trivial,?_⟩
        refine dAll 2 [] (by kernel_rfl) ?_
        refine dos [] (.bslice 37 7 [(0,sv ([97])),(1,sv ([98])),(2,sv ([99])),(3,sv ([100])),(4,sv ([101])),(5,sv ([102])),(6,sv ([103]))]) (some 56) [] (lb 12 79) trivial (runs_bslice (cs := [sv ([97]),sv ([98]),sv ([99]),sv ([100]),sv ([101]),sv ([102]),sv ([103])]) (e := 9) (by kernel_rfl)) ?_
        rintro _ w_46 ⟨bn,rfl,hN30⟩
        have hE31 := hE28.trans hN30.ext
        have hM32 := hM29.new hN30
        refine ⟨trivial,?_⟩
        refine dtz [4] [] 6 (lb 12 95) [(2,pt b0 0),(3,pt bq 0),(4,pt bp 0),(5,iv (kk:Int)),(6,iv (n:Int)),(7,iv (acc.length:Int)),(55,.slice av acc.length cv),(58,pt bn (0 + acc.length * 1)),(60,iv ((10 + acc.length:Nat):Int))] (fun w' => [(0 ≤ (acc.length:Int) ∧ (acc.length:Int) < (7 : Int)),((some ⟨bn,0,none⟩) : Option Addr) = some ⟨bn,0,none⟩]) (fun w' hS => (AC (by omega) (A1 rfl))) (trivial) ?_
        refine dAll 5 [] (by kernel_rfl) ?_
        refine dos [] (.load 9 (pt bn (0 + acc.length * 1))) (some 59) [] (lb 12 127) trivial (runs_load (v := sv (nodeNames.getD acc.length [])) (ps := [cl w_46 bn (0 + acc.length * 1) (sv (nodeNames.getD acc.length []))]) (by kernel_rfl) (A1 (nodeNames_at (hM32.blk 0 rfl) (by omega)))) ?_
        rintro _ _ ⟨rfl,rfl⟩
        refine ⟨trivial,?_⟩
        refine dtz [7] [] 4 (lb 12 255) [(2,pt b0 0),(3,pt bq 0),(4,pt bp 0),(5,iv (kk:Int)),(6,iv (n:Int)),(7,iv (acc.length:Int)),(55,.slice av acc.length cv),(61,.agg #[sv (nodeNames.getD acc.length []),iv ((10 + acc.length:Nat):Int)])] (fun w' => []) (fun w' hS => trivial) (trivial) ?_
        refine dAll 8 [] (by kernel_rfl) ?_
        refine dos [] (.bslice 24 1 [(0,.agg #[sv (nodeNames.getD acc.length []),iv ((10 + acc.length:Nat):Int)])]) (some 62) [] (lb 12 511) trivial (runs_bslice (cs := [sv (nodeNames.getD acc.length []),iv ((10 + acc.length:Nat):Int)]) (e := 52) (by kernel_rfl)) ?_
        rintro _ w_47 ⟨be,rfl,hN33⟩
        have hE34 := hE31.trans hN33.ext
        have hM35 := hM32.new hN33
        refine ⟨trivial,?_⟩
        refine dAll 9 [] (by kernel_rfl) ?_
        refine dos [] (.builtin .append #[24,24] 24 #[false,false] [.slice av acc.length cv,.slice (some ⟨be,0,none⟩) 1 1]) (some 63) [] (lb 12 1023) trivial (runs_appH (e := 52) (size := 2) (bytes := 24) (by kernel_rfl) (hM35.row 2 rfl) (m := 1) (news := [sv (nodeNames.getD acc.length []),iv ((10 + acc.length:Nat):Int)]) (hM35.blk 0 rfl) rfl (by simp [Value.oneCell']) (by omega) (by omega) hM35.base) ?_
        rintro vs36 w_48 ⟨hr37,hg38,ho39⟩
        have hr40 : w_48.ownsRow w.heap.size 52 2 vs36 ((acc ++ [nd]).length) ((acc ++ [nd]).flatMap nodeC) := by subst hnd; simpa [nodeC] using hr37
        have hE41 := hM35.toExtApp hE34 2 rfl hg38
        have hM42 := hM35.app 2 rfl hr40 hg38 ho39
        obtain ⟨av2,cv2,hvsvs36⟩ := row_slice (hM42.row 2 rfl)
        subst hvsvs36
        refine ⟨trivial,?_⟩
        refine dtz [10] [] 1 (lb 12 2047) [(2,pt b0 0),(3,pt bq 0),(4,pt bp 0),(5,iv (kk:Int)),(6,iv (n:Int)),(7,iv (acc.length:Int)),(63,.slice av2 ((acc ++ [nd]).length) cv2),(64,pt bp 3)] (fun w' => []) (fun w' hS => trivial) (trivial) ?_
        refine dAll 11 [] (by kernel_rfl) ?_
        refine dos [] (.store 24 (pt bp 3) (.slice av2 ((acc ++ [nd]).length) cv2)) none [] (lb 12 4095) trivial (runs_st (hM42.blk 3 rfl) (by kernel_rfl)) ?_
        rintro _ w_49 hC43
        have hE44 := hM42.toExt hE41 hC43 3 rfl
        have hM45 := hM42.set 3 rfl hC43
        refine ⟨trivial,?_⟩
        refine dDone (by kernel_rfl) ?_
        refine sgz 6 [] KT [(2,pt b0 0),(3,pt bq 0),(4,pt bp 0),(5,iv (kk:Int)),(6,iv (n:Int)),(7,iv ((acc.length + 1:Nat):Int))] [I64 ((acc.length + 1:Nat):Int)] (A1 (i64 (by omega))) ?_
        have hM46 := hM45.pickT 6 [2,3,4,5] (by kernel_rfl)
        have hfx : n - acc.length = (n - (acc.length + 1)) + 1 := by omega
        have hx : nd :: (netNodes (n - (acc.length + 1)) (acc.length + 1) l_42).1 = (netNodes (n - acc.length) acc.length L).1 ∧ (netNodes (n - (acc.length + 1)) (acc.length + 1) l_42).2 = (netNodes (n - acc.length) acc.length L).2 := by subst hnd; subst hg_29; subst hl_31; subst hg_41; subst hl_43; rw [hfx,netNodes_stepP (by omega)]; exact ⟨rfl,rfl⟩
        refine stEq (st' := (stz [(2,pt b0 0),(3,pt bq 0),(4,pt bp 0),(5,iv (kk:Int)),(6,iv (n:Int)),(7,iv (((acc ++ [nd]).length:Nat):Int))])) (by rw [show (((acc.length + 1:Nat):Int) : Int) = (((acc ++ [nd]).length:Nat):Int) from by rw [List.length_append]; rfl]) ?_
        subst hKT
        exact again ((acc ++ [nd]),l_42,sa_35,sc_36,av2,cv2) [2,3,4,5,6,7] (by kernel_rfl) (⟨hE44,hM46,hcs_38,hs_44,hks_39,by show (acc ++ [nd]).length ≤ n; rw [List.length_append]; exact hlt,by show ((acc ++ [nd]) ++ (netNodes (n - (acc ++ [nd]).length) (acc ++ [nd]).length _).1,(netNodes (n - (acc ++ [nd]).length) (acc ++ [nd]).length _).2) = A; rw [List.length_append,List.append_assoc,show [nd].length = 1 from rfl,List.singleton_append,hx.1,hx.2]; exact hacc⟩) (by show n - (acc ++ [nd]).length < n - acc.length; rw [List.length_append]; show n - (acc.length + 1) < _; omega)
       refine dos [] (.bslice 37 7 [(0,sv ([97])),(1,sv ([98])),(2,sv ([99])),(3,sv ([100])),(4,sv ([101])),(5,sv ([102])),(6,sv ([103]))]) (some 56) [] (lb 12 77) trivial (runs_bslice (cs := [sv ([97]),sv ([98]),sv ([99]),sv ([100]),sv ([101]),sv ([102]),sv ([103])]) (e := 9) (by kernel_rfl)) ?_
       rintro _ w_50 ⟨bn,rfl,hN47⟩
       have hE48 := hE28.trans hN47.ext
       have hM49 := hM29.new hN47
       refine ⟨trivial,?_⟩
       refine dtz [4] [] 7 (lb 12 93) [(2,pt b0 0),(3,pt bq 0),(4,pt bp 0),(5,iv (kk:Int)),(6,iv (n:Int)),(7,iv (acc.length:Int)),(54,pt bp 3),(58,pt bn (0 + acc.length * 1)),(60,iv ((10 + acc.length:Nat):Int))] (fun w' => [(0 ≤ (acc.length:Int) ∧ (acc.length:Int) < (7 : Int)),((some ⟨bn,0,none⟩) : Option Addr) = some ⟨bn,0,none⟩]) (fun w' hS => (AC (by omega) (A1 rfl))) (trivial) ?_
       refine dAll 1 [5] (by kernel_rfl) ?_
       refine ⟨?_,?_⟩
       ·refine dos [] (.load 24 (pt bp 3)) (some 55) [] (lb 12 95) trivial (runs_load (v := .slice av acc.length cv) (ps := [cl w_50 bp 3 (.slice av acc.length cv)]) (by kernel_rfl) (A1 (cell_of (hM49.blk 2 rfl) rfl))) ?_
        rintro _ _ ⟨rfl,rfl⟩
        refine ⟨trivial,?_⟩
        refine dAll 5 [] (by kernel_rfl) ?_
        refine dos [] (.load 9 (pt bn (0 + acc.length * 1))) (some 59) [] (lb 12 127) trivial (runs_load (v := sv (nodeNames.getD acc.length [])) (ps := [cl w_50 bn (0 + acc.length * 1) (sv (nodeNames.getD acc.length []))]) (by kernel_rfl) (A1 (nodeNames_at (hM49.blk 0 rfl) (by omega)))) ?_
        rintro _ _ ⟨rfl,rfl⟩
        refine ⟨trivial,?_⟩
        refine dtz [7] [] 4 (lb 12 255) [(2,pt b0 0),(3,pt bq 0),(4,pt bp 0),(5,iv (kk:Int)),(6,iv (n:Int)),(7,iv (acc.length:Int)),(55,.slice av acc.length cv),(61,.agg #[sv (nodeNames.getD acc.length []),iv ((10 + acc.length:Nat):Int)])] (fun w' => []) (fun w' hS => trivial) (trivial) ?_
        refine dAll 8 [] (by kernel_rfl) ?_
        refine dos [] (.bslice 24 1 [(0,.agg #[sv (nodeNames.getD acc.length []),iv ((10 + acc.length:Nat):Int)])]) (some 62) [] (lb 12 511) trivial (runs_bslice (cs := [sv (nodeNames.getD acc.length []),iv ((10 + acc.length:Nat):Int)]) (e := 52) (by kernel_rfl)) ?_
        rintro _ w_51 ⟨be,rfl,hN50⟩
        have hE51 := hE48.trans hN50.ext
        have hM52 := hM49.new hN50
        refine ⟨trivial,?_⟩
        refine dAll 9 [] (by kernel_rfl) ?_
        refine dos [] (.builtin .append #[24,24] 24 #[false,false] [.slice av acc.length cv,.slice (some ⟨be,0,none⟩) 1 1]) (some 63) [] (lb 12 1023) trivial (runs_appH (e := 52) (size := 2) (bytes := 24) (by kernel_rfl) (hM52.row 2 rfl) (m := 1) (news := [sv (nodeNames.getD acc.length []),iv ((10 + acc.length:Nat):Int)]) (hM52.blk 0 rfl) rfl (by simp [Value.oneCell']) (by omega) (by omega) hM52.base) ?_
        rintro vs53 w_52 ⟨hr54,hg55,ho56⟩
        have hr57 : w_52.ownsRow w.heap.size 52 2 vs53 ((acc ++ [nd]).length) ((acc ++ [nd]).flatMap nodeC) := by subst hnd; simpa [nodeC] using hr54
        have hE58 := hM52.toExtApp hE51 2 rfl hg55
        have hM59 := hM52.app 2 rfl hr57 hg55 ho56
        obtain ⟨av2,cv2,hvsvs53⟩ := row_slice (hM59.row 2 rfl)
        subst hvsvs53
        refine ⟨trivial,?_⟩
        refine dtz [10] [] 1 (lb 12 2047) [(2,pt b0 0),(3,pt bq 0),(4,pt bp 0),(5,iv (kk:Int)),(6,iv (n:Int)),(7,iv (acc.length:Int)),(63,.slice av2 ((acc ++ [nd]).length) cv2),(64,pt bp 3)] (fun w' => []) (fun w' hS => trivial) (trivial) ?_
        refine dAll 11 [] (by kernel_rfl) ?_
        refine dos [] (.store 24 (pt bp 3) (.slice av2 ((acc ++ [nd]).length) cv2)) none [] (lb 12 4095) trivial (runs_st (hM59.blk 3 rfl) (by kernel_rfl)) ?_
        rintro _ w_53 hC60
        have hE61 := hM59.toExt hE58 hC60 3 rfl
        have hM62 := hM59.set 3 rfl hC60
        refine ⟨trivial,?_⟩
        refine dDone (by kernel_rfl) ?_
        refine sgz 6 [] KT [(2,pt b0 0),(3,pt bq 0),(4,pt bp 0),(5,iv (kk:Int)),(6,iv (n:Int)),(7,iv ((acc.length + 1:Nat):Int))] [I64 ((acc.length + 1:Nat):Int)] (A1 (i64 (by omega))) ?_
        have hM63 := hM62.pickT 6 [2,3,4,5] (by kernel_rfl)
        have hfx : n - acc.length = (n - (acc.length + 1)) + 1 := by omega
        have hx : nd :: (netNodes (n - (acc.length + 1)) (acc.length + 1) l_42).1 = (netNodes (n - acc.length) acc.length L).1 ∧ (netNodes (n - (acc.length + 1)) (acc.length + 1) l_42).2 = (netNodes (n - acc.length) acc.length L).2 := by subst hnd; subst hg_29; subst hl_31; subst hg_41; subst hl_43; rw [hfx,netNodes_stepP (by omega)]; exact ⟨rfl,rfl⟩
        refine stEq (st' := (stz [(2,pt b0 0),(3,pt bq 0),(4,pt bp 0),(5,iv (kk:Int)),(6,iv (n:Int)),(7,iv (((acc ++ [nd]).length:Nat):Int))])) (by rw [show (((acc.length + 1:Nat):Int) : Int) = (((acc ++ [nd]).length:Nat):Int) from by rw [List.length_append]; rfl]) ?_
        subst hKT
        exact again ((acc ++ [nd]),l_42,sa_35,sc_36,av2,cv2) [2,3,4,5,6,7] (by kernel_rfl) (⟨hE61,hM63,hcs_38,hs_44,hks_39,by show (acc ++ [nd]).length ≤ n; rw [List.length_append]; exact hlt,by show ((acc ++ [nd]) ++ (netNodes (n - (acc ++ [nd]).length) (acc ++ [nd]).length _).1,(netNodes (n - (acc ++ [nd]).length) (acc ++ [nd]).length _).2) = A; rw [List.length_append,List.append_assoc,show [nd].length = 1 from rfl,List.singleton_append,hx.1,hx.2]; exact hacc⟩) (by show n - (acc ++ [nd]).length < n - acc.length; rw [List.length_append]; show n - (acc.length + 1) < _; omega)
       refine dos [] (.load 9 (pt bn (0 + acc.length * 1))) (some 59) [] (lb 12 125) trivial (runs_load (v := sv (nodeNames.getD acc.length [])) (ps := [cl w_50 bn (0 + acc.length * 1) (sv (nodeNames.getD acc.length []))]) (by kernel_rfl) (A1 (nodeNames_at (hM49.blk 0 rfl) (by omega)))) ?_
       rintro _ _ ⟨rfl,rfl⟩
       refine ⟨trivial,?_⟩
       refine dtz [7] [] 5 (lb 12 253) [(2,pt b0 0),(3,pt bq 0),(4,pt bp 0),(5,iv (kk:Int)),(6,iv (n:Int)),(7,iv (acc.length:Int)),(54,pt bp 3),(61,.agg #[sv (nodeNames.getD acc.length []),iv ((10 + acc.length:Nat):Int)])] (fun w' => []) (fun w' hS => trivial) (trivial) ?_
       refine dAll 1 [8] (by kernel_rfl) ?_
       refine ⟨?_,?_⟩
       ·refine dos [] (.load 24 (pt bp 3)) (some 55) [] (lb 12 255) trivial (runs_load (v := .slice av acc.length cv) (ps := [cl w_50 bp 3 (.slice av acc.length cv)]) (by kernel_rfl) (A1 (cell_of (hM49.blk 2 rfl) rfl))) ?_
        rintro _ _ ⟨rfl,rfl⟩
        refine ⟨trivial,?_⟩
        refine dAll 8 [] (by kernel_rfl) ?_
        refine dos [] (.bslice 24 1 [(0,.agg #[sv (nodeNames.getD acc.length []),iv ((10 + acc.length:Nat):Int)])]) (some 62) [] (lb 12 511) trivial (runs_bslice (cs := [sv (nodeNames.getD acc.length []),iv ((10 + acc.length:Nat):Int)]) (e := 52) (by kernel_rfl)) ?_
        rintro _ w_54 ⟨be,rfl,hN64⟩
        have hE65 := hE48.trans hN64.ext
        have hM66 := hM49.new hN64
        refine ⟨trivial,?_⟩
        refine dAll 9 [] (by kernel_rfl) ?_
        refine dos [] (.builtin .append #[24,24] 24 #[false,false] [.slice av acc.length cv,.slice (some ⟨be,0,none⟩) 1 1]) (some 63) [] (lb 12 1023) trivial (runs_appH (e := 52) (size := 2) (bytes := 24) (by kernel_rfl) (hM66.row 2 rfl) (m := 1) (news := [sv (nodeNames.getD acc.length []),iv ((10 + acc.length:Nat):Int)]) (hM66.blk 0 rfl) rfl (by simp [Value.oneCell']) (by omega) (by omega) hM66.base) ?_
        rintro vs67 w_55 ⟨hr68,hg69,ho70⟩
        have hr71 : w_55.ownsRow w.heap.size 52 2 vs67 ((acc ++ [nd]).length) ((acc ++ [nd]).flatMap nodeC) := by subst hnd; simpa [nodeC] using hr68
        have hE72 := hM66.toExtApp hE65 2 rfl hg69
        have hM73 := hM66.app 2 rfl hr71 hg69 ho70
        obtain ⟨av2,cv2,hvsvs67⟩ := row_slice (hM73.row 2 rfl)
        subst hvsvs67
        refine ⟨trivial,?_⟩
        refine dtz [10] [] 1 (lb 12 2047) [(2,pt b0 0),(3,pt bq 0),(4,pt bp 0),(5,iv (kk:Int)),(6,iv (n:Int)),(7,iv (acc.length:Int)),(63,.slice av2 ((acc ++ [nd]).length) cv2),(64,pt bp 3)] (fun w' => []) (fun w' hS => trivial) (trivial) ?_
        refine dAll 11 [] (by kernel_rfl) ?_
        refine dos [] (.store 24 (pt bp 3) (.slice av2 ((acc ++ [nd]).length) cv2)) none [] (lb 12 4095) trivial (runs_st (hM73.blk 3 rfl) (by kernel_rfl)) ?_
        rintro _ w_56 hC74
        have hE75 := hM73.toExt hE72 hC74 3 rfl
        have hM76 := hM73.set 3 rfl hC74
        refine ⟨trivial,?_⟩
        refine dDone (by kernel_rfl) ?_
        refine sgz 6 [] KT [(2,pt b0 0),(3,pt bq 0),(4,pt bp 0),(5,iv (kk:Int)),(6,iv (n:Int)),(7,iv ((acc.length + 1:Nat):Int))] [I64 ((acc.length + 1:Nat):Int)] (A1 (i64 (by omega))) ?_
        have hM77 := hM76.pickT 6 [2,3,4,5] (by kernel_rfl)
        have hfx : n - acc.length = (n - (acc.length + 1)) + 1 := by omega
        have hx : nd :: (netNodes (n - (acc.length + 1)) (acc.length + 1) l_42).1 = (netNodes (n - acc.length) acc.length L).1 ∧ (netNodes (n - (acc.length + 1)) (acc.length + 1) l_42).2 = (netNodes (n - acc.length) acc.length L).2 := by subst hnd; subst hg_29; subst hl_31; subst hg_41; subst hl_43; rw [hfx,netNodes_stepP (by omega)]; exact ⟨rfl,rfl⟩
        refine stEq (st' := (stz [(2,pt b0 0),(3,pt bq 0),(4,pt bp 0),(5,iv (kk:Int)),(6,iv (n:Int)),(7,iv (((acc ++ [nd]).length:Nat):Int))])) (by rw [show (((acc.length + 1:Nat):Int) : Int) = (((acc ++ [nd]).length:Nat):Int) from by rw [List.length_append]; rfl]) ?_
        subst hKT
        exact again ((acc ++ [nd]),l_42,sa_35,sc_36,av2,cv2) [2,3,4,5,6,7] (by kernel_rfl) (⟨hE75,hM77,hcs_38,hs_44,hks_39,by show (acc ++ [nd]).length ≤ n; rw [List.length_append]; exact hlt,by show ((acc ++ [nd]) ++ (netNodes (n - (acc ++ [nd]).length) (acc ++ [nd]).length _).1,(netNodes (n - (acc ++ [nd]).length) (acc ++ [nd]).length _).2) = A; rw [List.length_append,List.append_assoc,show [nd].length = 1 from rfl,List.singleton_append,hx.1,hx.2]; exact hacc⟩) (by show n - (acc ++ [nd]).length < n - acc.length; rw [List.length_append]; show n - (acc.length + 1) < _; omega)
       refine dos [] (.bslice 24 1 [(0,.agg #[sv (nodeNames.getD acc.length []),iv ((10 + acc.length:Nat):Int)])]) (some 62) [] (lb 12 509) trivial (runs_bslice (cs := [sv (nodeNames.getD acc.length []),iv ((10 + acc.length:Nat):Int)]) (e := 52) (by kernel_rfl)) ?_
       rintro _ w_57 ⟨be,rfl,hN78⟩
       have hE79 := hE48.trans hN78.ext
       have hM80 := hM49.new hN78
       refine ⟨trivial,?_⟩
       refine dAll 1 [] (by kernel_rfl) ?_
       refine dos [] (.load 24 (pt bp 3)) (some 55) [] (lb 12 511) trivial (runs_load (v := .slice av acc.length cv) (ps := [cl w_57 bp 3 (.slice av acc.length cv)]) (by kernel_rfl) (A1 (cell_of (hM80.blk 3 rfl) rfl))) ?_
       rintro _ _ ⟨rfl,rfl⟩
       refine ⟨trivial,?_⟩
       refine dAll 9 [] (by kernel_rfl) ?_
       refine dos [] (.builtin .append #[24,24] 24 #[false,false] [.slice av acc.length cv,.slice (some ⟨be,0,none⟩) 1 1]) (some 63) [] (lb 12 1023) trivial (runs_appH (e := 52) (size := 2) (bytes := 24) (by kernel_rfl) (hM80.row 2 rfl) (m := 1) (news := [sv (nodeNames.getD acc.length []),iv ((10 + acc.length:Nat):Int)]) (hM80.blk 0 rfl) rfl (by simp [Value.oneCell']) (by omega) (by omega) hM80.base) ?_
       rintro vs81 w_58 ⟨hr82,hg83,ho84⟩
       have hr85 : w_58.ownsRow w.heap.size 52 2 vs81 ((acc ++ [nd]).length) ((acc ++ [nd]).flatMap nodeC) := by subst hnd; simpa [nodeC] using hr82
       have hE86 := hM80.toExtApp hE79 2 rfl hg83
       have hM87 := hM80.app 2 rfl hr85 hg83 ho84
       obtain ⟨av2,cv2,hvsvs81⟩ := row_slice (hM87.row 2 rfl)
       subst hvsvs81
       refine ⟨trivial,?_⟩
       refine dtz [10] [] 1 (lb 12 2047) [(2,pt b0 0),(3,pt bq 0),(4,pt bp 0),(5,iv (kk:Int)),(6,iv (n:Int)),(7,iv (acc.length:Int)),(63,.slice av2 ((acc ++ [nd]).length) cv2),(64,pt bp 3)] (fun w' => []) (fun w' hS => trivial) (trivial) ?_
       refine dAll 11 [] (by kernel_rfl) ?_
       refine dos [] (.store 24 (pt bp 3) (.slice av2 ((acc ++ [nd]).length) cv2)) none [] (lb 12 4095) trivial (runs_st (hM87.blk 3 rfl) (by kernel_rfl)) ?_
       rintro _ w_59 hC88
       have hE89 := hM87.toExt hE86 hC88 3 rfl
       have hM90 := hM87.set 3 rfl hC88
       refine ⟨trivial,?_⟩
       refine dDone (by kernel_rfl) ?_
       refine sgz 6 [] KT [(2,pt b0 0),(3,pt bq 0),(4,pt bp 0),(5,iv (kk:Int)),(6,iv (n:Int)),(7,iv ((acc.length + 1:Nat):Int))] [I64 ((acc.length + 1:Nat):Int)] (A1 (i64 (by omega))) ?_
       have hM91 := hM90.pickT 6 [2,3,4,5] (by kernel_rfl)
       have hfx : n - acc.length = (n - (acc.length + 1)) + 1 := by omega
       have hx : nd :: (netNodes (n - (acc.length + 1)) (acc.length + 1) l_42).1 = (netNodes (n - acc.length) acc.length L).1 ∧ (netNodes (n - (acc.length + 1)) (acc.length + 1) l_42).2 = (netNodes (n - acc.length) acc.length L).2 := by subst hnd; subst hg_29; subst hl_31; subst hg_41; subst hl_43; rw [hfx,netNodes_stepP (by omega)]; exact ⟨rfl,rfl⟩
       refine stEq (st' := (stz [(2,pt b0 0),(3,pt bq 0),(4,pt bp 0),(5,iv (kk:Int)),(6,iv (n:Int)),(7,iv (((acc ++ [nd]).length:Nat):Int))])) (by rw [show (((acc.length + 1:Nat):Int) : Int) = (((acc ++ [nd]).length:Nat):Int) from by rw [List.length_append]; rfl]) ?_
       subst hKT
       exact again ((acc ++ [nd]),l_42,sa_35,sc_36,av2,cv2) [2,3,4,5,6,7] (by kernel_rfl) (⟨hE89,hM91,hcs_38,hs_44,hks_39,by show (acc ++ [nd]).length ≤ n; rw [List.length_append]; exact hlt,by show ((acc ++ [nd]) ++ (netNodes (n - (acc ++ [nd]).length) (acc ++ [nd]).length _).1,(netNodes (n - (acc ++ [nd]).length) (acc ++ [nd]).length _).2) = A; rw [List.length_append,List.append_assoc,show [nd].length = 1 from rfl,List.singleton_append,hx.1,hx.2]; exact hacc⟩) (by show n - (acc ++ [nd]).length < n - acc.length; rw [List.length_append]; show n - (acc.length + 1) < _; omega)
      obtain ⟨nd,hnd⟩ : ∃ x,(⟨nodeNames.getD acc.length [],((1 + g_28:Nat):Int)⟩ : PNode) = x := ⟨_,rfl⟩
      refine sg0 1 (kAt (cAt Y14 (ro1 7 [0,1,0,0])) [1,0,0,1,1] KT) [(2,pt b0 0),(3,pt bq 0),(4,pt bp 0),(5,iv (kk:Int)),(6,iv (n:Int)),(7,iv (acc.length:Int)),(8,iv ((1 + g_28:Nat):Int))] ?_
      refine dBegin (k' := (Fr.blk 1 :: (kAt (cAt Y14 (ro1 7 [0,1,0,0])) [1,1] KT))) (id := 16) (m := 12) (ops := opsAt (cAt (cAt Y14 (ro1 7 [0,1,0,0])) [1,0,0,1,1])) (fun _ _ => True) (by kernel_rfl) (PQ.body _ _ _) (by kernel_rfl) (by kernel_rfl) ?_
      intro w92 hx93
      have hE94 := hE24.trans hx93
      have hM95 := hM25.ext hx93
      refine dtz [0,3,6] [] 9 (lb 12 73) [(2,pt b0 0),(3,pt bq 0),(4,pt bp 0),(5,iv (kk:Int)),(6,iv (n:Int)),(7,iv (acc.length:Int)),(54,pt bp 3),(57,iv (acc.length:Int)),(60,iv ((1 + g_28:Nat):Int))] (fun w' => []) (fun w' hS => trivial) (trivial) ?_
      refine dAll 1 [2] (by kernel_rfl) ?_
      refine ⟨?_,?_⟩
      ·refine dos [] (.load 24 (pt bp 3)) (some 55) [] (lb 12 75) trivial (runs_load (v := .slice av acc.length cv) (ps := [cl w92 bp 3 (.slice av acc.length cv)]) (by kernel_rfl) (A1 (cell_of (hM95.blk 1 rfl) rfl))) ?_
       rintro _ _ ⟨rfl,rfl⟩
       refine ⟨trivial,?_⟩
       refine dAll 2 [] (by kernel_rfl) ?_
       refine dos [] (.bslice 37 7 [(0,sv ([97])),(1,sv ([98])),(2,sv ([99])),(3,sv ([100])),(4,sv ([101])),(5,sv ([102])),(6,sv ([103]))]) (some 56) [] (lb 12 79) trivial (runs_bslice (cs := [sv ([97]),sv ([98]),sv ([99]),sv ([100]),sv ([101]),sv ([102]),sv ([103])]) (e := 9) (by kernel_rfl)) ?_
       rintro _ w_60 ⟨bn,rfl,hN96⟩
       have hE97 := hE94.trans hN96.ext
       have hM98 := hM95.new hN96
       refine ⟨trivial,?_⟩
       refine dtz [4] [] 6 (lb 12 95) [(2,pt b0 0),(3,pt bq 0),(4,pt bp 0),(5,iv (kk:Int)),(6,iv (n:Int)),(7,iv (acc.length:Int)),(55,.slice av acc.length cv),(58,pt bn (0 + acc.length * 1)),(60,iv ((1 + g_28:Nat):Int))] (fun w' => [(0 ≤ (acc.length:Int) ∧ (acc.length:Int) < (7 : Int)),((some ⟨bn,0,none⟩) : Option Addr) = some ⟨bn,0,none⟩]) (fun w' hS => (AC (by omega) (A1 rfl))) (trivial) ?_
       refine dAll 5 [] (by kernel_rfl) ?_
       refine dos [] (.load 9 (pt bn (0 + acc.length * 1))) (some 59) [] (lb 12 127) trivial (runs_load (v := sv (nodeNames.getD acc.length [])) (ps := [cl w_60 bn (0 + acc.length * 1) (sv (nodeNames.getD acc.length []))]) (by kernel_rfl) (A1 (nodeNames_at (hM98.blk 0 rfl) (by omega)))) ?_
       rintro _ _ ⟨rfl,rfl⟩
       refine ⟨trivial,?_⟩
       refine dtz [7] [] 4 (lb 12 255) [(2,pt b0 0),(3,pt bq 0),(4,pt bp 0),(5,iv (kk:Int)),(6,iv (n:Int)),(7,iv (acc.length:Int)),(55,.slice av acc.length cv),(61,.agg #[sv (nodeNames.getD acc.length []),iv ((1 + g_28:Nat):Int)])] (fun w' => []) (fun w' hS => trivial) (trivial) ?_
       refine dAll 8 [] (by kernel_rfl) ?_
       refine dos [] (.bslice 24 1 [(0,.agg #[sv (nodeNames.getD acc.length []),iv ((1 + g_28:Nat):Int)])]) (some 62) [] (lb 12 511) trivial (runs_bslice (cs := [sv (nodeNames.getD acc.length []),iv ((1 + g_28:Nat):Int)]) (e := 52) (by kernel_rfl)) ?_
       rintro _ w_61 ⟨be,rfl,hN99⟩
       have hE100 := hE97.trans hN99.ext
       have hM101 := hM98.new hN99
       refine ⟨trivial,?_⟩
       refine dAll 9 [] (by kernel_rfl) ?_
       refine dos [] (.builtin .append #[24,24] 24 #[false,false] [.slice av acc.length cv,.slice (some ⟨be,0,none⟩) 1 1]) (some 63) [] (lb 12 1023) trivial (runs_appH (e := 52) (size := 2) (bytes := 24) (by kernel_rfl) (hM101.row 2 rfl) (m := 1) (news := [sv (nodeNames.getD acc.length []),iv ((1 + g_28:Nat):Int)]) (hM101.blk 0 rfl) rfl (by simp [Value.oneCell']) (by omega) (by omega) hM101.base) ?_
       rintro vs102 w_62 ⟨hr103,hg104,ho105⟩
       have hr106 : w_62.ownsRow w.heap.size 52 2 vs102 ((acc ++ [nd]).length) ((acc ++ [nd]).flatMap nodeC) := by subst hnd; simpa [nodeC] using hr103
       have hE107 := hM101.toExtApp hE100 2 rfl hg104
       have hM108 := hM101.app 2 rfl hr106 hg104 ho105
       obtain ⟨av2,cv2,hvsvs102⟩ := row_slice (hM108.row 2 rfl)
       subst hvsvs102
       refine ⟨trivial,?_⟩
       refine dtz [10] [] 1 (lb 12 2047) [(2,pt b0 0),(3,pt bq 0),(4,pt bp 0),(5,iv (kk:Int)),(6,iv (n:Int)),(7,iv (acc.length:Int)),(63,.slice av2 ((acc ++ [nd]).length) cv2),(64,pt bp 3)] (fun w' => []) (fun w' hS => trivial) (trivial) ?_
       refine dAll 11 [] (by kernel_rfl) ?_
       refine dos [] (.store 24 (pt bp 3) (.slice av2 ((acc ++ [nd]).length) cv2)) none [] (lb 12 4095) trivial (runs_st (hM108.blk 3 rfl) (by kernel_rfl)) ?_
       rintro _ w_63 hC109
       have hE110 := hM108.toExt hE107 hC109 3 rfl
       have hM111 := hM108.set 3 rfl hC109
       refine ⟨trivial,?_⟩
       refine dDone (by kernel_rfl) ?_
       refine sgz 6 [] KT [(2,pt b0 0),(3,pt bq 0),(4,pt bp 0),(5,iv (kk:Int)),(6,iv (n:Int)),(7,iv ((acc.length + 1:Nat):Int))] [I64 ((acc.length + 1:Nat):Int)] (A1 (i64 (by omega))) ?_
       have hM112 := hM111.pickT 6 [2,3,4,5] (by kernel_rfl)
       have hfx : n - acc.length = (n - (acc.length + 1)) + 1 := by omega
       have hx : nd :: (netNodes (n - (acc.length + 1)) (acc.length + 1) l_42).1 = (netNodes (n - acc.length) acc.length L).1 ∧ (netNodes (n - (acc.length + 1)) (acc.length + 1) l_42).2 = (netNodes (n - acc.length) acc.length L).2 := by subst hnd; subst hg_29; subst hl_31; subst hg_41; subst hl_43; rw [hfx,netNodes_stepN (by omega)]; exact ⟨rfl,rfl⟩
       refine stEq (st' := (stz [(2,pt b0 0),(3,pt bq 0),(4,pt bp 0),(5,iv (kk:Int)),(6,iv (n:Int)),(7,iv (((acc ++ [nd]).length:Nat):Int))])) (by rw [show (((acc.length + 1:Nat):Int) : Int) = (((acc ++ [nd]).length:Nat):Int) from by rw [List.length_append]; rfl]) ?_
       subst hKT
       exact again ((acc ++ [nd]),l_42,sa_35,sc_36,av2,cv2) [2,3,4,5,6,7] (by kernel_rfl) (⟨hE110,hM112,hcs_38,hs_44,hks_39,by show (acc ++ [nd]).length ≤ n; rw [List.length_append]; exact hlt,by show ((acc ++ [nd]) ++ (netNodes (n - (acc ++ [nd]).length) (acc ++ [nd]).length _).1,(netNodes (n - (acc ++ [nd]).length) (acc ++ [nd]).length _).2) = A; rw [List.length_append,List.append_assoc,show [nd].length = 1 from rfl,List.singleton_append,hx.1,hx.2]; exact hacc⟩) (by show n - (acc ++ [nd]).length < n - acc.length; rw [List.length_append]; show n - (acc.length + 1) < _; omega)
      refine dos [] (.bslice 37 7 [(0,sv ([97])),(1,sv ([98])),(2,sv ([99])),(3,sv ([100])),(4,sv ([101])),(5,sv ([102])),(6,sv ([103]))]) (some 56) [] (lb 12 77) trivial (runs_bslice (cs := [sv ([97]),sv ([98]),sv ([99]),sv ([100]),sv ([101]),sv ([102]),sv ([103])]) (e := 9) (by kernel_rfl)) ?_
      rintro _ w_64 ⟨bn,rfl,hN113⟩
      have hE114 := hE94.trans hN113.ext
      have hM115 := hM95.new hN113
      refine ⟨trivial,?_⟩
      refine dtz [4] [] 7 (lb 12 93) [(2,pt b0 0),(3,pt bq 0),(4,pt bp 0),(5,iv (kk:Int)),(6,iv (n:Int)),(7,iv (acc.length:Int)),(54,pt bp 3),(58,pt bn (0 + acc.length * 1)),(60,iv ((1 + g_28:Nat):Int))] (fun w' => [(0 ≤ (acc.length:Int) ∧ (acc.length:Int) < (7 : Int)),((some ⟨bn,0,none⟩) : Option Addr) = some ⟨bn,0,none⟩]) (fun w' hS => (AC (by omega) (A1 rfl))) (trivial) ?_
      refine dAll 1 [5] (by kernel_rfl) ?_
      refine ⟨?_,?_⟩
      ·refine dos [] (.load 24 (pt bp 3)) (some 55) [] (lb 12 95) trivial (runs_load (v := .slice av acc.length cv) (ps := [cl w_64 bp 3 (.slice av acc.length cv)]) (by kernel_rfl) (A1 (cell_of (hM115.blk 2 rfl) rfl))) ?_
       rintro _ _ ⟨rfl,rfl⟩
       refine ⟨trivial,?_⟩
       refine dAll 5 [] (by kernel_rfl) ?_
       refine dos [] (.load 9 (pt bn (0 + acc.length * 1))) (some 59) [] (lb 12 127) trivial (runs_load (v := sv (nodeNames.getD acc.length [])) (ps := [cl w_64 bn (0 + acc.length * 1) (sv (nodeNames.getD acc.length []))]) (by kernel_rfl) (A1 (nodeNames_at (hM115.blk 0 rfl) (by omega)))) ?_
       rintro _ _ ⟨rfl,rfl⟩
       refine ⟨trivial,?_⟩
       refine dtz [7] [] 4 (lb 12 255) [(2,pt b0 0),(3,pt bq 0),(4,pt bp 0),(5,iv (kk:Int)),(6,iv (n:Int)),(7,iv (acc.length:Int)),(55,.slice av acc.length cv),(61,.agg #[sv (nodeNames.getD acc.length []),iv ((1 + g_28:Nat):Int)])] (fun w' => []) (fun w' hS => trivial) (trivial) ?_
       refine dAll 8 [] (by kernel_rfl) ?_
       refine dos [] (.bslice 24 1 [(0,.agg #[sv (nodeNames.getD acc.length []),iv ((1 + g_28:Nat):Int)])]) (some 62) [] (lb 12 511) trivial (runs_bslice (cs := [sv (nodeNames.getD acc.length []),iv ((1 + g_28:Nat):Int)]) (e := 52) (by kernel_rfl)) ?_
       rintro _ w_65 ⟨be,rfl,hN116⟩
       have hE117 := hE114.trans hN116.ext
       have hM118 := hM115.new hN116
       refine ⟨trivial,?_⟩
       refine dAll 9 [] (by kernel_rfl) ?_
       refine dos [] (.builtin .append #[24,24] 24 #[false,false] [.slice av acc.length cv,.slice (some ⟨be,0,none⟩) 1 1]) (some 63) [] (lb 12 1023) trivial (runs_appH (e := 52) (size := 2) (bytes := 24) (by kernel_rfl) (hM118.row 2 rfl) (m := 1) (news := [sv (nodeNames.getD acc.length []),iv ((1 + g_28:Nat):Int)]) (hM118.blk 0 rfl) rfl (by simp [Value.oneCell']) (by omega) (by omega) hM118.base) ?_
       rintro vs119 w_66 ⟨hr120,hg121,ho122⟩
       have hr123 : w_66.ownsRow w.heap.size 52 2 vs119 ((acc ++ [nd]).length) ((acc ++ [nd]).flatMap nodeC) := by subst hnd; simpa [nodeC] using hr120
       have hE124 := hM118.toExtApp hE117 2 rfl hg121
       have hM125 := hM118.app 2 rfl hr123 hg121 ho122
       obtain ⟨av2,cv2,hvsvs119⟩ := row_slice (hM125.row 2 rfl)
       subst hvsvs119
       refine ⟨trivial,?_⟩
       refine dtz [10] [] 1 (lb 12 2047) [(2,pt b0 0),(3,pt bq 0),(4,pt bp 0),(5,iv (kk:Int)),(6,iv (n:Int)),(7,iv (acc.length:Int)),(63,.slice av2 ((acc ++ [nd]).length) cv2),(64,pt bp 3)] (fun w' => []) (fun w' hS => trivial) (trivial) ?_
       refine dAll 11 [] (by kernel_rfl) ?_
       refine dos [] (.store 24 (pt bp 3) (.slice av2 ((acc ++ [nd]).length) cv2)) none [] (lb 12 4095) trivial (runs_st (hM125.blk 3 rfl) (by kernel_rfl)) ?_
       rintro _ w_67 hC126
       have hE127 := hM125.toExt hE124 hC126 3 rfl
       have hM128 := hM125.set 3 rfl hC126
       refine ⟨trivial,?_⟩
       refine dDone (by kernel_rfl) ?_
       refine sgz 6 [] KT [(2,pt b0 0),(3,pt bq 0),(4,pt bp 0),(5,iv (kk:Int)),(6,iv (n:Int)),(7,iv ((acc.length + 1:Nat):Int))] [I64 ((acc.length + 1:Nat):Int)] (A1 (i64 (by omega))) ?_
       have hM129 := hM128.pickT 6 [2,3,4,5] (by kernel_rfl)
       have hfx : n - acc.length = (n - (acc.length + 1)) + 1 := by omega
       have hx : nd :: (netNodes (n - (acc.length + 1)) (acc.length + 1) l_42).1 = (netNodes (n - acc.length) acc.length L).1 ∧ (netNodes (n - (acc.length + 1)) (acc.length + 1) l_42).2 = (netNodes (n - acc.length) acc.length L).2 := by subst hnd; subst hg_29; subst hl_31; subst hg_41; subst hl_43; rw [hfx,netNodes_stepN (by omega)]; exact ⟨rfl,rfl⟩
       refine stEq (st' := (stz [(2,pt b0 0),(3,pt bq 0),(4,pt bp 0),(5,iv (kk:Int)),(6,iv (n:Int)),(7,iv (((acc ++ [nd]).length:Nat):Int))])) (by rw [show (((acc.length + 1:Nat):Int) : Int) = (((acc ++ [nd]).length:Nat):Int) from by rw [List.length_append]; rfl]) ?_
       subst hKT
       exact again ((acc ++ [nd]),l_42,sa_35,sc_36,av2,cv2) [2,3,4,5,6,7] (by kernel_rfl) (⟨hE127,hM129,hcs_38,hs_44,hks_39,by show (acc ++ [nd]).length ≤ n; rw [List.length_append]; exact hlt,by show ((acc ++ [nd]) ++ (netNodes (n - (acc ++ [nd]).length) (acc ++ [nd]).length _).1,(netNodes (n - (acc ++ [nd]).length) (acc ++ [nd]).length _).2) = A; rw [List.length_append,List.append_assoc,show [nd].length = 1 from rfl,List.singleton_append,hx.1,hx.2]; exact hacc⟩) (by show n - (acc ++ [nd]).length < n - acc.length; rw [List.length_append]; show n - (acc.length + 1) < _; omega)
      refine dos [] (.load 9 (pt bn (0 + acc.length * 1))) (some 59) [] (lb 12 125) trivial (runs_load (v := sv (nodeNames.getD acc.length [])) (ps := [cl w_64 bn (0 + acc.length * 1) (sv (nodeNames.getD acc.length []))]) (by kernel_rfl) (A1 (nodeNames_at (hM115.blk 0 rfl) (by omega)))) ?_
      rintro _ _ ⟨rfl,rfl⟩
      refine ⟨trivial,?_⟩
      refine dtz [7] [] 5 (lb 12 253) [(2,pt b0 0),(3,pt bq 0),(4,pt bp 0),(5,iv (kk:Int)),(6,iv (n:Int)),(7,iv (acc.length:Int)),(54,pt bp 3),(61,.agg #[sv (nodeNames.getD acc.length []),iv ((1 + g_28:Nat):Int)])] (fun w' => []) (fun w' hS => trivial) (trivial) ?_
      refine dAll 1 [8] (by kernel_rfl) ?_
      refine ⟨?_,?_⟩
      ·refine dos [] (.load 24 (pt bp 3)) (some 55) [] (lb 12 255) trivial (runs_load (v := .slice av acc.length cv) (ps := [cl w_64 bp 3 (.slice av acc.length cv)]) (by kernel_rfl) (A1 (cell_of (hM115.blk 2 rfl) rfl))) ?_
       rintro _ _ ⟨rfl,rfl⟩
       refine ⟨trivial,?_⟩
       refine dAll 8 [] (by kernel_rfl) ?_
       refine dos [] (.bslice 24 1 [(0,.agg #[sv (nodeNames.getD acc.length []),iv ((1 + g_28:Nat):Int)])]) (some 62) [] (lb 12 511) trivial (runs_bslice (cs := [sv (nodeNames.getD acc.length []),iv ((1 + g_28:Nat):Int)]) (e := 52) (by kernel_rfl)) ?_
       rintro _ w_68 ⟨be,rfl,hN130⟩
       have hE131 := hE114.trans hN130.ext
       have hM132 := hM115.new hN130
       refine ⟨trivial,?_⟩
       refine dAll 9 [] (by kernel_rfl) ?_
       refine dos [] (.builtin .append #[24,24] 24 #[false,false] [.slice av acc.length cv,.slice (some ⟨be,0,none⟩) 1 1]) (some 63) [] (lb 12 1023) trivial (runs_appH (e := 52) (size := 2) (bytes := 24) (by kernel_rfl) (hM132.row 2 rfl) (m := 1) (news := [sv (nodeNames.getD acc.length []),iv ((1 + g_28:Nat):Int)]) (hM132.blk 0 rfl) rfl (by simp [Value.oneCell']) (by omega) (by omega) hM132.base) ?_
       rintro vs133 w_69 ⟨hr134,hg135,ho136⟩
       have hr137 : w_69.ownsRow w.heap.size 52 2 vs133 ((acc ++ [nd]).length) ((acc ++ [nd]).flatMap nodeC) := by subst hnd; simpa [nodeC] using hr134
       have hE138 := hM132.toExtApp hE131 2 rfl hg135
       have hM139 := hM132.app 2 rfl hr137 hg135 ho136
       obtain ⟨av2,cv2,hvsvs133⟩ := row_slice (hM139.row 2 rfl)
       subst hvsvs133
       refine ⟨trivial,?_⟩
       refine dtz [10] [] 1 (lb 12 2047) [(2,pt b0 0),(3,pt bq 0),(4,pt bp 0),(5,iv (kk:Int)),(6,iv (n:Int)),(7,iv (acc.length:Int)),(63,.slice av2 ((acc ++ [nd]).length) cv2),(64,pt bp 3)] (fun w' => []) (fun w' hS => trivial) (trivial) ?_
       refine dAll 11 [] (by kernel_rfl) ?_
       refine dos [] (.store 24 (pt bp 3) (.slice av2 ((acc ++ [nd]).length) cv2)) none [] (lb 12 4095) trivial (runs_st (hM139.blk 3 rfl) (by kernel_rfl)) ?_
       rintro _ w_70 hC140
       have hE141 := hM139.toExt hE138 hC140 3 rfl
       have hM142 := hM139.set 3 rfl hC140
       refine ⟨trivial,?_⟩
       refine dDone (by kernel_rfl) ?_
       refine sgz 6 [] KT [(2,pt b0 0),(3,pt bq 0),(4,pt bp 0),(5,iv (kk:Int)),(6,iv (n:Int)),(7,iv ((acc.length + 1:Nat):Int))] [I64 ((acc.length + 1:Nat):Int)] (A1 (i64 (by omega))) ?_
       have hM143 := hM142.pickT 6 [2,3,4,5] (by kernel_rfl)
       have hfx : n - acc.length = (n - (acc.length + 1)) + 1 := by omega
       have hx : nd :: (netNodes (n - (acc.length + 1)) (acc.length + 1) l_42).1 = (netNodes (n - acc.length) acc.length L).1 ∧ (netNodes (n - (acc.length + 1)) (acc.length + 1) l_42).2 = (netNodes (n - acc.length) acc.length L).2 := by subst hnd; subst hg_29; subst hl_31; subst hg_41; subst hl_43; rw [hfx,netNodes_stepN (by omega)]; exact ⟨rfl,rfl⟩
       refine stEq (st' := (stz [(2,pt b0 0),(3,pt bq 0),(4,pt bp 0),(5,iv (kk:Int)),(6,iv (n:Int)),(7,iv (((acc ++ [nd]).length:Nat):Int))])) (by rw [show (((acc.length + 1:Nat):Int) : Int) = (((acc ++ [nd]).length:Nat):Int) from by rw [List.length_append]; rfl]) ?_
       subst hKT
       exact again ((acc ++ [nd]),l_42,sa_35,sc_36,av2,cv2) [2,3,4,5,6,7] (by kernel_rfl) (⟨hE141,hM143,hcs_38,hs_44,hks_39,by show (acc ++ [nd]).length ≤ n; rw [List.length_append]; exact hlt,by show ((acc ++ [nd]) ++ (netNodes (n - (acc ++ [nd]).length) (acc ++ [nd]).length _).1,(netNodes (n - (acc ++ [nd]).length) (acc ++ [nd]).length _).2) = A; rw [List.length_append,List.append_assoc,show [nd].length = 1 from rfl,List.singleton_append,hx.1,hx.2]; exact hacc⟩) (by show n - (acc ++ [nd]).length < n - acc.length; rw [List.length_append]; show n - (acc.length + 1) < _; omega)
      refine dos [] (.bslice 24 1 [(0,.agg #[sv (nodeNames.getD acc.length []),iv ((1 + g_28:Nat):Int)])]) (some 62) [] (lb 12 509) trivial (runs_bslice (cs := [sv (nodeNames.getD acc.length []),iv ((1 + g_28:Nat):Int)]) (e := 52) (by kernel_rfl)) ?_
      rintro _ w_71 ⟨be,rfl,hN144⟩
      have hE145 := hE114.trans hN144.ext
      have hM146 := hM115.new hN144
      refine ⟨trivial,?_⟩
      refine dAll 1 [] (by kernel_rfl) ?_
      refine dos [] (.load 24 (pt bp 3)) (some 55) [] (lb 12 511) trivial (runs_load (v := .slice av acc.length cv) (ps := [cl w_71 bp 3 (.slice av acc.length cv)]) (by kernel_rfl) (A1 (cell_of (hM146.blk 3 rfl) rfl))) ?_
      rintro _ _ ⟨rfl,rfl⟩
      refine ⟨trivial,?_⟩
      refine dAll 9 [] (by kernel_rfl) ?_
      refine dos [] (.builtin .append #[24,24] 24 #[false,false] [.slice av acc.length cv,.slice (some ⟨be,0,none⟩) 1 1]) (some 63) [] (lb 12 1023) trivial (runs_appH (e := 52) (size := 2) (bytes := 24) (by kernel_rfl) (hM146.row 2 rfl) (m := 1) (news := [sv (nodeNames.getD acc.length []),iv ((1 + g_28:Nat):Int)]) (hM146.blk 0 rfl) rfl (by simp [Value.oneCell']) (by omega) (by omega) hM146.base) ?_
      rintro vs147 w_72 ⟨hr148,hg149,ho150⟩
      have hr151 : w_72.ownsRow w.heap.size 52 2 vs147 ((acc ++ [nd]).length) ((acc ++ [nd]).flatMap nodeC) := by subst hnd; simpa [nodeC] using hr148
      have hE152 := hM146.toExtApp hE145 2 rfl hg149
      have hM153 := hM146.app 2 rfl hr151 hg149 ho150
      obtain ⟨av2,cv2,hvsvs147⟩ := row_slice (hM153.row 2 rfl)
      subst hvsvs147
      refine ⟨trivial,?_⟩
      refine dtz [10] [] 1 (lb 12 2047) [(2,pt b0 0),(3,pt bq 0),(4,pt bp 0),(5,iv (kk:Int)),(6,iv (n:Int)),(7,iv (acc.length:Int)),(63,.slice av2 ((acc ++ [nd]).length) cv2),(64,pt bp 3)] (fun w' => []) (fun w' hS => trivial) (trivial) ?_
      refine dAll 11 [] (by kernel_rfl) ?_
      refine dos [] (.store 24 (pt bp 3) (.slice av2 ((acc ++ [nd]).length) cv2)) none [] (lb 12 4095) trivial (runs_st (hM153.blk 3 rfl) (by kernel_rfl)) ?_
      rintro _ w_73 hC154
      have hE155 := hM153.toExt hE152 hC154 3 rfl
      have hM156 := hM153.set 3 rfl hC154
      refine ⟨trivial,?_⟩
      refine dDone (by kernel_rfl) ?_
      refine sgz 6 [] KT [(2,pt b0 0),(3,pt bq 0),(4,pt bp 0),(5,iv (kk:Int)),(6,iv (n:Int)),(7,iv ((acc.length + 1:Nat):Int))] [I64 ((acc.length + 1:Nat):Int)] (A1 (i64 (by omega))) ?_
      have hM157 := hM156.pickT 6 [2,3,4,5] (by kernel_rfl)
      have hfx : n - acc.length = (n - (acc.length + 1)) + 1 := by omega
      have hx : nd :: (netNodes (n - (acc.length + 1)) (acc.length + 1) l_42).1 = (netNodes (n - acc.length) acc.length L).1 ∧ (netNodes (n - (acc.length + 1)) (acc.length + 1) l_42).2 = (netNodes (n - acc.length) acc.length L).2 := by subst hnd; subst hg_29; subst hl_31; subst hg_41; subst hl_43; rw [hfx,netNodes_stepN (by omega)]; exact ⟨rfl,rfl⟩
      refine stEq (st' := (stz [(2,pt b0 0),(3,pt bq 0),(4,pt bp 0),(5,iv (kk:Int)),(6,iv (n:Int)),(7,iv (((acc ++ [nd]).length:Nat):Int))])) (by rw [show (((acc.length + 1:Nat):Int) : Int) = (((acc ++ [nd]).length:Nat):Int) from by rw [List.length_append]; rfl]) ?_
      subst hKT
      exact again ((acc ++ [nd]),l_42,sa_35,sc_36,av2,cv2) [2,3,4,5,6,7] (by kernel_rfl) (⟨hE155,hM157,hcs_38,hs_44,hks_39,by show (acc ++ [nd]).length ≤ n; rw [List.length_append]; exact hlt,by show ((acc ++ [nd]) ++ (netNodes (n - (acc ++ [nd]).length) (acc ++ [nd]).length _).1,(netNodes (n - (acc ++ [nd]).length) (acc ++ [nd]).length _).2) = A; rw [List.length_append,List.append_assoc,show [nd].length = 1 from rfl,List.singleton_append,hx.1,hx.2]; exact hacc⟩) (by show n - (acc ++ [nd]).length < n - acc.length; rw [List.length_append]; show n - (acc.length + 1) < _; omega)
     have hlen : acc.length = n := by omega
     rw [hlen,Nat.sub_self] at hacc
     have hacc2 : (acc,L) = A := by rw [← hacc]; simp [netNodes]
     have hA2 : netA raw = (acc,L) := by rw [hAeq,hacc2]
     refine sg0 4 (kOp Y14 (ro1 8 [0]) 1 []) [(2,pt b0 0),(3,pt bq 0),(4,pt bp 0),(5,iv (kk:Int)),(6,iv (n:Int)),(65,pt bq 0)] ?_
     refine os0 _ (some 66) (kOp Y14 (ro1 8 [0]) 2 []) (runs_call E30 (next_any w bq L s e 10 wi hE1 hc1 hs1 (by omega) hk1 (hM1.blk 2 rfl))) ?_
     rintro _ w_74 ⟨rfl,sa_75,sc_76,hC_77,hcs_78,hks_79⟩
     have hE158 := hM1.toExt hE1 hC_77 2 rfl
     have hM159 := hM1.set 2 rfl hC_77
     have hv_80 := nextV_lt L (n := 10) (by omega)
     refine sg0 5 (kOp Y14 (ro1 9 [0]) 1 []) [(2,pt b0 0),(3,pt bq 0),(4,pt bp 0),(5,iv (kk:Int)),(6,iv (n:Int)),(9,iv ((nextV L 10:Nat):Int)),(67,zero49)] ?_
     obtain ⟨many,hmany⟩ : ∃ k,nextV L 10 = k := ⟨_,rfl⟩
     have hmanyl : many < 10 := by rw [← hmany]; exact nextV_lt _ (by omega)
     rw [hmany]
     refine os0 (.alloc 68) (some 10) (kOp Y14 (ro1 9 [0]) 2 []) (runs_alloc (z := zero49) (by kernel_rfl)) ?_
     rintro _ w_81 ⟨bu,rfl,hN_82⟩
     rw [zero49_cells] at hN_82
     have hE_83 := hE158.trans hN_82.ext
     have hM_84 : Hold w_81 w.heap.size [.blk bu (usedC []) 68,.row (.slice av acc.length cv) 52 2 acc.length (acc.flatMap nodeC),.blk bp ([iv pr,iv (cp:Int),iv 0,.slice av acc.length cv,.slice none 0 0,.slice none 0 0,.slice none 0 0]) 29,.blk bq ([.slice sa_75 ((L.drop 1).length) sc_76]) 64,.blk b0 ([iv 0,iv 0,iv 0,.slice none 0 0,.slice none 0 0,.slice none 0 0,.slice none 0 0]) 29] := hM159.new hN_82
     refine os0 (.store 68 (pt bu 0) (zero49)) none (kOp Y14 (ro1 9 [0]) 3 []) ((runs_store (s := 49) (v := zero49) (cs := usedC []) (by kernel_rfl) (hM_84.blk 0 rfl) rfl (by rw [usedC_len]; decide) zero49_one).mono (Ψ := fun _ w' => Chg w_81 w' bu (.cells (usedC []).toArray 68 (0,0))) fun _ _ h => by rw [zero49_set] at h; exact h) ?_
     rintro _ w_85 hC_86
     have hE160 := hM_84.toExt hE_83 hC_86 0 rfl
     have hM161 := hM_84.set 0 rfl hC_86
     have hM162 := hM161.nilRow (e := 61) (size := 3)
     refine sg0 7 (kAt Y14 (ro1 10 [0,1,0]) []) [(2,pt b0 0),(3,pt bq 0),(4,pt bp 0),(5,iv (kk:Int)),(6,iv (n:Int)),(9,iv (many:Int)),(10,pt bu 0),(11,iv 0)] ?_
     obtain ⟨R,hR⟩ : ∃ R,netLinks many 0 n (L.drop 1) [] = R := ⟨_,rfl⟩
     have hBeq : netB raw = R := by unfold netB; rw [hA2,hn]; show netLinks (nextV L 10) 0 n (L.drop 1) [] = R; rw [hmany]; exact hR
     refine loopR (netL2 w b0 bq bp bu n kk many pr cp acc av cv R) (k' := (kEnd Y14 (ro1 10 [0,1,0]) [])) (body := (cAt Y14 (ro1 10 [0,1,0,0]))) (by kernel_rfl) ([],0,L.drop 1,sa_75,sc_76,none,0) [2,3,4,5,6,9,10,11] (by kernel_rfl) (⟨hE160,hM162,hcs_78,hs1.drop 1,hks_79,Nat.zero_le _,hR,⟨by simp,by simp [linkKeys]⟩,Nat.le_refl _⟩) ?_
     rintro ⟨la,li,ll,ls,le,lv,lc⟩ wj ⟨hE2,hM2,hc2,hs2,hk2,hli,hR2,hok,hlal⟩
     simp only at hE2 hM2 hc2 hs2 hk2 hli hR2 hok hlal
     show G _ _ _ _ (kAt (cAt Y14 (ro1 10 [0,1,0,0])) [] (.inv (LI 227 [] (netL2 w b0 bq bp bu n kk many pr cp acc av cv R) (la,li,ll,ls,le,lv,lc)) :: (kEnd Y14 (ro1 10 [0,1,0]) []))) (stz [(2,pt b0 0),(3,pt bq 0),(4,pt bp 0),(5,iv (kk:Int)),(6,iv (n:Int)),(9,iv (many:Int)),(10,pt bu 0),(11,iv (li:Int))]) wj
     refine sg0 7 (kAt (cAt Y14 (ro1 10 [0,1,0,0])) [0,1] (.inv (LI 227 [] (netL2 w b0 bq bp bu n kk many pr cp acc av cv R) (la,li,ll,ls,le,lv,lc)) :: (kEnd Y14 (ro1 10 [0,1,0]) []))) [(2,pt b0 0),(3,pt bq 0),(4,pt bp 0),(5,iv (kk:Int)),(6,iv (n:Int)),(9,iv (many:Int)),(10,pt bu 0),(11,iv (li:Int)),(70,.bool (decide ((li:Int) < (many:Int))))] ?_
     refine brd ((li:Int) < (many:Int)) (fun h1 => ?_) (fun h1 => ?_)
     ·generalize hKT : ((.inv (LI 227 [] (netL2 w b0 bq bp bu n kk many pr cp acc av cv R) (la,li,ll,ls,le,lv,lc)) :: (kEnd Y14 (ro1 10 [0,1,0]) [])) : List Fr) = KT
      have hlt : li < many := by omega
      have hfx : many - li = (many - (li + 1)) + 1 := by omega
      rw [hfx] at hR2
      have rest3 : ∀ (wy : World) (a0 b1 : Nat) (l3 : List Int) (s3 : Option Addr) (e3 : Nat),linkPair n li ll = (a0,b1,l3) → Ext w wy → Hold wy w.heap.size [.row (.slice lv la.length lc) 61 3 la.length (la.flatMap linkC),.blk bu (usedC la) 68,.row (.slice av acc.length cv) 52 2 acc.length (acc.flatMap nodeC),.blk bp ([iv pr,iv (cp:Int),iv 0,.slice av acc.length cv,.slice lv la.length lc,.slice none 0 0,.slice none 0 0]) 29,.blk bq ([.slice s3 l3.length e3]) 64,.blk b0 ([iv 0,iv 0,iv 0,.slice none 0 0,.slice none 0 0,.slice none 0 0,.slice none 0 0]) 29] → Cells w s3 (l3.flatMap intCells) → Small l3 → l3.length ≤ e3 → G Tryz.prog 227 [] (bodyPost Tryz.prog Tryz.f14 (Ret fun v w' => ∃ q : PAd,v = .agg #[.int .i64 (netP raw).proto,.int .i64 (netP raw).cap,.int .i64 (netP raw).k,.slice q.a1 (netP raw).nodes.length q.c1,.slice q.a2 (netP raw).links.length q.c2,.slice q.a3 (netP raw).dests.length q.c3,.slice q.a4 (netP raw).checks.length q.c4] ∧ Ext w w' ∧ NetAt w' w.heap.size (netP raw) q)) (kAt (cAt Y14 (ro1 10 [0,1,0,0])) [1,0,0,1,1,1] KT) (stz [(2,pt b0 0),(3,pt bq 0),(4,pt bp 0),(5,iv (kk:Int)),(6,iv (n:Int)),(9,iv (many:Int)),(10,pt bu 0),(11,iv (li:Int)),(12,iv (a0:Int)),(13,iv (b1:Int))]) wy := by
        intro wy a0 b1 l3 s3 e3 hq3 hE3 hM3 hc3 hs3 hk3
        have hlp := linkPair_lt (n := n) (by omega) li ll
        rw [hq3] at hlp
        simp only at hlp
        refine sg0 7 (kAt (cAt Y14 (ro1 10 [0,1,0,0])) [1,0,0,1,1,1,0,1] KT) [(2,pt b0 0),(3,pt bq 0),(4,pt bp 0),(5,iv (kk:Int)),(6,iv (n:Int)),(9,iv (many:Int)),(10,pt bu 0),(11,iv (li:Int)),(12,iv (a0:Int)),(13,iv (b1:Int)),(92,.bool (decide ((b1:Int) < (a0:Int))))] ?_
        refine brd ((b1:Int) < (a0:Int)) (fun hsw => ?_) (fun hsw => ?_)
        ·have hL := netLink1_eq (acc := la) hq3 (if_pos (by omega)) (if_pos (by omega))
         refine sg0 7 (kAt (cAt Y14 (ro1 10 [0,1,0,0])) [1,0,0,1,1,1,1,0] KT) [(2,pt b0 0),(3,pt bq 0),(4,pt bp 0),(5,iv (kk:Int)),(6,iv (n:Int)),(9,iv (many:Int)),(10,pt bu 0),(11,iv (li:Int)),(12,iv (b1:Int)),(13,iv (a0:Int))] ?_
         by_cases hab : (b1:Int) = (a0:Int)
         ·have kf165 : (!(decide ((b1:Int) = (a0:Int)))) = false := by rw [show (decide ((b1:Int) = (a0:Int))) = true from decide_eq_true hab]; first | done | rfl
          refine sgz 22 [.skip,.skip,.skip,.skip,.skip,.skip,.skip,.skip] KT [(2,pt b0 0),(3,pt bq 0),(4,pt bp 0),(5,iv (kk:Int)),(6,iv (n:Int)),(9,iv (many:Int)),(10,pt bu 0),(11,iv ((li + 1:Nat):Int))] ((fun (z1 : Bool) => ([z1 = (!true),z1 = (!true),z1 = (!true),z1 = (!true),z1 = (!true),z1 = (!true),z1 = (!true),z1 = false,false = false,I64 ((li + 1:Nat):Int)] : List Prop)) (!(decide ((b1:Int) = (a0:Int))))) (AC kf165 (AC kf165 (AC kf165 (AC kf165 (AC kf165 (AC kf165 (AC kf165 (AC kf165 (AC rfl (A1 (i64 (by omega)))))))))))) ?_
          rw [if_neg (fun h => h.1 (by omega))] at hL
          subst hKT
          exact again (la,li + 1,l3,s3,e3,lv,lc) [2,3,4,5,6,9,10,11] (by kernel_rfl) (⟨hE3,hM3,hc3,hs3,hk3,by show li + 1 ≤ many; omega,netLinks_step hR2 hL,hok,by show la.length ≤ li + 1; omega⟩) (show many - (li + 1) < many - li by omega)
         have habl : b1 < a0 ∧ a0 < n := by omega
         have huc := used_cell (hM3.blk 1 rfl) hok habl.1 habl.2 (by omega)
         have kf166 : (!(decide ((b1:Int) = (a0:Int)))) = true := by rw [show (decide ((b1:Int) = (a0:Int))) = false from decide_eq_false hab]; first | done | rfl
         refine sgz 14 [.exec,.exec,.exec,.exec,.exec,.exec,.ld (.bool (usedB la b1 a0)),.exec] (kAt (cAt Y14 (ro1 10 [0,1,0,0])) [1,0,0,1,1,1,1,1] KT) [(2,pt b0 0),(3,pt bq 0),(4,pt bp 0),(5,iv (kk:Int)),(6,iv (n:Int)),(9,iv (many:Int)),(10,pt bu 0),(11,iv (li:Int)),(12,iv (b1:Int)),(13,iv (a0:Int)),(106,.bool ((!(decide ((b1:Int) = (a0:Int)))) && (!(usedB la b1 a0))))] ((fun (z1 : Bool) => ([z1 = true,z1 = true,I64 ((7 * b1:Nat):Int),z1 = true,z1 = true,I64 ((7 * b1 + a0:Nat):Int),z1 = true,(0 ≤ ((7 * b1 + a0:Nat):Int) ∧ ((7 * b1 + a0:Nat):Int) < (49 : Int)),z1 = true,cl wy bu (0 + (7 * b1 + a0) * 1) (.bool (usedB la b1 a0)),z1 = true] : List Prop)) (!(decide ((b1:Int) = (a0:Int))))) (AC kf166 (AC kf166 (AC (i64 (by omega)) (AC kf166 (AC kf166 (AC (i64 (by omega)) (AC kf166 (AC (by omega) (AC kf166 (AC huc (A1 kf166))))))))))) ?_
         by_cases hus : (usedB la b1 a0) = true
         ·refine stEq (st' := (stz [(2,pt b0 0),(3,pt bq 0),(4,pt bp 0),(5,iv (kk:Int)),(6,iv (n:Int)),(9,iv (many:Int)),(10,pt bu 0),(11,iv (li:Int)),(12,iv (b1:Int)),(13,iv (a0:Int)),(106,.bool ((!(decide ((b1:Int) = (a0:Int)))) && (!true)))])) (by rw [show (usedB la b1 a0) = true from hus] <;> rfl) ?_
          have kf167 : ((!(decide ((b1:Int) = (a0:Int)))) && (!true)) = false := by rw [show (!(decide ((b1:Int) = (a0:Int)))) = true from kf166,show (!true) = false from rfl]; first | done | rfl
          refine sgz 8 [.skip] KT [(2,pt b0 0),(3,pt bq 0),(4,pt bp 0),(5,iv (kk:Int)),(6,iv (n:Int)),(9,iv (many:Int)),(10,pt bu 0),(11,iv ((li + 1:Nat):Int))] [((!(decide ((b1:Int) = (a0:Int)))) && (!true)) = false,I64 ((li + 1:Nat):Int)] (AC kf167 (A1 (i64 (by omega)))) ?_
          rw [if_neg (fun h => by rw [hus] at h; exact absurd h.2 (by simp))] at hL
          subst hKT
          exact again (la,li + 1,l3,s3,e3,lv,lc) [2,3,4,5,6,9,10,11] (by kernel_rfl) (⟨hE3,hM3,hc3,hs3,hk3,by show li + 1 ≤ many; omega,netLinks_step hR2 hL,hok,by show la.length ≤ li + 1; omega⟩) (show many - (li + 1) < many - li by omega)
         refine stEq (st' := (stz [(2,pt b0 0),(3,pt bq 0),(4,pt bp 0),(5,iv (kk:Int)),(6,iv (n:Int)),(9,iv (many:Int)),(10,pt bu 0),(11,iv (li:Int)),(12,iv (b1:Int)),(13,iv (a0:Int)),(106,.bool ((!(decide ((b1:Int) = (a0:Int)))) && (!false)))])) (by rw [show (usedB la b1 a0) = false from Bool.eq_false_iff.2 hus] <;> rfl) ?_
         have hmod := Nat.mod_le (nextV l3 15) (1 + nextV (l3.drop 1) 15)
         have hmod2 := nextV_lt l3 (n := 15) (by omega)
         have kf168 : ((!(decide ((b1:Int) = (a0:Int)))) && (!false)) = true := by rw [show (!(decide ((b1:Int) = (a0:Int)))) = true from kf166,show (!false) = true from rfl]; first | done | rfl
         refine sgz 8 [.exec] (kOp (cAt Y14 (ro1 10 [0,1,0,0])) [1,0,0,1,1,1,1,1,0,0] 5 KT) [(2,pt b0 0),(3,pt bq 0),(4,pt bp 0),(5,iv (kk:Int)),(6,iv (n:Int)),(9,iv (many:Int)),(10,pt bu 0),(11,iv (li:Int)),(12,iv (b1:Int)),(13,iv (a0:Int)),(111,pt bu (0 + (7 * b1 + a0) * 1))] [((!(decide ((b1:Int) = (a0:Int)))) && (!false)) = true,I64 ((7 * b1:Nat):Int),I64 ((7 * b1 + a0:Nat):Int),(0 ≤ ((7 * b1 + a0:Nat):Int) ∧ ((7 * b1 + a0:Nat):Int) < (49 : Int))] (AC kf168 (AC (i64 (by omega)) (AC (i64 (by omega)) (A1 (by omega))))) ?_
         refine os0 (.store 4 (pt bu (0 + (7 * b1 + a0) * 1)) (.bool true)) none (kOp (cAt Y14 (ro1 10 [0,1,0,0])) [1,0,0,1,1,1,1,1,0,0] 6 KT) ((runs_store (s := 1) (cs := (usedC la)) (by kernel_rfl) (hM3.blk 1 rfl) rfl (by rw [usedC_len]; omega) (by simp [Value.cells,Value.oneCell'])).mono (Ψ := fun _ w' => Chg wy w' bu (.cells (setAt (usedC la) (0 + (7 * b1 + a0) * 1) [.bool true]).toArray _ (0,0))) fun _ _ h => h) ?_
         rintro _ w_94 hC169
         have hE170 := hM3.toExt hE3 hC169 1 rfl
         have hM171 := hM3.set 1 rfl hC169
         obtain ⟨lk,hlk⟩ : ∃ x,(⟨(b1:Int),(a0:Int),((1 + nextV l3 15 % (1 + nextV (l3.drop 1) 15):Nat):Int)⟩ : PLink) = x := ⟨_,rfl⟩
         have hM_95 : Hold w_94 w.heap.size [.row (.slice lv la.length lc) 61 3 la.length (la.flatMap linkC),.blk bu (usedC (la ++ [lk])) 68,.row (.slice av acc.length cv) 52 2 acc.length (acc.flatMap nodeC),.blk bp ([iv pr,iv (cp:Int),iv 0,.slice av acc.length cv,.slice lv la.length lc,.slice none 0 0,.slice none 0 0]) 29,.blk bq ([.slice s3 l3.length e3]) 64,.blk b0 ([iv 0,iv 0,iv 0,.slice none 0 0,.slice none 0 0,.slice none 0 0,.slice none 0 0]) 29] := by subst hlk; rw [← used_set (n := n) habl.1 habl.2 (by omega)]; exact hM171
         refine sg0 1 (kAt (cAt Y14 (ro1 10 [0,1,0,0])) [1,0,0,1,1,1,1,1,0,1] KT) [(2,pt b0 0),(3,pt bq 0),(4,pt bp 0),(5,iv (kk:Int)),(6,iv (n:Int)),(9,iv (many:Int)),(10,pt bu 0),(11,iv (li:Int)),(12,iv (b1:Int)),(13,iv (a0:Int))] ?_
         refine dBegin (k' := (Fr.blk 3 :: (kAt (cAt Y14 (ro1 10 [0,1,0,0])) [1,1] KT))) (id := 31) (m := 16) (ops := opsAt (cAt (cAt Y14 (ro1 10 [0,1,0,0])) [1,0,0,1,1,1,1,1,0,1])) (fun _ _ => True) (by kernel_rfl) (PQ.body _ _ _) (by kernel_rfl) (by kernel_rfl) ?_
         intro w172 hx173
         have hE174 := hE170.trans hx173
         have hM175 := hM_95.ext hx173
         refine dtz [0,2,3,4,6] [] 11 (lb 16 93) [(2,pt b0 0),(3,pt bq 0),(4,pt bp 0),(5,iv (kk:Int)),(6,iv (n:Int)),(9,iv (many:Int)),(10,pt bu 0),(11,iv (li:Int)),(112,pt bp 4),(114,iv (b1:Int)),(115,iv (a0:Int)),(116,pt bq 0),(118,pt bq 0)] (fun w' => []) (fun w' hS => trivial) (trivial) ?_
         refine dAll 1 [5] (by kernel_rfl) ?_
         refine ⟨?_,?_⟩
         ·refine dos [] (.load 25 (pt bp 4)) (some 113) [] (lb 16 95) trivial (runs_load (v := .slice lv la.length lc) (ps := [cl w172 bp 4 (.slice lv la.length lc)]) (by kernel_rfl) (A1 (cell_of (hM175.blk 3 rfl) rfl))) ?_
          rintro _ _ ⟨rfl,rfl⟩
          refine ⟨trivial,?_⟩
          refine dAll 5 [] (by kernel_rfl) ?_
          refine dos [] (.call 30 [pt bq 0,iv 15]) (some 117) [] (lb 16 127) trivial (runs_call E30 (next_any w bq l3 s3 e3 15 w172 hE174 hc3 hs3 (by omega) hk3 (hM175.blk 4 rfl))) ?_
          rintro _ w_96 ⟨rfl,sa_97,sc_98,hC_99,hcs_100,hks_101⟩
          have hE176 := hM175.toExt hE174 hC_99 4 rfl
          have hM177 := hM175.set 4 rfl hC_99
          have hv_102 := nextV_lt l3 (n := 15) (by omega)
          refine ⟨trivial,?_⟩
          refine dAll 7 [] (by kernel_rfl) ?_
          refine dos [] (.call 30 [pt bq 0,iv 15]) (some 119) [] (lb 16 255) trivial (runs_call E30 (next_any w bq (l3.drop 1) sa_97 sc_98 15 w_96 hE176 hcs_100 (hs3.drop 1) (by omega) hks_101 (hM177.blk 4 rfl))) ?_
          rintro _ w_103 ⟨rfl,sa_104,sc_105,hC_106,hcs_107,hks_108⟩
          have hE178 := hM177.toExt hE176 hC_106 4 rfl
          have hM179 := hM177.set 4 rfl hC_106
          have hv_109 := nextV_lt (l3.drop 1) (n := 15) (by omega)
          refine ⟨trivial,?_⟩
          refine dtz [8,9,10,11] [] 4 (lb 16 4095) [(2,pt b0 0),(3,pt bq 0),(4,pt bp 0),(5,iv (kk:Int)),(6,iv (n:Int)),(9,iv (many:Int)),(10,pt bu 0),(11,iv (li:Int)),(113,.slice lv la.length lc),(123,.agg #[iv (b1:Int),iv (a0:Int),iv ((1 + ((nextV l3 15) % (1 + (nextV (l3.drop 1) 15))):Nat):Int)])] (fun w' => [I64 ((1 + (nextV (l3.drop 1) 15):Nat):Int),(0 ≤ ((nextV l3 15:Nat):Int) ∧ 0 < ((1 + (nextV (l3.drop 1) 15):Nat):Int)),I64 ((1 + ((nextV l3 15) % (1 + (nextV (l3.drop 1) 15))):Nat):Int)]) (fun w' hS => (AC (i64 (by omega)) (AC (by omega) (A1 (i64 (by omega)))))) (trivial) ?_
          refine dAll 12 [] (by kernel_rfl) ?_
          refine dos [] (.bslice 25 1 [(0,.agg #[iv (b1:Int),iv (a0:Int),iv ((1 + ((nextV l3 15) % (1 + (nextV (l3.drop 1) 15))):Nat):Int)])]) (some 124) [] (lb 16 8191) trivial (runs_bslice (cs := [iv (b1:Int),iv (a0:Int),iv ((1 + ((nextV l3 15) % (1 + (nextV (l3.drop 1) 15))):Nat):Int)]) (e := 61) (by kernel_rfl)) ?_
          rintro _ w_110 ⟨be,rfl,hN180⟩
          have hE181 := hE178.trans hN180.ext
          have hM182 := hM179.new hN180
          refine ⟨trivial,?_⟩
          refine dAll 13 [] (by kernel_rfl) ?_
          refine dos [] (.builtin .append #[25,25] 25 #[false,false] [.slice lv la.length lc,.slice (some ⟨be,0,none⟩) 1 1]) (some 125) [] (lb 16 16383) trivial (runs_appH (e := 61) (size := 3) (bytes := 24) (by kernel_rfl) (hM182.row 1 rfl) (m := 1) (news := [iv (b1:Int),iv (a0:Int),iv ((1 + ((nextV l3 15) % (1 + (nextV (l3.drop 1) 15))):Nat):Int)]) (hM182.blk 0 rfl) rfl (by simp [Value.oneCell']) (by omega) (by omega) hM182.base) ?_
          rintro vs183 w_111 ⟨hr184,hg185,ho186⟩
          have hr187 : w_111.ownsRow w.heap.size 61 3 vs183 ((la ++ [lk]).length) ((la ++ [lk]).flatMap linkC) := by subst hlk; simpa [linkC] using hr184
          have hE188 := hM182.toExtApp hE181 1 rfl hg185
          have hM189 := hM182.app 1 rfl hr187 hg185 ho186
          obtain ⟨lv2,lc2,hvsvs183⟩ := row_slice (hM189.row 1 rfl)
          subst hvsvs183
          refine ⟨trivial,?_⟩
          refine dtz [14] [] 1 (lb 16 32767) [(2,pt b0 0),(3,pt bq 0),(4,pt bp 0),(5,iv (kk:Int)),(6,iv (n:Int)),(9,iv (many:Int)),(10,pt bu 0),(11,iv (li:Int)),(125,.slice lv2 ((la ++ [lk]).length) lc2),(126,pt bp 4)] (fun w' => []) (fun w' hS => trivial) (trivial) ?_
          refine dAll 15 [] (by kernel_rfl) ?_
          refine dos [] (.store 25 (pt bp 4) (.slice lv2 ((la ++ [lk]).length) lc2)) none [] (lb 16 65535) trivial (runs_st (hM189.blk 4 rfl) (by kernel_rfl)) ?_
          rintro _ w_112 hC190
          have hE191 := hM189.toExt hE188 hC190 4 rfl
          have hM192 := hM189.set 4 rfl hC190
          refine ⟨trivial,?_⟩
          refine dDone (by kernel_rfl) ?_
          refine sgz 6 [] KT [(2,pt b0 0),(3,pt bq 0),(4,pt bp 0),(5,iv (kk:Int)),(6,iv (n:Int)),(9,iv (many:Int)),(10,pt bu 0),(11,iv ((li + 1:Nat):Int))] [I64 ((li + 1:Nat):Int)] (A1 (i64 (by omega))) ?_
          have hM193 := hM192.pickT 7 [1,2,3,4,5,6] (by kernel_rfl)
          rw [if_pos ⟨by omega,Bool.eq_false_iff.2 hus⟩,hlk] at hL
          have hok2 := netLink1_ok (n := n) (by omega) li ll hok
          rw [hL] at hok2
          subst hKT
          exact again ((la ++ [lk]),li + 1,(l3.drop 1).drop 1,sa_104,sc_105,lv2,lc2) [2,3,4,5,6,9,10,11] (by kernel_rfl) (⟨hE191,hM193,hcs_107,(hs3.drop 1).drop 1,hks_108,by show li + 1 ≤ many; omega,netLinks_step hR2 hL,hok2,by show (la ++ [lk]).length ≤ li + 1; rw [List.length_append]; show la.length + 1 ≤ _; omega⟩) (show many - (li + 1) < many - li by omega)
         refine dos [] (.call 30 [pt bq 0,iv 15]) (some 117) [] (lb 16 125) trivial (runs_call E30 (next_any w bq l3 s3 e3 15 w172 hE174 hc3 hs3 (by omega) hk3 (hM175.blk 4 rfl))) ?_
         rintro _ w_113 ⟨rfl,sa_114,sc_115,hC_116,hcs_117,hks_118⟩
         have hE194 := hM175.toExt hE174 hC_116 4 rfl
         have hM195 := hM175.set 4 rfl hC_116
         have hv_119 := nextV_lt l3 (n := 15) (by omega)
         refine ⟨trivial,?_⟩
         refine dAll 1 [7] (by kernel_rfl) ?_
         refine ⟨?_,?_⟩
         ·refine dos [] (.load 25 (pt bp 4)) (some 113) [] (lb 16 127) trivial (runs_load (v := .slice lv la.length lc) (ps := [cl w_113 bp 4 (.slice lv la.length lc)]) (by kernel_rfl) (A1 (cell_of (hM195.blk 3 rfl) rfl))) ?_
          rintro _ _ ⟨rfl,rfl⟩
          refine ⟨trivial,?_⟩
          refine dAll 7 [] (by kernel_rfl) ?_
          refine dos [] (.call 30 [pt bq 0,iv 15]) (some 119) [] (lb 16 255) trivial (runs_call E30 (next_any w bq (l3.drop 1) sa_114 sc_115 15 w_113 hE194 hcs_117 (hs3.drop 1) (by omega) hks_118 (hM195.blk 4 rfl))) ?_
          rintro _ w_120 ⟨rfl,sa_121,sc_122,hC_123,hcs_124,hks_125⟩
          have hE196 := hM195.toExt hE194 hC_123 4 rfl
          have hM197 := hM195.set 4 rfl hC_123
          have hv_126 := nextV_lt (l3.drop 1) (n := 15) (by omega)
          refine ⟨trivial,?_⟩
          refine dtz [8,9,10,11] [] 4 (lb 16 4095) [(2,pt b0 0),(3,pt bq 0),(4,pt bp 0),(5,iv (kk:Int)),(6,iv (n:Int)),(9,iv (many:Int)),(10,pt bu 0),(11,iv (li:Int)),(113,.slice lv la.length lc),(123,.agg #[iv (b1:Int),iv (a0:Int),iv ((1 + ((nextV l3 15) % (1 + (nextV (l3.drop 1) 15))):Nat):Int)])] (fun w' => [I64 ((1 + (nextV (l3.drop 1) 15):Nat):Int),(0 ≤ ((nextV l3 15:Nat):Int) ∧ 0 < ((1 + (nextV (l3.drop 1) 15):Nat):Int)),I64 ((1 + ((nextV l3 15) % (1 + (nextV (l3.drop 1) 15))):Nat):Int)]) (fun w' hS => (AC (i64 (by omega)) (AC (by omega) (A1 (i64 (by omega)))))) (trivial) ?_
          refine dAll 12 [] (by kernel_rfl) ?_
          refine dos [] (.bslice 25 1 [(0,.agg #[iv (b1:Int),iv (a0:Int),iv ((1 + ((nextV l3 15) % (1 + (nextV (l3.drop 1) 15))):Nat):Int)])]) (some 124) [] (lb 16 8191) trivial (runs_bslice (cs := [iv (b1:Int),iv (a0:Int),iv ((1 + ((nextV l3 15) % (1 + (nextV (l3.drop 1) 15))):Nat):Int)]) (e := 61) (by kernel_rfl)) ?_
          rintro _ w_127 ⟨be,rfl,hN198⟩
          have hE199 := hE196.trans hN198.ext
          have hM200 := hM197.new hN198
          refine ⟨trivial,?_⟩
          refine dAll 13 [] (by kernel_rfl) ?_
          refine dos [] (.builtin .append #[25,25] 25 #[false,false] [.slice lv la.length lc,.slice (some ⟨be,0,none⟩) 1 1]) (some 125) [] (lb 16 16383) trivial (runs_appH (e := 61) (size := 3) (bytes := 24) (by kernel_rfl) (hM200.row 1 rfl) (m := 1) (news := [iv (b1:Int),iv (a0:Int),iv ((1 + ((nextV l3 15) % (1 + (nextV (l3.drop 1) 15))):Nat):Int)]) (hM200.blk 0 rfl) rfl (by simp [Value.oneCell']) (by omega) (by omega) hM200.base) ?_
          rintro vs201 w_128 ⟨hr202,hg203,ho204⟩
          have hr205 : w_128.ownsRow w.heap.size 61 3 vs201 ((la ++ [lk]).length) ((la ++ [lk]).flatMap linkC) := by subst hlk; simpa [linkC] using hr202
          have hE206 := hM200.toExtApp hE199 1 rfl hg203
          have hM207 := hM200.app 1 rfl hr205 hg203 ho204
          obtain ⟨lv2,lc2,hvsvs201⟩ := row_slice (hM207.row 1 rfl)
          subst hvsvs201
          refine ⟨trivial,?_⟩
          refine dtz [14] [] 1 (lb 16 32767) [(2,pt b0 0),(3,pt bq 0),(4,pt bp 0),(5,iv (kk:Int)),(6,iv (n:Int)),(9,iv (many:Int)),(10,pt bu 0),(11,iv (li:Int)),(125,.slice lv2 ((la ++ [lk]).length) lc2),(126,pt bp 4)] (fun w' => []) (fun w' hS => trivial) (trivial) ?_
          refine dAll 15 [] (by kernel_rfl) ?_
          refine dos [] (.store 25 (pt bp 4) (.slice lv2 ((la ++ [lk]).length) lc2)) none [] (lb 16 65535) trivial (runs_st (hM207.blk 4 rfl) (by kernel_rfl)) ?_
          rintro _ w_129 hC208
          have hE209 := hM207.toExt hE206 hC208 4 rfl
          have hM210 := hM207.set 4 rfl hC208
          refine ⟨trivial,?_⟩
          refine dDone (by kernel_rfl) ?_
          refine sgz 6 [] KT [(2,pt b0 0),(3,pt bq 0),(4,pt bp 0),(5,iv (kk:Int)),(6,iv (n:Int)),(9,iv (many:Int)),(10,pt bu 0),(11,iv ((li + 1:Nat):Int))] [I64 ((li + 1:Nat):Int)] (A1 (i64 (by omega))) ?_
          have hM211 := hM210.pickT 7 [1,2,3,4,5,6] (by kernel_rfl)
          rw [if_pos ⟨by omega,Bool.eq_false_iff.2 hus⟩,hlk] at hL
          have hok2 := netLink1_ok (n := n) (by omega) li ll hok
          rw [hL] at hok2
          subst hKT
          exact again ((la ++ [lk]),li + 1,(l3.drop 1).drop 1,sa_121,sc_122,lv2,lc2) [2,3,4,5,6,9,10,11] (by kernel_rfl) (⟨hE209,hM211,hcs_124,(hs3.drop 1).drop 1,hks_125,by show li + 1 ≤ many; omega,netLinks_step hR2 hL,hok2,by show (la ++ [lk]).length ≤ li + 1; rw [List.length_append]; show la.length + 1 ≤ _; omega⟩) (show many - (li + 1) < many - li by omega)
         refine dos [] (.call 30 [pt bq 0,iv 15]) (some 119) [] (lb 16 253) trivial (runs_call E30 (next_any w bq (l3.drop 1) sa_114 sc_115 15 w_113 hE194 hcs_117 (hs3.drop 1) (by omega) hks_118 (hM195.blk 4 rfl))) ?_
         rintro _ w_130 ⟨rfl,sa_131,sc_132,hC_133,hcs_134,hks_135⟩
         have hE212 := hM195.toExt hE194 hC_133 4 rfl
         have hM213 := hM195.set 4 rfl hC_133
         have hv_136 := nextV_lt (l3.drop 1) (n := 15) (by omega)
         refine ⟨trivial,?_⟩
         refine dtz [8,9,10,11] [] 5 (lb 16 4093) [(2,pt b0 0),(3,pt bq 0),(4,pt bp 0),(5,iv (kk:Int)),(6,iv (n:Int)),(9,iv (many:Int)),(10,pt bu 0),(11,iv (li:Int)),(112,pt bp 4),(123,.agg #[iv (b1:Int),iv (a0:Int),iv ((1 + ((nextV l3 15) % (1 + (nextV (l3.drop 1) 15))):Nat):Int)])] (fun w' => [I64 ((1 + (nextV (l3.drop 1) 15):Nat):Int),(0 ≤ ((nextV l3 15:Nat):Int) ∧ 0 < ((1 + (nextV (l3.drop 1) 15):Nat):Int)),I64 ((1 + ((nextV l3 15) % (1 + (nextV (l3.drop 1) 15))):Nat):Int)]) (fun w' hS => (AC (i64 (by omega)) (AC (by omega) (A1 (i64 (by omega)))))) (trivial) ?_
         refine dAll 1 [12] (by kernel_rfl) ?_
         refine ⟨?_,?_⟩
         ·refine dos [] (.load 25 (pt bp 4)) (some 113) [] (lb 16 4095) trivial (runs_load (v := .slice lv la.length lc) (ps := [cl w_130 bp 4 (.slice lv la.length lc)]) (by kernel_rfl) (A1 (cell_of (hM213.blk 3 rfl) rfl))) ?_
          rintro _ _ ⟨rfl,rfl⟩
          refine ⟨trivial,?_⟩
          refine dAll 12 [] (by kernel_rfl) ?_
          refine dos [] (.bslice 25 1 [(0,.agg #[iv (b1:Int),iv (a0:Int),iv ((1 + ((nextV l3 15) % (1 + (nextV (l3.drop 1) 15))):Nat):Int)])]) (some 124) [] (lb 16 8191) trivial (runs_bslice (cs := [iv (b1:Int),iv (a0:Int),iv ((1 + ((nextV l3 15) % (1 + (nextV (l3.drop 1) 15))):Nat):Int)]) (e := 61) (by kernel_rfl)) ?_
          rintro _ w_137 ⟨be,rfl,hN214⟩
          have hE215 := hE212.trans hN214.ext
          have hM216 := hM213.new hN214
          refine ⟨trivial,?_⟩
          refine dAll 13 [] (by kernel_rfl) ?_
          refine dos [] (.builtin .append #[25,25] 25 #[false,false] [.slice lv la.length lc,.slice (some ⟨be,0,none⟩) 1 1]) (some 125) [] (lb 16 16383) trivial (runs_appH (e := 61) (size := 3) (bytes := 24) (by kernel_rfl) (hM216.row 1 rfl) (m := 1) (news := [iv (b1:Int),iv (a0:Int),iv ((1 + ((nextV l3 15) % (1 + (nextV (l3.drop 1) 15))):Nat):Int)]) (hM216.blk 0 rfl) rfl (by simp [Value.oneCell']) (by omega) (by omega) hM216.base) ?_
          rintro vs217 w_138 ⟨hr218,hg219,ho220⟩
          have hr221 : w_138.ownsRow w.heap.size 61 3 vs217 ((la ++ [lk]).length) ((la ++ [lk]).flatMap linkC) := by subst hlk; simpa [linkC] using hr218
          have hE222 := hM216.toExtApp hE215 1 rfl hg219
          have hM223 := hM216.app 1 rfl hr221 hg219 ho220
          obtain ⟨lv2,lc2,hvsvs217⟩ := row_slice (hM223.row 1 rfl)
          subst hvsvs217
          refine ⟨trivial,?_⟩
          refine dtz [14] [] 1 (lb 16 32767) [(2,pt b0 0),(3,pt bq 0),(4,pt bp 0),(5,iv (kk:Int)),(6,iv (n:Int)),(9,iv (many:Int)),(10,pt bu 0),(11,iv (li:Int)),(125,.slice lv2 ((la ++ [lk]).length) lc2),(126,pt bp 4)] (fun w' => []) (fun w' hS => trivial) (trivial) ?_
          refine dAll 15 [] (by kernel_rfl) ?_
          refine dos [] (.store 25 (pt bp 4) (.slice lv2 ((la ++ [lk]).length) lc2)) none [] (lb 16 65535) trivial (runs_st (hM223.blk 4 rfl) (by kernel_rfl)) ?_
          rintro _ w_139 hC224
          have hE225 := hM223.toExt hE222 hC224 4 rfl
          have hM226 := hM223.set 4 rfl hC224
          refine ⟨trivial,?_⟩
          refine dDone (by kernel_rfl) ?_
          refine sgz 6 [] KT [(2,pt b0 0),(3,pt bq 0),(4,pt bp 0),(5,iv (kk:Int)),(6,iv (n:Int)),(9,iv (many:Int)),(10,pt bu 0),(11,iv ((li + 1:Nat):Int))] [I64 ((li + 1:Nat):Int)] (A1 (i64 (by omega))) ?_
          have hM227 := hM226.pickT 7 [1,2,3,4,5,6] (by kernel_rfl)
          rw [if_pos ⟨by omega,Bool.eq_false_iff.2 hus⟩,hlk] at hL
          have hok2 := netLink1_ok (n := n) (by omega) li ll hok
          rw [hL] at hok2
          subst hKT
          exact again ((la ++ [lk]),li + 1,(l3.drop 1).drop 1,sa_131,sc_132,lv2,lc2) [2,3,4,5,6,9,10,11] (by kernel_rfl) (⟨hE225,hM227,hcs_134,(hs3.drop 1).drop 1,hks_135,by show li + 1 ≤ many; omega,netLinks_step hR2 hL,hok2,by show (la ++ [lk]).length ≤ li + 1; rw [List.length_append]; show la.length + 1 ≤ _; omega⟩) (show many - (li + 1) < many - li by omega)
         refine dos [] (.bslice 25 1 [(0,.agg #[iv (b1:Int),iv (a0:Int),iv ((1 + ((nextV l3 15) % (1 + (nextV (l3.drop 1) 15))):Nat):Int)])]) (some 124) [] (lb 16 8189) trivial (runs_bslice (cs := [iv (b1:Int),iv (a0:Int),iv ((1 + ((nextV l3 15) % (1 + (nextV (l3.drop 1) 15))):Nat):Int)]) (e := 61) (by kernel_rfl)) ?_
         rintro _ w_140 ⟨be,rfl,hN228⟩
         have hE229 := hE212.trans hN228.ext
         have hM230 := hM213.new hN228
         refine ⟨trivial,?_⟩
         refine dAll 1 [] (by kernel_rfl) ?_
         refine dos [] (.load 25 (pt bp 4)) (some 113) [] (lb 16 8191) trivial (runs_load (v := .slice lv la.length lc) (ps := [cl w_140 bp 4 (.slice lv la.length lc)]) (by kernel_rfl) (A1 (cell_of (hM230.blk 4 rfl) rfl))) ?_
         rintro _ _ ⟨rfl,rfl⟩
         refine ⟨trivial,?_⟩
         refine dAll 13 [] (by kernel_rfl) ?_
         refine dos [] (.builtin .append #[25,25] 25 #[false,false] [.slice lv la.length lc,.slice (some ⟨be,0,none⟩) 1 1]) (some 125) [] (lb 16 16383) trivial (runs_appH (e := 61) (size := 3) (bytes := 24) (by kernel_rfl) (hM230.row 1 rfl) (m := 1) (news := [iv (b1:Int),iv (a0:Int),iv ((1 + ((nextV l3 15) % (1 + (nextV (l3.drop 1) 15))):Nat):Int)]) (hM230.blk 0 rfl) rfl (by simp [Value.oneCell']) (by omega) (by omega) hM230.base) ?_
         rintro vs231 w_141 ⟨hr232,hg233,ho234⟩
         have hr235 : w_141.ownsRow w.heap.size 61 3 vs231 ((la ++ [lk]).length) ((la ++ [lk]).flatMap linkC) := by subst hlk; simpa [linkC] using hr232
         have hE236 := hM230.toExtApp hE229 1 rfl hg233
         have hM237 := hM230.app 1 rfl hr235 hg233 ho234
         obtain ⟨lv2,lc2,hvsvs231⟩ := row_slice (hM237.row 1 rfl)
         subst hvsvs231
         refine ⟨trivial,?_⟩
         refine dtz [14] [] 1 (lb 16 32767) [(2,pt b0 0),(3,pt bq 0),(4,pt bp 0),(5,iv (kk:Int)),(6,iv (n:Int)),(9,iv (many:Int)),(10,pt bu 0),(11,iv (li:Int)),(125,.slice lv2 ((la ++ [lk]).length) lc2),(126,pt bp 4)] (fun w' => []) (fun w' hS => trivial) (trivial) ?_
         refine dAll 15 [] (by kernel_rfl) ?_
         refine dos [] (.store 25 (pt bp 4) (.slice lv2 ((la ++ [lk]).length) lc2)) none [] (lb 16 65535) trivial (runs_st (hM237.blk 4 rfl) (by kernel_rfl)) ?_
         rintro _ w_142 hC238
         have hE239 := hM237.toExt hE236 hC238 4 rfl
         have hM240 := hM237.set 4 rfl hC238
         refine ⟨trivial,?_⟩
         refine dDone (by kernel_rfl) ?_
         refine sgz 6 [] KT [(2,pt b0 0),(3,pt bq 0),(4,pt bp 0),(5,iv (kk:Int)),(6,iv (n:Int)),(9,iv (many:Int)),(10,pt bu 0),(11,iv ((li + 1:Nat):Int))] [I64 ((li + 1:Nat):Int)] (A1 (i64 (by omega))) ?_
         have hM241 := hM240.pickT 7 [1,2,3,4,5,6] (by kernel_rfl)
         rw [if_pos ⟨by omega,Bool.eq_false_iff.2 hus⟩,hlk] at hL
         have hok2 := netLink1_ok (n := n) (by omega) li ll hok
         rw [hL] at hok2
         subst hKT
         exact again ((la ++ [lk]),li + 1,(l3.drop 1).drop 1,sa_131,sc_132,lv2,lc2) [2,3,4,5,6,9,10,11] (by kernel_rfl) (⟨hE239,hM241,hcs_134,(hs3.drop 1).drop 1,hks_135,by show li + 1 ≤ many; omega,netLinks_step hR2 hL,hok2,by show (la ++ [lk]).length ≤ li + 1; rw [List.length_append]; show la.length + 1 ≤ _; omega⟩) (show many - (li + 1) < many - li by omega)
        have hL := netLink1_eq (acc := la) hq3 (if_neg (by omega)) (if_neg (by omega))
        refine sg0 2 (kAt (cAt Y14 (ro1 10 [0,1,0,0])) [1,0,0,1,1,1,1,0] KT) [(2,pt b0 0),(3,pt bq 0),(4,pt bp 0),(5,iv (kk:Int)),(6,iv (n:Int)),(9,iv (many:Int)),(10,pt bu 0),(11,iv (li:Int)),(12,iv (a0:Int)),(13,iv (b1:Int))] ?_
        by_cases hab : (a0:Int) = (b1:Int)
        ·have kf242 : (!(decide ((a0:Int) = (b1:Int)))) = false := by rw [show (decide ((a0:Int) = (b1:Int))) = true from decide_eq_true hab]; first | done | rfl
         refine sgz 22 [.skip,.skip,.skip,.skip,.skip,.skip,.skip,.skip] KT [(2,pt b0 0),(3,pt bq 0),(4,pt bp 0),(5,iv (kk:Int)),(6,iv (n:Int)),(9,iv (many:Int)),(10,pt bu 0),(11,iv ((li + 1:Nat):Int))] ((fun (z1 : Bool) => ([z1 = (!true),z1 = (!true),z1 = (!true),z1 = (!true),z1 = (!true),z1 = (!true),z1 = (!true),z1 = false,false = false,I64 ((li + 1:Nat):Int)] : List Prop)) (!(decide ((a0:Int) = (b1:Int))))) (AC kf242 (AC kf242 (AC kf242 (AC kf242 (AC kf242 (AC kf242 (AC kf242 (AC kf242 (AC rfl (A1 (i64 (by omega)))))))))))) ?_
         rw [if_neg (fun h => h.1 (by omega))] at hL
         subst hKT
         exact again (la,li + 1,l3,s3,e3,lv,lc) [2,3,4,5,6,9,10,11] (by kernel_rfl) (⟨hE3,hM3,hc3,hs3,hk3,by show li + 1 ≤ many; omega,netLinks_step hR2 hL,hok,by show la.length ≤ li + 1; omega⟩) (show many - (li + 1) < many - li by omega)
        have habl : a0 < b1 ∧ b1 < n := by omega
        have huc := used_cell (hM3.blk 1 rfl) hok habl.1 habl.2 (by omega)
        have kf243 : (!(decide ((a0:Int) = (b1:Int)))) = true := by rw [show (decide ((a0:Int) = (b1:Int))) = false from decide_eq_false hab]; first | done | rfl
        refine sgz 14 [.exec,.exec,.exec,.exec,.exec,.exec,.ld (.bool (usedB la a0 b1)),.exec] (kAt (cAt Y14 (ro1 10 [0,1,0,0])) [1,0,0,1,1,1,1,1] KT) [(2,pt b0 0),(3,pt bq 0),(4,pt bp 0),(5,iv (kk:Int)),(6,iv (n:Int)),(9,iv (many:Int)),(10,pt bu 0),(11,iv (li:Int)),(12,iv (a0:Int)),(13,iv (b1:Int)),(106,.bool ((!(decide ((a0:Int) = (b1:Int)))) && (!(usedB la a0 b1))))] ((fun (z1 : Bool) => ([z1 = true,z1 = true,I64 ((7 * a0:Nat):Int),z1 = true,z1 = true,I64 ((7 * a0 + b1:Nat):Int),z1 = true,(0 ≤ ((7 * a0 + b1:Nat):Int) ∧ ((7 * a0 + b1:Nat):Int) < (49 : Int)),z1 = true,cl wy bu (0 + (7 * a0 + b1) * 1) (.bool (usedB la a0 b1)),z1 = true] : List Prop)) (!(decide ((a0:Int) = (b1:Int))))) (AC kf243 (AC kf243 (AC (i64 (by omega)) (AC kf243 (AC kf243 (AC (i64 (by omega)) (AC kf243 (AC (by omega) (AC kf243 (AC huc (A1 kf243))))))))))) ?_
        by_cases hus : (usedB la a0 b1) = true
        ·refine stEq (st' := (stz [(2,pt b0 0),(3,pt bq 0),(4,pt bp 0),(5,iv (kk:Int)),(6,iv (n:Int)),(9,iv (many:Int)),(10,pt bu 0),(11,iv (li:Int)),(12,iv (a0:Int)),(13,iv (b1:Int)),(106,.bool ((!(decide ((a0:Int) = (b1:Int)))) && (!true)))])) (by rw [show (usedB la a0 b1) = true from hus] <;> rfl) ?_
         have kf244 : ((!(decide ((a0:Int) = (b1:Int)))) && (!true)) = false := by rw [show (!(decide ((a0:Int) = (b1:Int)))) = true from kf243,show (!true) = false from rfl]; first | done | rfl
         refine sgz 8 [.skip] KT [(2,pt b0 0),(3,pt bq 0),(4,pt bp 0),(5,iv (kk:Int)),(6,iv (n:Int)),(9,iv (many:Int)),(10,pt bu 0),(11,iv ((li + 1:Nat):Int))] [((!(decide ((a0:Int) = (b1:Int)))) && (!true)) = false,I64 ((li + 1:Nat):Int)] (AC kf244 (A1 (i64 (by omega)))) ?_
         rw [if_neg (fun h => by rw [hus] at h; exact absurd h.2 (by simp))] at hL
         subst hKT
         exact again (la,li + 1,l3,s3,e3,lv,lc) [2,3,4,5,6,9,10,11] (by kernel_rfl) (⟨hE3,hM3,hc3,hs3,hk3,by show li + 1 ≤ many; omega,netLinks_step hR2 hL,hok,by show la.length ≤ li + 1; omega⟩) (show many - (li + 1) < many - li by omega)
        refine stEq (st' := (stz [(2,pt b0 0),(3,pt bq 0),(4,pt bp 0),(5,iv (kk:Int)),(6,iv (n:Int)),(9,iv (many:Int)),(10,pt bu 0),(11,iv (li:Int)),(12,iv (a0:Int)),(13,iv (b1:Int)),(106,.bool ((!(decide ((a0:Int) = (b1:Int)))) && (!false)))])) (by rw [show (usedB la a0 b1) = false from Bool.eq_false_iff.2 hus] <;> rfl) ?_
        have hmod := Nat.mod_le (nextV l3 15) (1 + nextV (l3.drop 1) 15)
        have hmod2 := nextV_lt l3 (n := 15) (by omega)
        have kf245 : ((!(decide ((a0:Int) = (b1:Int)))) && (!false)) = true := by rw [show (!(decide ((a0:Int) = (b1:Int)))) = true from kf243,show (!false) = true from rfl]; first | done | rfl
        refine sgz 8 [.exec] (kOp (cAt Y14 (ro1 10 [0,1,0,0])) [1,0,0,1,1,1,1,1,0,0] 5 KT) [(2,pt b0 0),(3,pt bq 0),(4,pt bp 0),(5,iv (kk:Int)),(6,iv (n:Int)),(9,iv (many:Int)),(10,pt bu 0),(11,iv (li:Int)),(12,iv (a0:Int)),(13,iv (b1:Int)),(111,pt bu (0 + (7 * a0 + b1) * 1))] [((!(decide ((a0:Int) = (b1:Int)))) && (!false)) = true,I64 ((7 * a0:Nat):Int),I64 ((7 * a0 + b1:Nat):Int),(0 ≤ ((7 * a0 + b1:Nat):Int) ∧ ((7 * a0 + b1:Nat):Int) < (49 : Int))] (AC kf245 (AC (i64 (by omega)) (AC (i64 (by omega)) (A1 (by omega))))) ?_
        refine os0 (.store 4 (pt bu (0 + (7 * a0 + b1) * 1)) (.bool true)) none (kOp (cAt Y14 (ro1 10 [0,1,0,0])) [1,0,0,1,1,1,1,1,0,0] 6 KT) ((runs_store (s := 1) (cs := (usedC la)) (by kernel_rfl) (hM3.blk 1 rfl) rfl (by rw [usedC_len]; omega) (by simp [Value.cells,Value.oneCell'])).mono (Ψ := fun _ w' => Chg wy w' bu (.cells (setAt (usedC la) (0 + (7 * a0 + b1) * 1) [.bool true]).toArray _ (0,0))) fun _ _ h => h) ?_
        rintro _ w_143 hC246
        have hE247 := hM3.toExt hE3 hC246 1 rfl
        have hM248 := hM3.set 1 rfl hC246
        obtain ⟨lk,hlk⟩ : ∃ x,(⟨(a0:Int),(b1:Int),((1 + nextV l3 15 % (1 + nextV (l3.drop 1) 15):Nat):Int)⟩ : PLink) = x := ⟨_,rfl⟩
        have hM_144 : Hold w_143 w.heap.size [.row (.slice lv la.length lc) 61 3 la.length (la.flatMap linkC),.blk bu (usedC (la ++ [lk])) 68,.row (.slice av acc.length cv) 52 2 acc.length (acc.flatMap nodeC),.blk bp ([iv pr,iv (cp:Int),iv 0,.slice av acc.length cv,.slice lv la.length lc,.slice none 0 0,.slice none 0 0]) 29,.blk bq ([.slice s3 l3.length e3]) 64,.blk b0 ([iv 0,iv 0,iv 0,.slice none 0 0,.slice none 0 0,.slice none 0 0,.slice none 0 0]) 29] := by subst hlk; rw [← used_set (n := n) habl.1 habl.2 (by omega)]; exact hM248
        refine sg0 1 (kAt (cAt Y14 (ro1 10 [0,1,0,0])) [1,0,0,1,1,1,1,1,0,1] KT) [(2,pt b0 0),(3,pt bq 0),(4,pt bp 0),(5,iv (kk:Int)),(6,iv (n:Int)),(9,iv (many:Int)),(10,pt bu 0),(11,iv (li:Int)),(12,iv (a0:Int)),(13,iv (b1:Int))] ?_
        refine dBegin (k' := (Fr.blk 3 :: (kAt (cAt Y14 (ro1 10 [0,1,0,0])) [1,1] KT))) (id := 31) (m := 16) (ops := opsAt (cAt (cAt Y14 (ro1 10 [0,1,0,0])) [1,0,0,1,1,1,1,1,0,1])) (fun _ _ => True) (by kernel_rfl) (PQ.body _ _ _) (by kernel_rfl) (by kernel_rfl) ?_
        intro w249 hx250
        have hE251 := hE247.trans hx250
        have hM252 := hM_144.ext hx250
        refine dtz [0,2,3,4,6] [] 11 (lb 16 93) [(2,pt b0 0),(3,pt bq 0),(4,pt bp 0),(5,iv (kk:Int)),(6,iv (n:Int)),(9,iv (many:Int)),(10,pt bu 0),(11,iv (li:Int)),(112,pt bp 4),(114,iv (a0:Int)),(115,iv (b1:Int)),(116,pt bq 0),(118,pt bq 0)] (fun w' => []) (fun w' hS => trivial) (trivial) ?_
        refine dAll 1 [5] (by kernel_rfl) ?_
        refine ⟨?_,?_⟩
        ·refine dos [] (.load 25 (pt bp 4)) (some 113) [] (lb 16 95) trivial (runs_load (v := .slice lv la.length lc) (ps := [cl w249 bp 4 (.slice lv la.length lc)]) (by kernel_rfl) (A1 (cell_of (hM252.blk 3 rfl) rfl))) ?_
         rintro _ _ ⟨rfl,rfl⟩
         refine ⟨trivial,?_⟩
         refine dAll 5 [] (by kernel_rfl) ?_
         refine dos [] (.call 30 [pt bq 0,iv 15]) (some 117) [] (lb 16 127) trivial (runs_call E30 (next_any w bq l3 s3 e3 15 w249 hE251 hc3 hs3 (by omega) hk3 (hM252.blk 4 rfl))) ?_
         rintro _ w_145 ⟨rfl,sa_146,sc_147,hC_148,hcs_149,hks_150⟩
         have hE253 := hM252.toExt hE251 hC_148 4 rfl
         have hM254 := hM252.set 4 rfl hC_148
         have hv_151 := nextV_lt l3 (n := 15) (by omega)
         refine ⟨trivial,?_⟩
         refine dAll 7 [] (by kernel_rfl) ?_
         refine dos [] (.call 30 [pt bq 0,iv 15]) (some 119) [] (lb 16 255) trivial (runs_call E30 (next_any w bq (l3.drop 1) sa_146 sc_147 15 w_145 hE253 hcs_149 (hs3.drop 1) (by omega) hks_150 (hM254.blk 4 rfl))) ?_
         rintro _ w_152 ⟨rfl,sa_153,sc_154,hC_155,hcs_156,hks_157⟩
         have hE255 := hM254.toExt hE253 hC_155 4 rfl
         have hM256 := hM254.set 4 rfl hC_155
         have hv_158 := nextV_lt (l3.drop 1) (n := 15) (by omega)
         refine ⟨trivial,?_⟩
         refine dtz [8,9,10,11] [] 4 (lb 16 4095) [(2,pt b0 0),(3,pt bq 0),(4,pt bp 0),(5,iv (kk:Int)),(6,iv (n:Int)),(9,iv (many:Int)),(10,pt bu 0),(11,iv (li:Int)),(113,.slice lv la.length lc),(123,.agg #[iv (a0:Int),iv (b1:Int),iv ((1 + ((nextV l3 15) % (1 + (nextV (l3.drop 1) 15))):Nat):Int)])] (fun w' => [I64 ((1 + (nextV (l3.drop 1) 15):Nat):Int),(0 ≤ ((nextV l3 15:Nat):Int) ∧ 0 < ((1 + (nextV (l3.drop 1) 15):Nat):Int)),I64 ((1 + ((nextV l3 15) % (1 + (nextV (l3.drop 1) 15))):Nat):Int)]) (fun w' hS => (AC (i64 (by omega)) (AC (by omega) (A1 (i64 (by omega)))))) (trivial) ?_
         refine dAll 12 [] (by kernel_rfl) ?_
         refine dos [] (.bslice 25 1 [(0,.agg #[iv (a0:Int),iv (b1:Int),iv ((1 + ((nextV l3 15) % (1 + (nextV (l3.drop 1) 15))):Nat):Int)])]) (some 124) [] (lb 16 8191) trivial (runs_bslice (cs := [iv (a0:Int),iv (b1:Int),iv ((1 + ((nextV l3 15) % (1 + (nextV (l3.drop 1) 15))):Nat):Int)]) (e := 61) (by kernel_rfl)) ?_
         rintro _ w_159 ⟨be,rfl,hN257⟩
         have hE258 := hE255.trans hN257.ext
         have hM259 := hM256.new hN257
         refine ⟨trivial,?_⟩
         refine dAll 13 [] (by kernel_rfl) ?_
         refine dos [] (.builtin .append #[25,25] 25 #[false,false] [.slice lv la.length lc,.slice (some ⟨be,0,none⟩) 1 1]) (some 125) [] (lb 16 16383) trivial (runs_appH (e := 61) (size := 3) (bytes := 24) (by kernel_rfl) (hM259.row 1 rfl) (m := 1) (news := [iv (a0:Int),iv (b1:Int),iv ((1 + ((nextV l3 15) % (1 + (nextV (l3.drop 1) 15))):Nat):Int)]) (hM259.blk 0 rfl) rfl (by simp [Value.oneCell']) (by omega) (by omega) hM259.base) ?_
         rintro vs260 w_160 ⟨hr261,hg262,ho263⟩
         have hr264 : w_160.ownsRow w.heap.size 61 3 vs260 ((la ++ [lk]).length) ((la ++ [lk]).flatMap linkC) := by subst hlk; simpa [linkC] using hr261
         have hE265 := hM259.toExtApp hE258 1 rfl hg262
         have hM266 := hM259.app 1 rfl hr264 hg262 ho263
         obtain ⟨lv2,lc2,hvsvs260⟩ := row_slice (hM266.row 1 rfl)
         subst hvsvs260
         refine ⟨trivial,?_⟩
         refine dtz [14] [] 1 (lb 16 32767) [(2,pt b0 0),(3,pt bq 0),(4,pt bp 0),(5,iv (kk:Int)),(6,iv (n:Int)),(9,iv (many:Int)),(10,pt bu 0),(11,iv (li:Int)),(125,.slice lv2 ((la ++ [lk]).length) lc2),(126,pt bp 4)] (fun w' => []) (fun w' hS => trivial) (trivial) ?_
         refine dAll 15 [] (by kernel_rfl) ?_
         refine dos [] (.store 25 (pt bp 4) (.slice lv2 ((la ++ [lk]).length) lc2)) none [] (lb 16 65535) trivial (runs_st (hM266.blk 4 rfl) (by kernel_rfl)) ?_
         rintro _ w_161 hC267
         have hE268 := hM266.toExt hE265 hC267 4 rfl
         have hM269 := hM266.set 4 rfl hC267
         refine ⟨trivial,?_⟩
         refine dDone (by kernel_rfl) ?_
         refine sgz 6 [] KT [(2,pt b0 0),(3,pt bq 0),(4,pt bp 0),(5,iv (kk:Int)),(6,iv (n:Int)),(9,iv (many:Int)),(10,pt bu 0),(11,iv ((li + 1:Nat):Int))] [I64 ((li + 1:Nat):Int)] (A1 (i64 (by omega))) ?_
         have hM270 := hM269.pickT 7 [1,2,3,4,5,6] (by kernel_rfl)
         rw [if_pos ⟨by omega,Bool.eq_false_iff.2 hus⟩,hlk] at hL
         have hok2 := netLink1_ok (n := n) (by omega) li ll hok
         rw [hL] at hok2
         subst hKT
         exact again ((la ++ [lk]),li + 1,(l3.drop 1).drop 1,sa_153,sc_154,lv2,lc2) [2,3,4,5,6,9,10,11] (by kernel_rfl) (⟨hE268,hM270,hcs_156,(hs3.drop 1).drop 1,hks_157,by show li + 1 ≤ many; omega,netLinks_step hR2 hL,hok2,by show (la ++ [lk]).length ≤ li + 1; rw [List.length_append]; show la.length + 1 ≤ _; omega⟩) (show many - (li + 1) < many - li by omega)
        refine dos [] (.call 30 [pt bq 0,iv 15]) (some 117) [] (lb 16 125) trivial (runs_call E30 (next_any w bq l3 s3 e3 15 w249 hE251 hc3 hs3 (by omega) hk3 (hM252.blk 4 rfl))) ?_
        rintro _ w_162 ⟨rfl,sa_163,sc_164,hC_165,hcs_166,hks_167⟩
        have hE271 := hM252.toExt hE251 hC_165 4 rfl
        have hM272 := hM252.set 4 rfl hC_165
        have hv_168 := nextV_lt l3 (n := 15) (by omega)
        refine ⟨trivial,?_⟩
        refine dAll 1 [7] (by kernel_rfl) ?_
        refine ⟨?_,?_⟩
        ·refine dos [] (.load 25 (pt bp 4)) (some 113) [] (lb 16 127) trivial (runs_load (v := .slice lv la.length lc) (ps := [cl w_162 bp 4 (.slice lv la.length lc)]) (by kernel_rfl) (A1 (cell_of (hM272.blk 3 rfl) rfl))) ?_
         rintro _ _ ⟨rfl,rfl⟩
         refine ⟨trivial,?_⟩
         refine dAll 7 [] (by kernel_rfl) ?_
         refine dos [] (.call 30 [pt bq 0,iv 15]) (some 119) [] (lb 16 255) trivial (runs_call E30 (next_any w bq (l3.drop 1) sa_163 sc_164 15 w_162 hE271 hcs_166 (hs3.drop 1) (by omega) hks_167 (hM272.blk 4 rfl))) ?_
         rintro _ w_169 ⟨rfl,sa_170,sc_171,hC_172,hcs_173,hks_174⟩
         have hE273 := hM272.toExt hE271 hC_172 4 rfl
         have hM274 := hM272.set 4 rfl hC_172
         have hv_175 := nextV_lt (l3.drop 1) (n := 15) (by omega)
         refine ⟨trivial,?_⟩
         refine dtz [8,9,10,11] [] 4 (lb 16 4095) [(2,pt b0 0),(3,pt bq 0),(4,pt bp 0),(5,iv (kk:Int)),(6,iv (n:Int)),(9,iv (many:Int)),(10,pt bu 0),(11,iv (li:Int)),(113,.slice lv la.length lc),(123,.agg #[iv (a0:Int),iv (b1:Int),iv ((1 + ((nextV l3 15) % (1 + (nextV (l3.drop 1) 15))):Nat):Int)])] (fun w' => [I64 ((1 + (nextV (l3.drop 1) 15):Nat):Int),(0 ≤ ((nextV l3 15:Nat):Int) ∧ 0 < ((1 + (nextV (l3.drop 1) 15):Nat):Int)),I64 ((1 + ((nextV l3 15) % (1 + (nextV (l3.drop 1) 15))):Nat):Int)]) (fun w' hS => (AC (i64 (by omega)) (AC (by omega) (A1 (i64 (by omega)))))) (trivial) ?_
         refine dAll 12 [] (by kernel_rfl) ?_
         refine dos [] (.bslice 25 1 [(0,.agg #[iv (a0:Int),iv (b1:Int),iv ((1 + ((nextV l3 15) % (1 + (nextV (l3.drop 1) 15))):Nat):Int)])]) (some 124) [] (lb 16 8191) trivial (runs_bslice (cs := [iv (a0:Int),iv (b1:Int),iv ((1 + ((nextV l3 15) % (1 + (nextV (l3.drop 1) 15))):Nat):Int)]) (e := 61) (by kernel_rfl)) ?_
         rintro _ w_176 ⟨be,rfl,hN275⟩
         have hE276 := hE273.trans hN275.ext
         have hM277 := hM274.new hN275
         refine ⟨trivial,?_⟩
         refine dAll 13 [] (by kernel_rfl) ?_
         refine dos [] (.builtin .append #[25,25] 25 #[false,false] [.slice lv la.length lc,.slice (some ⟨be,0,none⟩) 1 1]) (some 125) [] (lb 16 16383) trivial (runs_appH (e := 61) (size := 3) (bytes := 24) (by kernel_rfl) (hM277.row 1 rfl) (m := 1) (news := [iv (a0:Int),iv (b1:Int),iv ((1 + ((nextV l3 15) % (1 + (nextV (l3.drop 1) 15))):Nat):Int)]) (hM277.blk 0 rfl) rfl (by simp [Value.oneCell']) (by omega) (by omega) hM277.base) ?_
         rintro vs278 w_177 ⟨hr279,hg280,ho281⟩
         have hr282 : w_177.ownsRow w.heap.size 61 3 vs278 ((la ++ [lk]).length) ((la ++ [lk]).flatMap linkC) := by subst hlk; simpa [linkC] using hr279
         have hE283 := hM277.toExtApp hE276 1 rfl hg280
         have hM284 := hM277.app 1 rfl hr282 hg280 ho281
         obtain ⟨lv2,lc2,hvsvs278⟩ := row_slice (hM284.row 1 rfl)
         subst hvsvs278
         refine ⟨trivial,?_⟩
         refine dtz [14] [] 1 (lb 16 32767) [(2,pt b0 0),(3,pt bq 0),(4,pt bp 0),(5,iv (kk:Int)),(6,iv (n:Int)),(9,iv (many:Int)),(10,pt bu 0),(11,iv (li:Int)),(125,.slice lv2 ((la ++ [lk]).length) lc2),(126,pt bp 4)] (fun w' => []) (fun w' hS => trivial) (trivial) ?_
         refine dAll 15 [] (by kernel_rfl) ?_
         refine dos [] (.store 25 (pt bp 4) (.slice lv2 ((la ++ [lk]).length) lc2)) none [] (lb 16 65535) trivial (runs_st (hM284.blk 4 rfl) (by kernel_rfl)) ?_
         rintro _ w_178 hC285
         have hE286 := hM284.toExt hE283 hC285 4 rfl
         have hM287 := hM284.set 4 rfl hC285
         refine ⟨trivial,?_⟩
         refine dDone (by kernel_rfl) ?_
         refine sgz 6 [] KT [(2,pt b0 0),(3,pt bq 0),(4,pt bp 0),(5,iv (kk:Int)),(6,iv (n:Int)),(9,iv (many:Int)),(10,pt bu 0),(11,iv ((li + 1:Nat):Int))] [I64 ((li + 1:Nat):Int)] (A1 (i64 (by omega))) ?_
         have hM288 := hM287.pickT 7 [1,2,3,4,5,6] (by kernel_rfl)
         rw [if_pos ⟨by omega,Bool.eq_false_iff.2 hus⟩,hlk] at hL
         have hok2 := netLink1_ok (n := n) (by omega) li ll hok
         rw [hL] at hok2
         subst hKT
         exact again ((la ++ [lk]),li + 1,(l3.drop 1).drop 1,sa_170,sc_171,lv2,lc2) [2,3,4,5,6,9,10,11] (by kernel_rfl) (⟨hE286,hM288,hcs_173,(hs3.drop 1).drop 1,hks_174,by show li + 1 ≤ many; omega,netLinks_step hR2 hL,hok2,by show (la ++ [lk]).length ≤ li + 1; rw [List.length_append]; show la.length + 1 ≤ _; omega⟩) (show many - (li + 1) < many - li by omega)
        refine dos [] (.call 30 [pt bq 0,iv 15]) (some 119) [] (lb 16 253) trivial (runs_call E30 (next_any w bq (l3.drop 1) sa_163 sc_164 15 w_162 hE271 hcs_166 (hs3.drop 1) (by omega) hks_167 (hM272.blk 4 rfl))) ?_
        rintro _ w_179 ⟨rfl,sa_180,sc_181,hC_182,hcs_183,hks_184⟩
        have hE289 := hM272.toExt hE271 hC_182 4 rfl
        have hM290 := hM272.set 4 rfl hC_182
        have hv_185 := nextV_lt (l3.drop 1) (n := 15) (by omega)
        refine ⟨trivial,?_⟩
        refine dtz [8,9,10,11] [] 5 (lb 16 4093) [(2,pt b0 0),(3,pt bq 0),(4,pt bp 0),(5,iv (kk:Int)),(6,iv (n:Int)),(9,iv (many:Int)),(10,pt bu 0),(11,iv (li:Int)),(112,pt bp 4),(123,.agg #[iv (a0:Int),iv (b1:Int),iv ((1 + ((nextV l3 15) % (1 + (nextV (l3.drop 1) 15))):Nat):Int)])] (fun w' => [I64 ((1 + (nextV (l3.drop 1) 15):Nat):Int),(0 ≤ ((nextV l3 15:Nat):Int) ∧ 0 < ((1 + (nextV (l3.drop 1) 15):Nat):Int)),I64 ((1 + ((nextV l3 15) % (1 + (nextV (l3.drop 1) 15))):Nat):Int)]) (fun w' hS => (AC (i64 (by omega)) (AC (by omega) (A1 (i64 (by omega)))))) (trivial) ?_
        refine dAll 1 [12] (by kernel_rfl) ?_
        refine ⟨?_,?_⟩
        ·refine dos [] (.load 25 (pt bp 4)) (some 113) [] (lb 16 4095) trivial (runs_load (v := .slice lv la.length lc) (ps := [cl w_179 bp 4 (.slice lv la.length lc)]) (by kernel_rfl) (A1 (cell_of (hM290.blk 3 rfl) rfl))) ?_
         rintro _ _ ⟨rfl,rfl⟩
         refine ⟨trivial,?_⟩
         refine dAll 12 [] (by kernel_rfl) ?_
         refine dos [] (.bslice 25 1 [(0,.agg #[iv (a0:Int),iv (b1:Int),iv ((1 + ((nextV l3 15) % (1 + (nextV (l3.drop 1) 15))):Nat):Int)])]) (some 124) [] (lb 16 8191) trivial (runs_bslice (cs := [iv (a0:Int),iv (b1:Int),iv ((1 + ((nextV l3 15) % (1 + (nextV (l3.drop 1) 15))):Nat):Int)]) (e := 61) (by kernel_rfl)) ?_
         rintro _ w_186 ⟨be,rfl,hN291⟩
         have hE292 := hE289.trans hN291.ext
         have hM293 := hM290.new hN291
         refine ⟨trivial,?_⟩
         refine dAll 13 [] (by kernel_rfl) ?_
         refine dos [] (.builtin .append #[25,25] 25 #[false,false] [.slice lv la.length lc,.slice (some ⟨be,0,none⟩) 1 1]) (some 125) [] (lb 16 16383) trivial (runs_appH (e := 61) (size := 3) (bytes := 24) (by kernel_rfl) (hM293.row 1 rfl) (m := 1) (news := [iv (a0:Int),iv (b1:Int),iv ((1 + ((nextV l3 15) % (1 + (nextV (l3.drop 1) 15))):Nat):Int)]) (hM293.blk 0 rfl) rfl (by simp [Value.oneCell']) (by omega) (by omega) hM293.base) ?_
         rintro vs294 w_187 ⟨hr295,hg296,ho297⟩
         have hr298 : w_187.ownsRow w.heap.size 61 3 vs294 ((la ++ [lk]).length) ((la ++ [lk]).flatMap linkC) := by subst hlk; simpa [linkC] using hr295
         have hE299 := hM293.toExtApp hE292 1 rfl hg296
         have hM300 := hM293.app 1 rfl hr298 hg296 ho297
         obtain ⟨lv2,lc2,hvsvs294⟩ := row_slice (hM300.row 1 rfl)
         subst hvsvs294
         refine ⟨trivial,?_⟩
         refine dtz [14] [] 1 (lb 16 32767) [(2,pt b0 0),(3,pt bq 0),(4,pt bp 0),(5,iv (kk:Int)),(6,iv (n:Int)),(9,iv (many:Int)),(10,pt bu 0),(11,iv (li:Int)),(125,.slice lv2 ((la ++ [lk]).length) lc2),(126,pt bp 4)] (fun w' => []) (fun w' hS => trivial) (trivial) ?_
         refine dAll 15 [] (by kernel_rfl) ?_
         refine dos [] (.store 25 (pt bp 4) (.slice lv2 ((la ++ [lk]).length) lc2)) none [] (lb 16 65535) trivial (runs_st (hM300.blk 4 rfl) (by kernel_rfl)) ?_
         rintro _ w_188 hC301
         have hE302 := hM300.toExt hE299 hC301 4 rfl
         have hM303 := hM300.set 4 rfl hC301
         refine ⟨trivial,?_⟩
         refine dDone (by kernel_rfl) ?_
         refine sgz 6 [] KT [(2,pt b0 0),(3,pt bq 0),(4,pt bp 0),(5,iv (kk:Int)),(6,iv (n:Int)),(9,iv (many:Int)),(10,pt bu 0),(11,iv ((li + 1:Nat):Int))] [I64 ((li + 1:Nat):Int)] (A1 (i64 (by omega))) ?_
         have hM304 := hM303.pickT 7 [1,2,3,4,5,6] (by kernel_rfl)
         rw [if_pos ⟨by omega,Bool.eq_false_iff.2 hus⟩,hlk] at hL
         have hok2 := netLink1_ok (n := n) (by omega) li ll hok
         rw [hL] at hok2
         subst hKT
         exact again ((la ++ [lk]),li + 1,(l3.drop 1).drop 1,sa_180,sc_181,lv2,lc2) [2,3,4,5,6,9,10,11] (by kernel_rfl) (⟨hE302,hM304,hcs_183,(hs3.drop 1).drop 1,hks_184,by show li + 1 ≤ many; omega,netLinks_step hR2 hL,hok2,by show (la ++ [lk]).length ≤ li + 1; rw [List.length_append]; show la.length + 1 ≤ _; omega⟩) (show many - (li + 1) < many - li by omega)
        refine dos [] (.bslice 25 1 [(0,.agg #[iv (a0:Int),iv (b1:Int),iv ((1 + ((nextV l3 15) % (1 + (nextV (l3.drop 1) 15))):Nat):Int)])]) (some 124) [] (lb 16 8189) trivial (runs_bslice (cs := [iv (a0:Int),iv (b1:Int),iv ((1 + ((nextV l3 15) % (1 + (nextV (l3.drop 1) 15))):Nat):Int)]) (e := 61) (by kernel_rfl)) ?_
        rintro _ w_189 ⟨be,rfl,hN305⟩
        have hE306 := hE289.trans hN305.ext
        have hM307 := hM290.new hN305
        refine ⟨trivial,?_⟩
        refine dAll 1 [] (by kernel_rfl) ?_
        refine dos [] (.load 25 (pt bp 4)) (some 113) [] (lb 16 8191) trivial (runs_load (v := .slice lv la.length lc) (ps := [cl w_189 bp 4 (.slice lv la.length lc)]) (by kernel_rfl) (A1 (cell_of (hM307.blk 4 rfl) rfl))) ?_
        rintro _ _ ⟨rfl,rfl⟩
        refine ⟨trivial,?_⟩
        refine dAll 13 [] (by kernel_rfl) ?_
        refine dos [] (.builtin .append #[25,25] 25 #[false,false] [.slice lv la.length lc,.slice (some ⟨be,0,none⟩) 1 1]) (some 125) [] (lb 16 16383) trivial (runs_appH (e := 61) (size := 3) (bytes := 24) (by kernel_rfl) (hM307.row 1 rfl) (m := 1) (news := [iv (a0:Int),iv (b1:Int),iv ((1 + ((nextV l3 15) % (1 + (nextV (l3.drop 1) 15))):Nat):Int)]) (hM307.blk 0 rfl) rfl (by simp [Value.oneCell']) (by omega) (by omega) hM307.base) ?_
        rintro vs308 w_190 ⟨hr309,hg310,ho311⟩
        have hr312 : w_190.ownsRow w.heap.size 61 3 vs308 ((la ++ [lk]).length) ((la ++ [lk]).flatMap linkC) := by subst hlk; simpa [linkC] using hr309
        have hE313 := hM307.toExtApp hE306 1 rfl hg310
        have hM314 := hM307.app 1 rfl hr312 hg310 ho311
        obtain ⟨lv2,lc2,hvsvs308⟩ := row_slice (hM314.row 1 rfl)
        subst hvsvs308
        refine ⟨trivial,?_⟩
        refine dtz [14] [] 1 (lb 16 32767) [(2,pt b0 0),(3,pt bq 0),(4,pt bp 0),(5,iv (kk:Int)),(6,iv (n:Int)),(9,iv (many:Int)),(10,pt bu 0),(11,iv (li:Int)),(125,.slice lv2 ((la ++ [lk]).length) lc2),(126,pt bp 4)] (fun w' => []) (fun w' hS => trivial) (trivial) ?_
        refine dAll 15 [] (by kernel_rfl) ?_
        refine dos [] (.store 25 (pt bp 4) (.slice lv2 ((la ++ [lk]).length) lc2)) none [] (lb 16 65535) trivial (runs_st (hM314.blk 4 rfl) (by kernel_rfl)) ?_
        rintro _ w_191 hC315
        have hE316 := hM314.toExt hE313 hC315 4 rfl
        have hM317 := hM314.set 4 rfl hC315
        refine ⟨trivial,?_⟩
        refine dDone (by kernel_rfl) ?_
        refine sgz 6 [] KT [(2,pt b0 0),(3,pt bq 0),(4,pt bp 0),(5,iv (kk:Int)),(6,iv (n:Int)),(9,iv (many:Int)),(10,pt bu 0),(11,iv ((li + 1:Nat):Int))] [I64 ((li + 1:Nat):Int)] (A1 (i64 (by omega))) ?_
        have hM318 := hM317.pickT 7 [1,2,3,4,5,6] (by kernel_rfl)
        rw [if_pos ⟨by omega,Bool.eq_false_iff.2 hus⟩,hlk] at hL
        have hok2 := netLink1_ok (n := n) (by omega) li ll hok
        rw [hL] at hok2
        subst hKT
        exact again ((la ++ [lk]),li + 1,(l3.drop 1).drop 1,sa_180,sc_181,lv2,lc2) [2,3,4,5,6,9,10,11] (by kernel_rfl) (⟨hE316,hM318,hcs_183,(hs3.drop 1).drop 1,hks_184,by show li + 1 ≤ many; omega,netLinks_step hR2 hL,hok2,by show (la ++ [lk]).length ≤ li + 1; rw [List.length_append]; show la.length + 1 ≤ _; omega⟩) (show many - (li + 1) < many - li by omega)
      refine sgs 22 [.sym] [2,3,4,5,6,9,10,11,12,13,79,80] (kOp (cAt Y14 (ro1 10 [0,1,0,0])) [1,0,0,1,1,0,0] 5 KT) [(2,none,pt b0 0),(3,none,pt bq 0),(4,none,pt bp 0),(5,none,iv (kk:Int)),(6,none,iv (n:Int)),(9,none,iv (many:Int)),(10,none,pt bu 0),(11,none,iv (li:Int)),(12,none,iv (li:Int)),(13,none,iv ((li + 1:Nat):Int)),(79,none,.bool (decide ((n:Int) ≤ ((li + 1:Nat):Int)))),(80,some (!(decide ((n:Int) ≤ ((li + 1:Nat):Int)))),pt bq 0)] [I64 ((li + 1:Nat):Int)] (A1 (i64 (by omega))) ?_
      by_cases hq : (n:Int) ≤ ((li + 1:Nat):Int)
      ·refine sgz 9 [.skip,.skip,.exec] (kOp (cAt Y14 (ro1 10 [0,1,0,0])) [1,0,0,1,1,0,1,0,0] 2 KT) [(2,pt b0 0),(3,pt bq 0),(4,pt bp 0),(5,iv (kk:Int)),(6,iv (n:Int)),(9,iv (many:Int)),(10,pt bu 0),(11,iv (li:Int)),(12,iv (li:Int)),(13,iv ((li + 1:Nat):Int)),(84,pt bq 0),(85,iv (n:Int))] ((fun (z1 : Bool) => ([z1 = (!false),z1 = (!false),z1 = true,true = true] : List Prop)) (decide ((n:Int) ≤ ((li + 1:Nat):Int)))) (AC (decide_eq_true hq) (AC (decide_eq_true hq) (AC (decide_eq_true hq) (A1 rfl)))) ?_
       refine os0 _ (some 86) (kOp (cAt Y14 (ro1 10 [0,1,0,0])) [1,0,0,1,1,0,1,0,0] 3 KT) (runs_call E30 (next_any w bq ll ls le n wj hE2 hc2 hs2 (by omega) hk2 (hM2.blk 4 rfl))) ?_
       rintro _ w_192 ⟨rfl,sa_193,sc_194,hC_195,hcs_196,hks_197⟩
       have hE319 := hM2.toExt hE2 hC_195 4 rfl
       have hM320 := hM2.set 4 rfl hC_195
       have hv_198 := nextV_lt ll (n := n) (by omega)
       refine sg0 5 (kOp (cAt Y14 (ro1 10 [0,1,0,0])) [1,0,0,1,1,0,1,0,1] 2 KT) [(2,pt b0 0),(3,pt bq 0),(4,pt bp 0),(5,iv (kk:Int)),(6,iv (n:Int)),(9,iv (many:Int)),(10,pt bu 0),(11,iv (li:Int)),(12,iv ((nextV ll n:Nat):Int)),(13,iv ((li + 1:Nat):Int)),(87,pt bq 0),(88,iv (n:Int))] ?_
       refine os0 _ (some 89) (kOp (cAt Y14 (ro1 10 [0,1,0,0])) [1,0,0,1,1,0,1,0,1] 3 KT) (runs_call E30 (next_any w bq (ll.drop 1) sa_193 sc_194 n w_192 hE319 hcs_196 (hs2.drop 1) (by omega) hks_197 (hM320.blk 4 rfl))) ?_
       rintro _ w_199 ⟨rfl,sa_200,sc_201,hC_202,hcs_203,hks_204⟩
       have hE321 := hM320.toExt hE319 hC_202 4 rfl
       have hM322 := hM320.set 4 rfl hC_202
       have hv_205 := nextV_lt (ll.drop 1) (n := n) (by omega)
       refine sg0 2 (kAt (cAt Y14 (ro1 10 [0,1,0,0])) [1,0,0,1,1,1] KT) [(2,pt b0 0),(3,pt bq 0),(4,pt bp 0),(5,iv (kk:Int)),(6,iv (n:Int)),(9,iv (many:Int)),(10,pt bu 0),(11,iv (li:Int)),(12,iv ((nextV ll n:Nat):Int)),(13,iv ((nextV (ll.drop 1) n:Nat):Int))] ?_
       exact rest3 w_199 (nextV ll n) (nextV (ll.drop 1) n) ((ll.drop 1).drop 1) sa_200 sc_201 (by unfold linkPair; rw [if_pos (by omega)]) hE321 hM322 hcs_203 ((hs2.drop 1).drop 1) hks_204
      refine oss [.exec] (.call 30 [pt bq 0,iv 4]) (some 81) (kOp (cAt Y14 (ro1 10 [0,1,0,0])) [1,0,0,1,1,0,0] 6 KT) [(decide ((n:Int) ≤ ((li + 1:Nat):Int))) = false,(!(decide ((n:Int) ≤ ((li + 1:Nat):Int)))) = true] (AC (decide_eq_false hq) (A1 (by simp_all))) (runs_call E30 (next_any w bq ll ls le 4 wj hE2 hc2 hs2 (by omega) hk2 (hM2.blk 4 rfl))) ?_
      rintro _ w_206 ⟨rfl,sa_207,sc_208,hC_209,hcs_210,hks_211⟩
      have hE323 := hM2.toExt hE2 hC_209 4 rfl
      have hM324 := hM2.set 4 rfl hC_209
      have hv_212 := nextV_lt ll (n := 4) (by omega)
      refine sgz 3 [.exec] (kAt (cAt Y14 (ro1 10 [0,1,0,0])) [1,0,0,1,1,0,1] KT) [(2,pt b0 0),(3,pt bq 0),(4,pt bp 0),(5,iv (kk:Int)),(6,iv (n:Int)),(9,iv (many:Int)),(10,pt bu 0),(11,iv (li:Int)),(12,iv (li:Int)),(13,iv ((li + 1:Nat):Int)),(83,.bool ((decide ((n:Int) ≤ ((li + 1:Nat):Int))) || (decide (((nextV ll 4:Nat):Int) = (0 : Int)))))] [(decide ((n:Int) ≤ ((li + 1:Nat):Int))) = false] (A1 (decide_eq_false hq)) ?_
      refine brk _ (((n:Int) ≤ ((li + 1:Nat):Int)) ∨ (((nextV ll 4:Nat):Int) = (0 : Int))) ((iffOr iffDec iffDec)) (fun hz => ?_) (fun hz => ?_)
      ·refine sg0 4 (kOp (cAt Y14 (ro1 10 [0,1,0,0])) [1,0,0,1,1,0,1,0,0] 2 KT) [(2,pt b0 0),(3,pt bq 0),(4,pt bp 0),(5,iv (kk:Int)),(6,iv (n:Int)),(9,iv (many:Int)),(10,pt bu 0),(11,iv (li:Int)),(12,iv (li:Int)),(13,iv ((li + 1:Nat):Int)),(84,pt bq 0),(85,iv (n:Int))] ?_
       refine os0 _ (some 86) (kOp (cAt Y14 (ro1 10 [0,1,0,0])) [1,0,0,1,1,0,1,0,0] 3 KT) (runs_call E30 (next_any w bq (ll.drop 1) sa_207 sc_208 n w_206 hE323 hcs_210 (hs2.drop 1) (by omega) hks_211 (hM324.blk 4 rfl))) ?_
       rintro _ w_213 ⟨rfl,sa_214,sc_215,hC_216,hcs_217,hks_218⟩
       have hE325 := hM324.toExt hE323 hC_216 4 rfl
       have hM326 := hM324.set 4 rfl hC_216
       have hv_219 := nextV_lt (ll.drop 1) (n := n) (by omega)
       refine sg0 5 (kOp (cAt Y14 (ro1 10 [0,1,0,0])) [1,0,0,1,1,0,1,0,1] 2 KT) [(2,pt b0 0),(3,pt bq 0),(4,pt bp 0),(5,iv (kk:Int)),(6,iv (n:Int)),(9,iv (many:Int)),(10,pt bu 0),(11,iv (li:Int)),(12,iv ((nextV (ll.drop 1) n:Nat):Int)),(13,iv ((li + 1:Nat):Int)),(87,pt bq 0),(88,iv (n:Int))] ?_
       refine os0 _ (some 89) (kOp (cAt Y14 (ro1 10 [0,1,0,0])) [1,0,0,1,1,0,1,0,1] 3 KT) (runs_call E30 (next_any w bq ((ll.drop 1).drop 1) sa_214 sc_215 n w_213 hE325 hcs_217 ((hs2.drop 1).drop 1) (by omega) hks_218 (hM326.blk 4 rfl))) ?_
       rintro _ w_220 ⟨rfl,sa_221,sc_222,hC_223,hcs_224,hks_225⟩
       have hE327 := hM326.toExt hE325 hC_223 4 rfl
       have hM328 := hM326.set 4 rfl hC_223
       have hv_226 := nextV_lt ((ll.drop 1).drop 1) (n := n) (by omega)
       refine sg0 2 (kAt (cAt Y14 (ro1 10 [0,1,0,0])) [1,0,0,1,1,1] KT) [(2,pt b0 0),(3,pt bq 0),(4,pt bp 0),(5,iv (kk:Int)),(6,iv (n:Int)),(9,iv (many:Int)),(10,pt bu 0),(11,iv (li:Int)),(12,iv ((nextV (ll.drop 1) n:Nat):Int)),(13,iv ((nextV ((ll.drop 1).drop 1) n:Nat):Int))] ?_
       exact rest3 w_220 (nextV (ll.drop 1) n) (nextV ((ll.drop 1).drop 1) n) (((ll.drop 1).drop 1).drop 1) sa_221 sc_222 (by unfold linkPair; rw [if_neg (by omega),if_pos (by omega)]) hE327 hM328 hcs_224 (((hs2.drop 1).drop 1).drop 1) hks_225
      refine sg0 1 (kAt (cAt Y14 (ro1 10 [0,1,0,0])) [1,0,0,1,1,1] KT) [(2,pt b0 0),(3,pt bq 0),(4,pt bp 0),(5,iv (kk:Int)),(6,iv (n:Int)),(9,iv (many:Int)),(10,pt bu 0),(11,iv (li:Int)),(12,iv (li:Int)),(13,iv ((li + 1:Nat):Int))] ?_
      exact rest3 w_206 li (li + 1) (ll.drop 1) sa_207 sc_208 (by unfold linkPair; rw [if_neg (by omega),if_neg (by omega)]) hE323 hM324 hcs_210 (hs2.drop 1) hks_211
     have hle2 : li = many := by omega
     rw [hle2,Nat.sub_self] at hR2
     have hB2 : netB raw = (la,ll) := by rw [hBeq,← hR2]; rfl
     have hM329 := hM2.pickT 6 [0,2,3,4,5] (by kernel_rfl)
     refine sg0 1 (kAt Y14 (ro1 11 []) []) [(2,pt b0 0),(3,pt bq 0),(4,pt bp 0),(5,iv (kk:Int)),(6,iv (n:Int))] ?_
     exact net_tail raw w wj b0 bq bp n kk pr cp acc av cv la lv lc ll ls le hE2 hM329 hc2 hs2 hk2 hn hpr hcp (by rw [hl2]; exact hkk) (by rw [hA2]) hB2 hlen
   refine brd (((nextV l0 2:Nat):Int) = (1 : Int)) (fun h1 => ?_) (fun h1 => ?_)
   ·refine sg0 3 (kOp Y14 (ro1 4 [0,1,0,0]) 1 []) [(2,pt b0 0),(3,pt bq 0),(4,pt bp 0),(31,pt bp 0)] ?_
    refine os0 (.store 3 (pt bp 0) (iv 2)) none (kOp Y14 (ro1 4 [0,1,0,0]) 2 []) (runs_st (hM16.blk 0 rfl) (by kernel_rfl)) ?_
    rintro _ w4 hC727
    have hE728 := hM16.toExt hE15 hC727 0 rfl
    have hM729 := hM16.set 0 rfl hC727
    refine sg0 3 (kOp Y14 (ro1 4 [0,1,0,1]) 1 []) [(2,pt b0 0),(3,pt bq 0),(4,pt bp 0),(32,pt bq 0)] ?_
    refine os0 _ (some 33) (kOp Y14 (ro1 4 [0,1,0,1]) 2 []) (runs_call E30 (next_any w bq (l0.drop 1) sa_2 sc_3 6 w4 hE728 hcs_5 (hs0.drop 1) (by omega) hks_6 (hM729.blk 1 rfl))) ?_
    rintro _ w_561 ⟨rfl,sa_562,sc_563,hC_564,hcs_565,hks_566⟩
    have hE730 := hM729.toExt hE728 hC_564 1 rfl
    have hM731 := hM729.set 1 rfl hC_564
    have hv_567 := nextV_lt (l0.drop 1) (n := 6) (by omega)
    refine sgz 2 [] (kOp Y14 (ro1 4 [0,1,0,1]) 4 []) [(2,pt b0 0),(3,pt bq 0),(4,pt bp 0),(34,iv ((1 + (nextV (l0.drop 1) 6):Nat):Int)),(35,pt bp 1)] [I64 ((1 + (nextV (l0.drop 1) 6):Nat):Int)] (A1 (i64 (by omega))) ?_
    refine os0 (.store 3 (pt bp 1) (iv ((1 + (nextV (l0.drop 1) 6):Nat):Int))) none (kOp Y14 (ro1 4 [0,1,0,1]) 5 []) (runs_st (hM731.blk 0 rfl) (by kernel_rfl)) ?_
    rintro _ w5 hC732
    have hE733 := hM731.toExt hE730 hC732 0 rfl
    have hM734 := hM731.set 0 rfl hC732
    refine sg0 1 (kAt Y14 (ro1 5 []) []) [(2,pt b0 0),(3,pt bq 0),(4,pt bp 0)] ?_
    have hpath : netPath raw = true := by unfold netPath; rw [hl0]; exact decide_eq_true (by omega)
    exact rest2 w5 2 (1 + nextV (l0.drop 1) 6) ((l0.drop 1).drop 1) sa_562 sc_563 hE733 hM734 hcs_565 ((hs0.drop 1).drop 1) hks_566 (by rw [hpath]; rfl) (by unfold netCap; rw [hpath,hl0]; rfl) (by unfold netSrc2; rw [hpath,hl0]; rfl)
   refine sg0 1 (kAt Y14 (ro1 5 []) []) [(2,pt b0 0),(3,pt bq 0),(4,pt bp 0)] ?_
   have hpath : netPath raw = false := by unfold netPath; rw [hl0]; exact decide_eq_false (by omega)
   exact rest2 w_1 1 0 (l0.drop 1) sa_2 sc_3 hE15 hM16 hcs_5 (hs0.drop 1) hks_6 (by rw [hpath]; rfl) (by unfold netCap; rw [hpath,hl0]; rfl) (by unfold netSrc2; rw [hpath,hl0]; rfl)
 refine brd ((200 : Int) < (raw.length:Int)) (fun h0 => ?_) (fun h0 => ?_)
 ·refine sg0 2 (kOp Y14 [1,0,1,0] 1 []) [(0,.slice a raw.length c),(2,pt b0 0),(22,.slice a raw.length c)] ?_
  refine os0 (.slc 22 (.slice a raw.length c) none (some (iv 200)) none) (some 23) (kOp Y14 [1,0,1,0] 2 []) (runs_slc_hi (l := 200) intCells_len Tryz.underlying22 (by kernel_rfl) hc (by omega) hcap) ?_
  rintro _ _ ⟨rfl,rfl,hc2⟩
  refine sg0 2 (kAt Y14 [1,1] []) [(0,.slice a ((raw.take 200).length) c),(2,pt b0 0)] ?_
  exact rest (raw.take 200) rfl hc2 (hs.take 200) (by rw [List.length_take]; omega)
 refine sg0 1 (kAt Y14 [1,1] []) [(0,.slice a raw.length c),(2,pt b0 0)] ?_
 exact rest raw (List.take_of_length_le (by omega)) hc hs hcap

end Go.Proofs.YtjhgghpeapmgdaaGreatDoor
