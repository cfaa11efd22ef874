/-
  PLAN: the contract of the statements' Net.
-/
import Derived.Test.YtcbclephakfemaaGreatRRRDoorPlanK2
import Derived.Test.YtcbclephakfemaaGreatRRRDoorLz
import Derived.Test.YtcbclephakfemaaGreatRRRDoorFns
namespace Go.Proofs.YtcbclephakfemaaGreatRRRDoor
open Go.Bk Go.Proofs

def netL1 (w : World) (b0 bq bp n kk : Nat) (pr : Int) (cp : Nat) (A : List PNode × List Int) : Lp (List PNode × List Int × Option Addr × Nat × Option Addr × Nat) where
  S := fun x => [(2,none,pt b0 0),(3,none,pt bq 0),(4,none,pt bp 0),(5,none,iv (kk:Int)),(6,none,iv (n:Int)),(7,none,iv (x.1.length:Int))]
  J := fun x w' => Ext w w' ∧ Hold w' w.heap.size [.row (.slice x.2.2.2.2.1 x.1.length x.2.2.2.2.2) 41 2 x.1.length (x.1.flatMap nodeC),.blk bp ([iv pr,iv (cp:Int),iv 0,.slice x.2.2.2.2.1 x.1.length x.2.2.2.2.2,.slice none 0 0,.slice none 0 0,.slice none 0 0]) 29,.blk bq ([.slice x.2.2.1 x.2.1.length x.2.2.2.1]) 46,.blk b0 ([iv 0,iv 0,iv 0,.slice none 0 0,.slice none 0 0,.slice none 0 0,.slice none 0 0]) 29] ∧ Cells w x.2.2.1 (x.2.1.flatMap intCells) ∧ Small x.2.1 ∧ x.2.1.length ≤ x.2.2.2.1 ∧ x.1.length ≤ n ∧ (x.1 ++ (netNodes (n - x.1.length) x.1.length x.2.1).1,(netNodes (n - x.1.length) x.1.length x.2.1).2) = A
  M := fun x => n - x.1.length
def netL2 (w : World) (b0 bq bp bu n kk many : Nat) (pr : Int) (cp : Nat) (acc : List PNode) (av : Option Addr) (cv : Nat) (R : List PLink × List Int) : Lp (List PLink × Nat × List Int × Option Addr × Nat × Option Addr × Nat) where
  S := fun x => [(2,none,pt b0 0),(3,none,pt bq 0),(4,none,pt bp 0),(5,none,iv (kk:Int)),(6,none,iv (n:Int)),(9,none,iv (many:Int)),(10,none,pt bu 0),(11,none,iv (x.2.1:Int))]
  J := fun x w' => Ext w w' ∧ Hold w' w.heap.size [.row (.slice x.2.2.2.2.2.1 x.1.length x.2.2.2.2.2.2) 43 3 x.1.length (x.1.flatMap linkC),.blk bu (usedC x.1) 52,.row (.slice av acc.length cv) 41 2 acc.length (acc.flatMap nodeC),.blk bp ([iv pr,iv (cp:Int),iv 0,.slice av acc.length cv,.slice x.2.2.2.2.2.1 x.1.length x.2.2.2.2.2.2,.slice none 0 0,.slice none 0 0]) 29,.blk bq ([.slice x.2.2.2.1 x.2.2.1.length x.2.2.2.2.1]) 46,.blk b0 ([iv 0,iv 0,iv 0,.slice none 0 0,.slice none 0 0,.slice none 0 0,.slice none 0 0]) 29] ∧ Cells w x.2.2.2.1 (x.2.2.1.flatMap intCells) ∧ Small x.2.2.1 ∧ x.2.2.1.length ≤ x.2.2.2.2.1 ∧ x.2.1 ≤ many ∧ netLinks (many - x.2.1) x.2.1 n x.2.2.1 x.1 = R ∧ LinksOk n x.1 ∧ x.1.length ≤ x.2.1
  M := fun x => many - x.2.1
set_option maxRecDepth 20000 in
set_option maxHeartbeats 2000000 in
theorem Net_any (raw : List Int) (a : Option Addr) (c : Nat) (w : World) (hc : Cells w a (raw.flatMap intCells)) (hs : Small raw) (hcap : raw.length ≤ c) :
    Does Tryz.prog 6 [.slice a raw.length c] w (fun v w' => ∃ q : PAd,v = .agg #[.int .i64 (netP raw).proto,.int .i64 (netP raw).cap,.int .i64 (netP raw).k,.slice q.a1 (netP raw).nodes.length q.c1,.slice q.a2 (netP raw).links.length q.c2,.slice q.a3 (netP raw).dests.length q.c3,.slice q.a4 (netP raw).checks.length q.c4] ∧ Ext w w' ∧ NetAt w' w.heap.size (netP raw) q) := by
 refine startZ (c := Y6) Tryz.func6 rfl (by kernel_rfl) ?_
 show H _ 227 [] _ (kAt Y6 [] []) (stz [(0,.slice a raw.length c)]) w
 have hE1 : Ext w w := Ext.refl w
 have hM2 : Hold w w.heap.size [] := Hold.nil hE1.le
 refine Za 2 29 [iv 0,iv 0,iv 0,.slice none 0 0,.slice none 0 0,.slice none 0 0,.slice none 0 0] hE1 hM2 ?_
 intro b0 w0 hE4 hM5
 have rest : ∀ l0 : List Int,raw.take 200 = l0 → Cells w a (l0.flatMap intCells) → Small l0 → l0.length ≤ c → H Tryz.prog 227 [] (bodyPost Tryz.prog Tryz.f6 (Ret fun v w' => ∃ q : PAd,v = .agg #[.int .i64 (netP raw).proto,.int .i64 (netP raw).cap,.int .i64 (netP raw).k,.slice q.a1 (netP raw).nodes.length q.c1,.slice q.a2 (netP raw).links.length q.c2,.slice q.a3 (netP raw).dests.length q.c3,.slice q.a4 (netP raw).checks.length q.c4] ∧ Ext w w' ∧ NetAt w' w.heap.size (netP raw) q)) (kAt Y6 [1,1] []) (stz [(0,.slice a l0.length c),(2,pt b0 0)]) w0 := by
   intro l0 hl0 hc0 hs0 hcap0
   refine Zb 4 46 (.agg #[.slice a l0.length c]) [.slice a l0.length c] hE4 hM5 ?_
   intro bq w1 hE7 hM8
   refine Za 5 29 [iv 0,iv 0,iv 0,.slice none 0 0,.slice none 0 0,.slice none 0 0,.slice none 0 0] hE7 hM8 ?_
   intro bp w2 hE10 hM11
   refine Zt 0 0 0 (.agg #[iv 1,iv 0,iv 0,.slice none 0 0,.slice none 0 0,.slice none 0 0,.slice none 0 0]) rfl hE10 hM11 ?_
   intro w3 hE13 hM14
   refine Zl 5 E17 (next_any w bq l0 a c 2 w3 hE13 hc0 hs0 (by omega) hcap0 (hM14.blk 1 rfl)) ?_
   rintro _ w_1 ⟨rfl,sa_2,sc_3,hC_4,hcs_5,hks_6⟩
   have hE15 := hM14.toExt hE13 hC_4 1 rfl
   have hM16 := hM14.set 1 rfl hC_4
   have hv_7 := nextV_lt l0 (n := 2) (by omega)
   have rest2 : ∀ (wz : World) (pr : Int) (cp : Nat) (l2 : List Int) (s2 : Option Addr) (e2 : Nat),Ext w wz → Hold wz w.heap.size [.blk bp ([iv pr,iv (cp:Int),iv 0,.slice none 0 0,.slice none 0 0,.slice none 0 0,.slice none 0 0]) 29,.blk bq ([.slice s2 l2.length e2]) 46,.blk b0 ([iv 0,iv 0,iv 0,.slice none 0 0,.slice none 0 0,.slice none 0 0,.slice none 0 0]) 29] → Cells w s2 (l2.flatMap intCells) → Small l2 → l2.length ≤ e2 → (if netPath raw then 2 else 1) = pr → netCap raw = cp → netSrc2 raw = l2 → H Tryz.prog 227 [] (bodyPost Tryz.prog Tryz.f6 (Ret fun v w' => ∃ q : PAd,v = .agg #[.int .i64 (netP raw).proto,.int .i64 (netP raw).cap,.int .i64 (netP raw).k,.slice q.a1 (netP raw).nodes.length q.c1,.slice q.a2 (netP raw).links.length q.c2,.slice q.a3 (netP raw).dests.length q.c3,.slice q.a4 (netP raw).checks.length q.c4] ∧ Ext w w' ∧ NetAt w' w.heap.size (netP raw) q)) (kAt Y6 (ro1 5 []) []) (stz [(2,pt b0 0),(3,pt bq 0),(4,pt bp 0)]) wz := by
     intro wz pr cp l2 s2 e2 hEz hMz hc2 hs2 hk2 hpr hcp hl2
     refine Zl 3 E17 (next_any w bq l2 s2 e2 4 wz hEz hc2 hs2 (by omega) hk2 (hMz.blk 1 rfl)) ?_
     rintro _ w_8 ⟨rfl,sa_9,sc_10,hC_11,hcs_12,hks_13⟩
     have hE17 := hMz.toExt hEz hC_11 1 rfl
     have hM18 := hMz.set 1 rfl hC_11
     have hv_14 := nextV_lt l2 (n := 4) (by omega)
     refine Zl 5 E17 (next_any w bq (l2.drop 1) sa_9 sc_10 6 w_8 hE17 hcs_12 (hs2.drop 1) (by omega) hks_13 (hM18.blk 1 rfl)) ?_
     rintro _ w_15 ⟨rfl,sa_16,sc_17,hC_18,hcs_19,hks_20⟩
     have hE19 := hM18.toExt hE17 hC_18 1 rfl
     have hM20 := hM18.set 1 rfl hC_18
     have hv_21 := nextV_lt (l2.drop 1) (n := 6) (by omega)
     refine Zs 9 [] [I64 ((2 + (nextV (l2.drop 1) 6):Nat):Int)] (A1 (i64 (by omega))) ?_
     have hn : netN raw = 2 + nextV (l2.drop 1) 6 := by unfold netN; rw [hl2]
     obtain ⟨n,hnn⟩ : ∃ n,2 + nextV (l2.drop 1) 6 = n := ⟨_,rfl⟩
     have hnle := netN_le raw
     refine Zw 0 6 (iv ((2 + (nextV (l2.drop 1) 6):Nat):Int)) (iv (n:Int)) (by rw [hnn]) ?_
     rw [hnn] at hn
     obtain ⟨kk,hkk⟩ : ∃ k,nextV l2 4 = k := ⟨_,rfl⟩
     refine Zw 0 5 (iv ((nextV l2 4:Nat):Int)) (iv (kk:Int)) (by rw [hkk]) ?_
     have hM21 := hM20.nilRow (e := 41) (size := 2)
     obtain ⟨l4,hl4⟩ : ∃ l,(l2.drop 1).drop 1 = l := ⟨_,rfl⟩
     obtain ⟨A,hA⟩ : ∃ A,netNodes n 0 l4 = A := ⟨_,rfl⟩
     have hAeq : netA raw = A := by unfold netA; rw [hl2,hl4,hn]; exact hA
     refine ZLoop (netL1 w b0 bq bp n kk pr cp A) (k' := (kEnd Y6 (ro1 7 [0,1,0]) [])) (body := (cAt Y6 (ro1 7 [0,1,0,0]))) (by kernel_rfl) ([],(l2.drop 1).drop 1,sa_16,sc_17,none,0) [2,3,4,5,6,7] (by kernel_rfl) (⟨hE19,hM21,hcs_19,(hs2.drop 1).drop 1,hks_20,Nat.zero_le _,by rw [hl4]; exact hA⟩) ?_
     rintro ⟨acc,L,s,e,av,cv⟩ wi ⟨hE1,hM1,hc1,hs1,hk1,hle,hacc⟩
     simp only at hE1 hM1 hc1 hs1 hk1 hle hacc
     show H _ _ _ _ (kAt (cAt Y6 (ro1 7 [0,1,0,0])) [] (.inv (LI 227 [] (netL1 w b0 bq bp n kk pr cp A) (acc,L,s,e,av,cv)) :: (kEnd Y6 (ro1 7 [0,1,0]) []))) (stz [(2,pt b0 0),(3,pt bq 0),(4,pt bp 0),(5,iv (kk:Int)),(6,iv (n:Int)),(7,iv (acc.length:Int))]) wi
     refine Zq 7 ((acc.length:Int) < (n:Int)) (fun h1 => ?_) (fun h1 => ?_)
     ·generalize hKT : ((.inv (LI 227 [] (netL1 w b0 bq bp n kk pr cp A) (acc,L,s,e,av,cv)) :: (kEnd Y6 (ro1 7 [0,1,0]) [])) : List Fr) = KT
      have hlt : acc.length < n := by omega
      obtain ⟨g_28,hg_29⟩ : ∃ x,nextV L 9 = x := ⟨_,rfl⟩
      obtain ⟨l_30,hl_31⟩ : ∃ x,L.drop 1 = x := ⟨_,rfl⟩
      have hs_32 : Small l_30 := hl_31 ▸ hs1.drop 1
      have hv_33 := nextV_lt L (n := 9) (by omega)
      rw [hg_29] at hv_33
      refine Zl 6 E17 (by have h := next_any w bq L s e 9 wi hE1 hc1 hs1 (by omega) hk1 (hM1.blk 2 rfl); rw [hg_29,hl_31] at h; exact h) ?_
      rintro _ w_22 ⟨rfl,sa_23,sc_24,hC_25,hcs_26,hks_27⟩
      have hE22 := hM1.toExt hE1 hC_25 2 rfl
      have hM23 := hM1.set 2 rfl hC_25
      refine Zs 7 [] [I64 ((1 + g_28:Nat):Int)] (A1 (i64 (by omega))) ?_
      obtain ⟨g_40,hg_41⟩ : ∃ x,nextV l_30 3 = x := ⟨_,rfl⟩
      obtain ⟨l_42,hl_43⟩ : ∃ x,l_30.drop 1 = x := ⟨_,rfl⟩
      have hs_44 : Small l_42 := hl_43 ▸ hs_32.drop 1
      have hv_45 := nextV_lt l_30 (n := 3) (by omega)
      rw [hg_41] at hv_45
      refine Zl 0 E17 (by have h := next_any w bq l_30 sa_23 sc_24 3 w_22 hE22 hcs_26 hs_32 (by omega) hks_27 (hM23.blk 2 rfl); rw [hg_41,hl_43] at h; exact h) ?_
      rintro _ w_34 ⟨rfl,sa_35,sc_36,hC_37,hcs_38,hks_39⟩
      have hE24 := hM23.toExt hE22 hC_37 2 rfl
      have hM25 := hM23.set 2 rfl hC_37
      refine Zq 2 ((0 : Int) < (g_40:Int)) (fun h2 => ?_) (fun h2 => ?_)
      ·obtain ⟨nd,hnd⟩ : ∃ x,(⟨nodeNames.getD acc.length [],((10 + acc.length:Nat):Int)⟩ : PNode) = x := ⟨_,rfl⟩
       refine Zs 5 [] [I64 ((10 + acc.length:Nat):Int)] (A1 (i64 (by omega))) ?_
       refine ZB 12 (Fr.blk 1 :: (kAt (cAt Y6 (ro1 7 [0,1,0,0])) [1,1] KT)) 16 (opsAt (cAt (cAt Y6 (ro1 7 [0,1,0,0])) [1,0,0,1,1])) (fun _ _ => True) ?_
       intro w26 hx27
       obtain ⟨hE28,hM29⟩ := Xt hE24 hM25 hx27
       refine dx0 [0,3,6] [] 9 (lb 12 73) (trivial) ?_
       refine dAll 1 [2] (by kernel_rfl) ?_
       refine ⟨?_,?_⟩
       ·refine Wo [] (.load 24 (pt bp 3)) [] trivial (runs_load (v := .slice av acc.length cv) (ps := [cl w26 bp 3 (.slice av acc.length cv)]) (by kernel_rfl) (A1 (cell_of (hM29.blk 1 rfl) rfl))) ?_
        rintro _ _ ⟨rfl,rfl⟩
        refine ⟨trivial,?_⟩
        refine d1 2 ?_
        refine Wd 7 [sv ([97]),sv ([98]),sv ([99]),sv ([100]),sv ([101]),sv ([102]),sv ([103])] 9 hE28 hM29 ?_
        intro bn w_46 hx33 hE31 hM32
        refine ⟨trivial,?_⟩
        refine dx [4] [] 6 (lb 12 95) (fun w' => [(0 ≤ (acc.length:Int) ∧ (acc.length:Int) < (7 : Int)),((some ⟨bn,0,none⟩) : Option Addr) = some ⟨bn,0,none⟩]) (fun w' hS => (AC (by omega) (A1 rfl))) (trivial) ?_
        refine d1 5 ?_
        refine Wo [] (.load 9 (pt bn (0 + acc.length * 1))) [] trivial (runs_load (v := sv (nodeNames.getD acc.length [])) (ps := [cl w_46 bn (0 + acc.length * 1) (sv (nodeNames.getD acc.length []))]) (by kernel_rfl) (A1 (nodeNames_at (hM32.blk 0 rfl) (by omega)))) ?_
        rintro _ _ ⟨rfl,rfl⟩
        refine ⟨trivial,?_⟩
        refine dx0 [7] [] 4 (lb 12 255) (trivial) ?_
        refine d1 8 ?_
        refine Wd 1 [sv (nodeNames.getD acc.length []),iv ((10 + acc.length:Nat):Int)] 41 hE31 hM32 ?_
        intro be w_47 hx37 hE35 hM36
        refine ⟨trivial,?_⟩
        refine d1 9 ?_
        refine Wp 2 0 1 24 ((acc ++ [nd]).length) ((acc ++ [nd]).flatMap nodeC) rfl rfl ⟨by omega,by omega⟩ (fun _ _ h => by subst hnd; simpa [nodeC] using h) hE35 hM36 ?_
        intro av2 cv2 w_48 hE38 hM39
        refine ⟨trivial,?_⟩
        refine dx0 [10] [] 1 (lb 12 2047) (trivial) ?_
        refine d1 11 ?_
        refine Wt 3 3 (.slice av2 ((acc ++ [nd]).length) cv2) rfl hE38 hM39 ?_
        intro w_49 hE41 hM42
        refine ⟨trivial,?_⟩
        refine ZD ?_
        refine Zs 6 [] [I64 ((acc.length + 1:Nat):Int)] (A1 (i64 (by omega))) ?_
        have hM43 := hM42.pickT 6 [2,3,4,5] (by kernel_rfl)
        have hfx : n - acc.length = (n - (acc.length + 1)) + 1 := by omega
        have hx : nd :: (netNodes (n - (acc.length + 1)) (acc.length + 1) l_42).1 = (netNodes (n - acc.length) acc.length L).1 ∧ (netNodes (n - (acc.length + 1)) (acc.length + 1) l_42).2 = (netNodes (n - acc.length) acc.length L).2 := by subst hnd; subst hg_29; subst hl_31; subst hg_41; subst hl_43; rw [hfx,netNodes_stepP (by omega)]; exact ⟨rfl,rfl⟩
        refine Zw 0 7 (iv ((acc.length + 1:Nat):Int)) (iv (((acc ++ [nd]).length:Nat):Int)) (by rw [show (((acc.length + 1:Nat):Int) : Int) = (((acc ++ [nd]).length:Nat):Int) from by rw [List.length_append]; rfl]) ?_
        subst hKT
        exact ZA 0 (netL1 w b0 bq bp n kk pr cp A) (acc,L,s,e,av,cv) ((acc ++ [nd]),l_42,sa_35,sc_36,av2,cv2) [2,3,4,5,6,7] (⟨hE41,hM43,hcs_38,hs_44,hks_39,by show (acc ++ [nd]).length ≤ n; rw [List.length_append]; exact hlt,by show ((acc ++ [nd]) ++ (netNodes (n - (acc ++ [nd]).length) (acc ++ [nd]).length _).1,(netNodes (n - (acc ++ [nd]).length) (acc ++ [nd]).length _).2) = A; rw [List.length_append,List.append_assoc,show [nd].length = 1 from rfl,List.singleton_append,hx.1,hx.2]; exact hacc⟩) (by show n - (acc ++ [nd]).length < n - acc.length; rw [List.length_append]; show n - (acc.length + 1) < _; omega)
       refine Wd 7 [sv ([97]),sv ([98]),sv ([99]),sv ([100]),sv ([101]),sv ([102]),sv ([103])] 9 hE28 hM29 ?_
       intro bn w_50 hx47 hE45 hM46
       refine ⟨trivial,?_⟩
       refine dx [4] [] 7 (lb 12 93) (fun w' => [(0 ≤ (acc.length:Int) ∧ (acc.length:Int) < (7 : Int)),((some ⟨bn,0,none⟩) : Option Addr) = some ⟨bn,0,none⟩]) (fun w' hS => (AC (by omega) (A1 rfl))) (trivial) ?_
       refine dAll 1 [5] (by kernel_rfl) ?_
       refine ⟨?_,?_⟩
       ·refine Wo [] (.load 24 (pt bp 3)) [] trivial (runs_load (v := .slice av acc.length cv) (ps := [cl w_50 bp 3 (.slice av acc.length cv)]) (by kernel_rfl) (A1 (cell_of (hM46.blk 2 rfl) rfl))) ?_
        rintro _ _ ⟨rfl,rfl⟩
        refine ⟨trivial,?_⟩
        refine d1 5 ?_
        refine Wo [] (.load 9 (pt bn (0 + acc.length * 1))) [] trivial (runs_load (v := sv (nodeNames.getD acc.length [])) (ps := [cl w_50 bn (0 + acc.length * 1) (sv (nodeNames.getD acc.length []))]) (by kernel_rfl) (A1 (nodeNames_at (hM46.blk 0 rfl) (by omega)))) ?_
        rintro _ _ ⟨rfl,rfl⟩
        refine ⟨trivial,?_⟩
        refine dx0 [7] [] 4 (lb 12 255) (trivial) ?_
        refine d1 8 ?_
        refine Wd 1 [sv (nodeNames.getD acc.length []),iv ((10 + acc.length:Nat):Int)] 41 hE45 hM46 ?_
        intro be w_51 hx51 hE49 hM50
        refine ⟨trivial,?_⟩
        refine d1 9 ?_
        refine Wp 2 0 1 24 ((acc ++ [nd]).length) ((acc ++ [nd]).flatMap nodeC) rfl rfl ⟨by omega,by omega⟩ (fun _ _ h => by subst hnd; simpa [nodeC] using h) hE49 hM50 ?_
        intro av2 cv2 w_52 hE52 hM53
        refine ⟨trivial,?_⟩
        refine dx0 [10] [] 1 (lb 12 2047) (trivial) ?_
        refine d1 11 ?_
        refine Wt 3 3 (.slice av2 ((acc ++ [nd]).length) cv2) rfl hE52 hM53 ?_
        intro w_53 hE55 hM56
        refine ⟨trivial,?_⟩
        refine ZD ?_
        refine Zs 6 [] [I64 ((acc.length + 1:Nat):Int)] (A1 (i64 (by omega))) ?_
        have hM57 := hM56.pickT 6 [2,3,4,5] (by kernel_rfl)
        have hfx : n - acc.length = (n - (acc.length + 1)) + 1 := by omega
        have hx : nd :: (netNodes (n - (acc.length + 1)) (acc.length + 1) l_42).1 = (netNodes (n - acc.length) acc.length L).1 ∧ (netNodes (n - (acc.length + 1)) (acc.length + 1) l_42).2 = (netNodes (n - acc.length) acc.length L).2 := by subst hnd; subst hg_29; subst hl_31; subst hg_41; subst hl_43; rw [hfx,netNodes_stepP (by omega)]; exact ⟨rfl,rfl⟩
        refine Zw 0 7 (iv ((acc.length + 1:Nat):Int)) (iv (((acc ++ [nd]).length:Nat):Int)) (by rw [show (((acc.length + 1:Nat):Int) : Int) = (((acc ++ [nd]).length:Nat):Int) from by rw [List.length_append]; rfl]) ?_
        subst hKT
        exact ZA 0 (netL1 w b0 bq bp n kk pr cp A) (acc,L,s,e,av,cv) ((acc ++ [nd]),l_42,sa_35,sc_36,av2,cv2) [2,3,4,5,6,7] (⟨hE55,hM57,hcs_38,hs_44,hks_39,by show (acc ++ [nd]).length ≤ n; rw [List.length_append]; exact hlt,by show ((acc ++ [nd]) ++ (netNodes (n - (acc ++ [nd]).length) (acc ++ [nd]).length _).1,(netNodes (n - (acc ++ [nd]).length) (acc ++ [nd]).length _).2) = A; rw [List.length_append,List.append_assoc,show [nd].length = 1 from rfl,List.singleton_append,hx.1,hx.2]; exact hacc⟩) (by show n - (acc ++ [nd]).length < n - acc.length; rw [List.length_append]; show n - (acc.length + 1) < _; omega)
       refine Wo [] (.load 9 (pt bn (0 + acc.length * 1))) [] trivial (runs_load (v := sv (nodeNames.getD acc.length [])) (ps := [cl w_50 bn (0 + acc.length * 1) (sv (nodeNames.getD acc.length []))]) (by kernel_rfl) (A1 (nodeNames_at (hM46.blk 0 rfl) (by omega)))) ?_
       rintro _ _ ⟨rfl,rfl⟩
       refine ⟨trivial,?_⟩
       refine dx0 [7] [] 5 (lb 12 253) (trivial) ?_
       refine dAll 1 [8] (by kernel_rfl) ?_
       refine ⟨?_,?_⟩
       ·refine Wo [] (.load 24 (pt bp 3)) [] trivial (runs_load (v := .slice av acc.length cv) (ps := [cl w_50 bp 3 (.slice av acc.length cv)]) (by kernel_rfl) (A1 (cell_of (hM46.blk 2 rfl) rfl))) ?_
        rintro _ _ ⟨rfl,rfl⟩
        refine ⟨trivial,?_⟩
        refine d1 8 ?_
        refine Wd 1 [sv (nodeNames.getD acc.length []),iv ((10 + acc.length:Nat):Int)] 41 hE45 hM46 ?_
        intro be w_54 hx61 hE59 hM60
        refine ⟨trivial,?_⟩
        refine d1 9 ?_
        refine Wp 2 0 1 24 ((acc ++ [nd]).length) ((acc ++ [nd]).flatMap nodeC) rfl rfl ⟨by omega,by omega⟩ (fun _ _ h => by subst hnd; simpa [nodeC] using h) hE59 hM60 ?_
        intro av2 cv2 w_55 hE62 hM63
        refine ⟨trivial,?_⟩
        refine dx0 [10] [] 1 (lb 12 2047) (trivial) ?_
        refine d1 11 ?_
        refine Wt 3 3 (.slice av2 ((acc ++ [nd]).length) cv2) rfl hE62 hM63 ?_
        intro w_56 hE65 hM66
        refine ⟨trivial,?_⟩
        refine ZD ?_
        refine Zs 6 [] [I64 ((acc.length + 1:Nat):Int)] (A1 (i64 (by omega))) ?_
        have hM67 := hM66.pickT 6 [2,3,4,5] (by kernel_rfl)
        have hfx : n - acc.length = (n - (acc.length + 1)) + 1 := by omega
        have hx : nd :: (netNodes (n - (acc.length + 1)) (acc.length + 1) l_42).1 = (netNodes (n - acc.length) acc.length L).1 ∧ (netNodes (n - (acc.length + 1)) (acc.length + 1) l_42).2 = (netNodes (n - acc.length) acc.length L).2 := by subst hnd; subst hg_29; subst hl_31; subst hg_41; subst hl_43; rw [hfx,netNodes_stepP (by omega)]; exact ⟨rfl,rfl⟩
        refine Zw 0 7 (iv ((acc.length + 1:Nat):Int)) (iv (((acc ++ [nd]).length:Nat):Int)) (by rw [show (((acc.length + 1:Nat):Int) : Int) = (((acc ++ [nd]).length:Nat):Int) from by rw [List.length_append]; rfl]) ?_
        subst hKT
        exact ZA 0 (netL1 w b0 bq bp n kk pr cp A) (acc,L,s,e,av,cv) ((acc ++ [nd]),l_42,sa_35,sc_36,av2,cv2) [2,3,4,5,6,7] (⟨hE65,hM67,hcs_38,hs_44,hks_39,by show (acc ++ [nd]).length ≤ n; rw [List.length_append]; exact hlt,by show ((acc ++ [nd]) ++ (netNodes (n - (acc ++ [nd]).length) (acc ++ [nd]).length _).1,(netNodes (n - (acc ++ [nd]).length) (acc ++ [nd]).length _).2) = A; rw [List.length_append,List.append_assoc,show [nd].length = 1 from rfl,List.singleton_append,hx.1,hx.2]; exact hacc⟩) (by show n - (acc ++ [nd]).length < n - acc.length; rw [List.length_append]; show n - (acc.length + 1) < _; omega)
       refine Wd 1 [sv (nodeNames.getD acc.length []),iv ((10 + acc.length:Nat):Int)] 41 hE45 hM46 ?_
       intro be w_57 hx71 hE69 hM70
       refine ⟨trivial,?_⟩
       refine d1 1 ?_
       refine Wo [] (.load 24 (pt bp 3)) [] trivial (runs_load (v := .slice av acc.length cv) (ps := [cl w_57 bp 3 (.slice av acc.length cv)]) (by kernel_rfl) (A1 (cell_of (hM70.blk 3 rfl) rfl))) ?_
       rintro _ _ ⟨rfl,rfl⟩
       refine ⟨trivial,?_⟩
       refine d1 9 ?_
       refine Wp 2 0 1 24 ((acc ++ [nd]).length) ((acc ++ [nd]).flatMap nodeC) rfl rfl ⟨by omega,by omega⟩ (fun _ _ h => by subst hnd; simpa [nodeC] using h) hE69 hM70 ?_
       intro av2 cv2 w_58 hE72 hM73
       refine ⟨trivial,?_⟩
       refine dx0 [10] [] 1 (lb 12 2047) (trivial) ?_
       refine d1 11 ?_
       refine Wt 3 3 (.slice av2 ((acc ++ [nd]).length) cv2) rfl hE72 hM73 ?_
       intro w_59 hE75 hM76
       refine ⟨trivial,?_⟩
       refine ZD ?_
       refine Zs 6 [] [I64 ((acc.length + 1:Nat):Int)] (A1 (i64 (by omega))) ?_
       have hM77 := hM76.pickT 6 [2,3,4,5] (by kernel_rfl)
       have hfx : n - acc.length = (n - (acc.length + 1)) + 1 := by omega
       have hx : nd :: (netNodes (n - (acc.length + 1)) (acc.length + 1) l_42).1 = (netNodes (n - acc.length) acc.length L).1 ∧ (netNodes (n - (acc.length + 1)) (acc.length + 1) l_42).2 = (netNodes (n - acc.length) acc.length L).2 := by subst hnd; subst hg_29; subst hl_31; subst hg_41; subst hl_43; rw [hfx,netNodes_stepP (by omega)]; exact ⟨rfl,rfl⟩
       refine Zw 0 7 (iv ((acc.length + 1:Nat):Int)) (iv (((acc ++ [nd]).length:Nat):Int)) (by rw [show (((acc.length + 1:Nat):Int) : Int) = (((acc ++ [nd]).length:Nat):Int) from by rw [List.length_append]; rfl]) ?_
       subst hKT
       exact ZA 0 (netL1 w b0 bq bp n kk pr cp A) (acc,L,s,e,av,cv) ((acc ++ [nd]),l_42,sa_35,sc_36,av2,cv2) [2,3,4,5,6,7] (⟨hE75,hM77,hcs_38,hs_44,hks_39,by show (acc ++ [nd]).length ≤ n; rw [List.length_append]; exact hlt,by show ((acc ++ [nd]) ++ (netNodes (n - (acc ++ [nd]).length) (acc ++ [nd]).length _).1,(netNodes (n - (acc ++ [nd]).length) (acc ++ [nd]).length _).2) = A; rw [List.length_append,List.append_assoc,show [nd].length = 1 from rfl,List.singleton_append,hx.1,hx.2]; exact hacc⟩) (by show n - (acc ++ [nd]).length < n - acc.length; rw [List.length_append]; show n - (acc.length + 1) < _; omega)
      obtain ⟨nd,hnd⟩ : ∃ x,(⟨nodeNames.getD acc.length [],((1 + g_28:Nat):Int)⟩ : PNode) = x := ⟨_,rfl⟩
      refine Zs 1 [] [] trivial ?_
      refine ZB 12 (Fr.blk 1 :: (kAt (cAt Y6 (ro1 7 [0,1,0,0])) [1,1] KT)) 16 (opsAt (cAt (cAt Y6 (ro1 7 [0,1,0,0])) [1,0,0,1,1])) (fun _ _ => True) ?_
      intro w78 hx79
      obtain ⟨hE80,hM81⟩ := Xt hE24 hM25 hx79
      refine dx0 [0,3,6] [] 9 (lb 12 73) (trivial) ?_
      refine dAll 1 [2] (by kernel_rfl) ?_
      refine ⟨?_,?_⟩
      ·refine Wo [] (.load 24 (pt bp 3)) [] trivial (runs_load (v := .slice av acc.length cv) (ps := [cl w78 bp 3 (.slice av acc.length cv)]) (by kernel_rfl) (A1 (cell_of (hM81.blk 1 rfl) rfl))) ?_
       rintro _ _ ⟨rfl,rfl⟩
       refine ⟨trivial,?_⟩
       refine d1 2 ?_
       refine Wd 7 [sv ([97]),sv ([98]),sv ([99]),sv ([100]),sv ([101]),sv ([102]),sv ([103])] 9 hE80 hM81 ?_
       intro bn w_60 hx85 hE83 hM84
       refine ⟨trivial,?_⟩
       refine dx [4] [] 6 (lb 12 95) (fun w' => [(0 ≤ (acc.length:Int) ∧ (acc.length:Int) < (7 : Int)),((some ⟨bn,0,none⟩) : Option Addr) = some ⟨bn,0,none⟩]) (fun w' hS => (AC (by omega) (A1 rfl))) (trivial) ?_
       refine d1 5 ?_
       refine Wo [] (.load 9 (pt bn (0 + acc.length * 1))) [] trivial (runs_load (v := sv (nodeNames.getD acc.length [])) (ps := [cl w_60 bn (0 + acc.length * 1) (sv (nodeNames.getD acc.length []))]) (by kernel_rfl) (A1 (nodeNames_at (hM84.blk 0 rfl) (by omega)))) ?_
       rintro _ _ ⟨rfl,rfl⟩
       refine ⟨trivial,?_⟩
       refine dx0 [7] [] 4 (lb 12 255) (trivial) ?_
       refine d1 8 ?_
       refine Wd 1 [sv (nodeNames.getD acc.length []),iv ((1 + g_28:Nat):Int)] 41 hE83 hM84 ?_
       intro be w_61 hx89 hE87 hM88
       refine ⟨trivial,?_⟩
       refine d1 9 ?_
       refine Wp 2 0 1 24 ((acc ++ [nd]).length) ((acc ++ [nd]).flatMap nodeC) rfl rfl ⟨by omega,by omega⟩ (fun _ _ h => by subst hnd; simpa [nodeC] using h) hE87 hM88 ?_
       intro av2 cv2 w_62 hE90 hM91
       refine ⟨trivial,?_⟩
       refine dx0 [10] [] 1 (lb 12 2047) (trivial) ?_
       refine d1 11 ?_
       refine Wt 3 3 (.slice av2 ((acc ++ [nd]).length) cv2) rfl hE90 hM91 ?_
       intro w_63 hE93 hM94
       refine ⟨trivial,?_⟩
       refine ZD ?_
       refine Zs 6 [] [I64 ((acc.length + 1:Nat):Int)] (A1 (i64 (by omega))) ?_
       have hM95 := hM94.pickT 6 [2,3,4,5] (by kernel_rfl)
       have hfx : n - acc.length = (n - (acc.length + 1)) + 1 := by omega
       have hx : nd :: (netNodes (n - (acc.length + 1)) (acc.length + 1) l_42).1 = (netNodes (n - acc.length) acc.length L).1 ∧ (netNodes (n - (acc.length + 1)) (acc.length + 1) l_42).2 = (netNodes (n - acc.length) acc.length L).2 := by subst hnd; subst hg_29; subst hl_31; subst hg_41; subst hl_43; rw [hfx,netNodes_stepN (by omega)]; exact ⟨rfl,rfl⟩
       refine Zw 0 7 (iv ((acc.length + 1:Nat):Int)) (iv (((acc ++ [nd]).length:Nat):Int)) (by rw [show (((acc.length + 1:Nat):Int) : Int) = (((acc ++ [nd]).length:Nat):Int) from by rw [List.length_append]; rfl]) ?_
       subst hKT
       exact ZA 0 (netL1 w b0 bq bp n kk pr cp A) (acc,L,s,e,av,cv) ((acc ++ [nd]),l_42,sa_35,sc_36,av2,cv2) [2,3,4,5,6,7] (⟨hE93,hM95,hcs_38,hs_44,hks_39,by show (acc ++ [nd]).length ≤ n; rw [List.length_append]; exact hlt,by show ((acc ++ [nd]) ++ (netNodes (n - (acc ++ [nd]).length) (acc ++ [nd]).length _).1,(netNodes (n - (acc ++ [nd]).length) (acc ++ [nd]).length _).2) = A; rw [List.length_append,List.append_assoc,show [nd].length = 1 from rfl,List.singleton_append,hx.1,hx.2]; exact hacc⟩) (by show n - (acc ++ [nd]).length < n - acc.length; rw [List.length_append]; show n - (acc.length + 1) < _; omega)
      refine Wd 7 [sv ([97]),sv ([98]),sv ([99]),sv ([100]),sv ([101]),sv ([102]),sv ([103])] 9 hE80 hM81 ?_
      intro bn w_64 hx99 hE97 hM98
      refine ⟨trivial,?_⟩
      refine dx [4] [] 7 (lb 12 93) (fun w' => [(0 ≤ (acc.length:Int) ∧ (acc.length:Int) < (7 : Int)),((some ⟨bn,0,none⟩) : Option Addr) = some ⟨bn,0,none⟩]) (fun w' hS => (AC (by omega) (A1 rfl))) (trivial) ?_
      refine dAll 1 [5] (by kernel_rfl) ?_
      refine ⟨?_,?_⟩
      ·refine Wo [] (.load 24 (pt bp 3)) [] trivial (runs_load (v := .slice av acc.length cv) (ps := [cl w_64 bp 3 (.slice av acc.length cv)]) (by kernel_rfl) (A1 (cell_of (hM98.blk 2 rfl) rfl))) ?_
       rintro _ _ ⟨rfl,rfl⟩
       refine ⟨trivial,?_⟩
       refine d1 5 ?_
       refine Wo [] (.load 9 (pt bn (0 + acc.length * 1))) [] trivial (runs_load (v := sv (nodeNames.getD acc.length [])) (ps := [cl w_64 bn (0 + acc.length * 1) (sv (nodeNames.getD acc.length []))]) (by kernel_rfl) (A1 (nodeNames_at (hM98.blk 0 rfl) (by omega)))) ?_
       rintro _ _ ⟨rfl,rfl⟩
       refine ⟨trivial,?_⟩
       refine dx0 [7] [] 4 (lb 12 255) (trivial) ?_
       refine d1 8 ?_
       refine Wd 1 [sv (nodeNames.getD acc.length []),iv ((1 + g_28:Nat):Int)] 41 hE97 hM98 ?_
       intro be w_65 hx103 hE101 hM102
       refine ⟨trivial,?_⟩
       refine d1 9 ?_
       refine Wp 2 0 1 24 ((acc ++ [nd]).length) ((acc ++ [nd]).flatMap nodeC) rfl rfl ⟨by omega,by omega⟩ (fun _ _ h => by subst hnd; simpa [nodeC] using h) hE101 hM102 ?_
       intro av2 cv2 w_66 hE104 hM105
       refine ⟨trivial,?_⟩
       refine dx0 [10] [] 1 (lb 12 2047) (trivial) ?_
       refine d1 11 ?_
       refine Wt 3 3 (.slice av2 ((acc ++ [nd]).length) cv2) rfl hE104 hM105 ?_
       intro w_67 hE107 hM108
       refine ⟨trivial,?_⟩
       refine ZD ?_
       refine Zs 6 [] [I64 ((acc.length + 1:Nat):Int)] (A1 (i64 (by omega))) ?_
       have hM109 := hM108.pickT 6 [2,3,4,5] (by kernel_rfl)
       have hfx : n - acc.length = (n - (acc.length + 1)) + 1 := by omega
       have hx : nd :: (netNodes (n - (acc.length + 1)) (acc.length + 1) l_42).1 = (netNodes (n - acc.length) acc.length L).1 ∧ (netNodes (n - (acc.length + 1)) (acc.length + 1) l_42).2 = (netNodes (n - acc.length) acc.length L).2 := by subst hnd; subst hg_29; subst hl_31; subst hg_41; subst hl_43; rw [hfx,netNodes_stepN (by omega)]; exact ⟨rfl,rfl⟩
       refine Zw 0 7 (iv ((acc.length + 1:Nat):Int)) (iv (((acc ++ [nd]).length:Nat):Int)) (by rw [show (((acc.length + 1:Nat):Int) : Int) = (((acc ++ [nd]).length:Nat):Int) from by rw [List.length_append]; rfl]) ?_
       subst hKT
       exact ZA 0 (netL1 w b0 bq bp n kk pr cp A) (acc,L,s,e,av,cv) ((acc ++ [nd]),l_42,sa_35,sc_36,av2,cv2) [2,3,4,5,6,7] (⟨hE107,hM109,hcs_38,hs_44,hks_39,by show (acc ++ [nd]).length ≤ n; rw [List.length_append]; exact hlt,by show ((acc ++ [nd]) ++ (netNodes (n - (acc ++ [nd]).length) (acc ++ [nd]).length _).1,(netNodes (n - (acc ++ [nd]).length) (acc ++ [nd]).length _).2) = A; rw [List.length_append,List.append_assoc,show [nd].length = 1 from rfl,List.singleton_append,hx.1,hx.2]; exact hacc⟩) (by show n - (acc ++ [nd]).length < n - acc.length; rw [List.length_append]; show n - (acc.length + 1) < _; omega)
      refine Wo [] (.load 9 (pt bn (0 + acc.length * 1))) [] trivial (runs_load (v := sv (nodeNames.getD acc.length [])) (ps := [cl w_64 bn (0 + acc.length * 1) (sv (nodeNames.getD acc.length []))]) (by kernel_rfl) (A1 (nodeNames_at (hM98.blk 0 rfl) (by omega)))) ?_
      rintro _ _ ⟨rfl,rfl⟩
      refine ⟨trivial,?_⟩
      refine dx0 [7] [] 5 (lb 12 253) (trivial) ?_
      refine dAll 1 [8] (by kernel_rfl) ?_
      refine ⟨?_,?_⟩
      ·refine Wo [] (.load 24 (pt bp 3)) [] trivial (runs_load (v := .slice av acc.length cv) (ps := [cl w_64 bp 3 (.slice av acc.length cv)]) (by kernel_rfl) (A1 (cell_of (hM98.blk 2 rfl) rfl))) ?_
       rintro _ _ ⟨rfl,rfl⟩
       refine ⟨trivial,?_⟩
       refine d1 8 ?_
       refine Wd 1 [sv (nodeNames.getD acc.length []),iv ((1 + g_28:Nat):Int)] 41 hE97 hM98 ?_
       intro be w_68 hx113 hE111 hM112
       refine ⟨trivial,?_⟩
       refine d1 9 ?_
       refine Wp 2 0 1 24 ((acc ++ [nd]).length) ((acc ++ [nd]).flatMap nodeC) rfl rfl ⟨by omega,by omega⟩ (fun _ _ h => by subst hnd; simpa [nodeC] using h) hE111 hM112 ?_
       intro av2 cv2 w_69 hE114 hM115
       refine ⟨trivial,?_⟩
       refine dx0 [10] [] 1 (lb 12 2047) (trivial) ?_
       refine d1 11 ?_
       refine Wt 3 3 (.slice av2 ((acc ++ [nd]).length) cv2) rfl hE114 hM115 ?_
       intro w_70 hE117 hM118
       refine ⟨trivial,?_⟩
       refine ZD ?_
       refine Zs 6 [] [I64 ((acc.length + 1:Nat):Int)] (A1 (i64 (by omega))) ?_
       have hM119 := hM118.pickT 6 [2,3,4,5] (by kernel_rfl)
       have hfx : n - acc.length = (n - (acc.length + 1)) + 1 := by omega
       have hx : nd :: (netNodes (n - (acc.length + 1)) (acc.length + 1) l_42).1 = (netNodes (n - acc.length) acc.length L).1 ∧ (netNodes (n - (acc.length + 1)) (acc.length + 1) l_42).2 = (netNodes (n - acc.length) acc.length L).2 := by subst hnd; subst hg_29; subst hl_31; subst hg_41; subst hl_43; rw [hfx,netNodes_stepN (by omega)]; exact ⟨rfl,rfl⟩
       refine Zw 0 7 (iv ((acc.length + 1:Nat):Int)) (iv (((acc ++ [nd]).length:Nat):Int)) (by rw [show (((acc.length + 1:Nat):Int) : Int) = (((acc ++ [nd]).length:Nat):Int) from by rw [List.length_append]; rfl]) ?_
       subst hKT
       exact ZA 0 (netL1 w b0 bq bp n kk pr cp A) (acc,L,s,e,av,cv) ((acc ++ [nd]),l_42,sa_35,sc_36,av2,cv2) [2,3,4,5,6,7] (⟨hE117,hM119,hcs_38,hs_44,hks_39,by show (acc ++ [nd]).length ≤ n; rw [List.length_append]; exact hlt,by show ((acc ++ [nd]) ++ (netNodes (n - (acc ++ [nd]).length) (acc ++ [nd]).length _).1,(netNodes (n - (acc ++ [nd]).length) (acc ++ [nd]).length _).2) = A; rw [List.length_append,List.append_assoc,show [nd].length = 1 from rfl,List.singleton_append,hx.1,hx.2]; exact hacc⟩) (by show n - (acc ++ [nd]).length < n - acc.length; rw [List.length_append]; show n - (acc.length + 1) < _; omega)
      refine Wd 1 [sv (nodeNames.getD acc.length []),iv ((1 + g_28:Nat):Int)] 41 hE97 hM98 ?_
      intro be w_71 hx123 hE121 hM122
      refine ⟨trivial,?_⟩
      refine d1 1 ?_
      refine Wo [] (.load 24 (pt bp 3)) [] trivial (runs_load (v := .slice av acc.length cv) (ps := [cl w_71 bp 3 (.slice av acc.length cv)]) (by kernel_rfl) (A1 (cell_of (hM122.blk 3 rfl) rfl))) ?_
      rintro _ _ ⟨rfl,rfl⟩
      refine ⟨trivial,?_⟩
      refine d1 9 ?_
      refine Wp 2 0 1 24 ((acc ++ [nd]).length) ((acc ++ [nd]).flatMap nodeC) rfl rfl ⟨by omega,by omega⟩ (fun _ _ h => by subst hnd; simpa [nodeC] using h) hE121 hM122 ?_
      intro av2 cv2 w_72 hE124 hM125
      refine ⟨trivial,?_⟩
      refine dx0 [10] [] 1 (lb 12 2047) (trivial) ?_
      refine d1 11 ?_
      refine Wt 3 3 (.slice av2 ((acc ++ [nd]).length) cv2) rfl hE124 hM125 ?_
      intro w_73 hE127 hM128
      refine ⟨trivial,?_⟩
      refine ZD ?_
      refine Zs 6 [] [I64 ((acc.length + 1:Nat):Int)] (A1 (i64 (by omega))) ?_
      have hM129 := hM128.pickT 6 [2,3,4,5] (by kernel_rfl)
      have hfx : n - acc.length = (n - (acc.length + 1)) + 1 := by omega
      have hx : nd :: (netNodes (n - (acc.length + 1)) (acc.length + 1) l_42).1 = (netNodes (n - acc.length) acc.length L).1 ∧ (netNodes (n - (acc.length + 1)) (acc.length + 1) l_42).2 = (netNodes (n - acc.length) acc.length L).2 := by subst hnd; subst hg_29; subst hl_31; subst hg_41; subst hl_43; rw [hfx,netNodes_stepN (by omega)]; exact ⟨rfl,rfl⟩
      refine Zw 0 7 (iv ((acc.length + 1:Nat):Int)) (iv (((acc ++ [nd]).length:Nat):Int)) (by rw [show (((acc.length + 1:Nat):Int) : Int) = (((acc ++ [nd]).length:Nat):Int) from by rw [List.length_append]; rfl]) ?_
      subst hKT
      exact ZA 0 (netL1 w b0 bq bp n kk pr cp A) (acc,L,s,e,av,cv) ((acc ++ [nd]),l_42,sa_35,sc_36,av2,cv2) [2,3,4,5,6,7] (⟨hE127,hM129,hcs_38,hs_44,hks_39,by show (acc ++ [nd]).length ≤ n; rw [List.length_append]; exact hlt,by show ((acc ++ [nd]) ++ (netNodes (n - (acc ++ [nd]).length) (acc ++ [nd]).length _).1,(netNodes (n - (acc ++ [nd]).length) (acc ++ [nd]).length _).2) = A; rw [List.length_append,List.append_assoc,show [nd].length = 1 from rfl,List.singleton_append,hx.1,hx.2]; exact hacc⟩) (by show n - (acc ++ [nd]).length < n - acc.length; rw [List.length_append]; show n - (acc.length + 1) < _; omega)
     have hlen : acc.length = n := by omega
     rw [hlen,Nat.sub_self] at hacc
     have hacc2 : (acc,L) = A := by rw [← hacc]; simp [netNodes]
     have hA2 : netA raw = (acc,L) := by rw [hAeq,hacc2]
     refine Zl 4 E17 (next_any w bq L s e 10 wi hE1 hc1 hs1 (by omega) hk1 (hM1.blk 2 rfl)) ?_
     rintro _ w_74 ⟨rfl,sa_75,sc_76,hC_77,hcs_78,hks_79⟩
     have hE130 := hM1.toExt hE1 hC_77 2 rfl
     have hM131 := hM1.set 2 rfl hC_77
     have hv_80 := nextV_lt L (n := 10) (by omega)
     obtain ⟨many,hmany⟩ : ∃ k,nextV L 10 = k := ⟨_,rfl⟩
     have hmanyl : many < 10 := by rw [← hmany]; exact nextV_lt _ (by omega)
     refine Zw 5 9 (iv ((nextV L 10:Nat):Int)) (iv (many:Int)) (by rw [hmany]) ?_
     refine Z0 0 (.alloc 52) (runs_alloc (z := zero49) (by kernel_rfl)) ?_
     rintro _ w_81 ⟨bu,rfl,hN_82⟩
     rw [zero49_cells] at hN_82
     have hE_83 := hE130.trans hN_82.ext
     have hM_84 : Hold w_81 w.heap.size [.blk bu (usedC []) 52,.row (.slice av acc.length cv) 41 2 acc.length (acc.flatMap nodeC),.blk bp ([iv pr,iv (cp:Int),iv 0,.slice av acc.length cv,.slice none 0 0,.slice none 0 0,.slice none 0 0]) 29,.blk bq ([.slice sa_75 ((L.drop 1).length) sc_76]) 46,.blk b0 ([iv 0,iv 0,iv 0,.slice none 0 0,.slice none 0 0,.slice none 0 0,.slice none 0 0]) 29] := hM131.new hN_82
     refine Z0 0 (.store 52 (pt bu 0) (zero49)) ((runs_store (s := 49) (v := zero49) (cs := usedC []) (by kernel_rfl) (hM_84.blk 0 rfl) rfl (by rw [usedC_len]; decide) zero49_one).mono (Ψ := fun _ w' => Chg w_81 w' bu (.cells (usedC []).toArray 52 (0,0))) fun _ _ h => by rw [zero49_set] at h; exact h) ?_
     rintro _ w_85 hC_86
     have hE132 := hM_84.toExt hE_83 hC_86 0 rfl
     have hM133 := hM_84.set 0 rfl hC_86
     have hM134 := hM133.nilRow (e := 43) (size := 3)
     obtain ⟨R,hR⟩ : ∃ R,netLinks many 0 n (L.drop 1) [] = R := ⟨_,rfl⟩
     have hBeq : netB raw = R := by unfold netB; rw [hA2,hn]; show netLinks (nextV L 10) 0 n (L.drop 1) [] = R; rw [hmany]; exact hR
     refine Zs 7 [] [] trivial ?_
     refine ZLoop (netL2 w b0 bq bp bu n kk many pr cp acc av cv R) (k' := (kEnd Y6 (ro1 10 [0,1,0]) [])) (body := (cAt Y6 (ro1 10 [0,1,0,0]))) (by kernel_rfl) ([],0,L.drop 1,sa_75,sc_76,none,0) [2,3,4,5,6,9,10,11] (by kernel_rfl) (⟨hE132,hM134,hcs_78,hs1.drop 1,hks_79,Nat.zero_le _,hR,⟨by simp,by simp [linkKeys]⟩,Nat.le_refl _⟩) ?_
     rintro ⟨la,li,ll,ls,le,lv,lc⟩ wj ⟨hE2,hM2,hc2,hs2,hk2,hli,hR2,hok,hlal⟩
     simp only at hE2 hM2 hc2 hs2 hk2 hli hR2 hok hlal
     show H _ _ _ _ (kAt (cAt Y6 (ro1 10 [0,1,0,0])) [] (.inv (LI 227 [] (netL2 w b0 bq bp bu n kk many pr cp acc av cv R) (la,li,ll,ls,le,lv,lc)) :: (kEnd Y6 (ro1 10 [0,1,0]) []))) (stz [(2,pt b0 0),(3,pt bq 0),(4,pt bp 0),(5,iv (kk:Int)),(6,iv (n:Int)),(9,iv (many:Int)),(10,pt bu 0),(11,iv (li:Int))]) wj
     refine Zq 7 ((li:Int) < (many:Int)) (fun h1 => ?_) (fun h1 => ?_)
     ·generalize hKT : ((.inv (LI 227 [] (netL2 w b0 bq bp bu n kk many pr cp acc av cv R) (la,li,ll,ls,le,lv,lc)) :: (kEnd Y6 (ro1 10 [0,1,0]) [])) : List Fr) = KT
      have hlt : li < many := by omega
      have hfx : many - li = (many - (li + 1)) + 1 := by omega
      rw [hfx] at hR2
      have rest3 : ∀ (wy : World) (a0 b1 : Nat) (l3 : List Int) (s3 : Option Addr) (e3 : Nat),linkPair n li ll = (a0,b1,l3) → Ext w wy → Hold wy w.heap.size [.row (.slice lv la.length lc) 43 3 la.length (la.flatMap linkC),.blk bu (usedC la) 52,.row (.slice av acc.length cv) 41 2 acc.length (acc.flatMap nodeC),.blk bp ([iv pr,iv (cp:Int),iv 0,.slice av acc.length cv,.slice lv la.length lc,.slice none 0 0,.slice none 0 0]) 29,.blk bq ([.slice s3 l3.length e3]) 46,.blk b0 ([iv 0,iv 0,iv 0,.slice none 0 0,.slice none 0 0,.slice none 0 0,.slice none 0 0]) 29] → Cells w s3 (l3.flatMap intCells) → Small l3 → l3.length ≤ e3 → H Tryz.prog 227 [] (bodyPost Tryz.prog Tryz.f6 (Ret fun v w' => ∃ q : PAd,v = .agg #[.int .i64 (netP raw).proto,.int .i64 (netP raw).cap,.int .i64 (netP raw).k,.slice q.a1 (netP raw).nodes.length q.c1,.slice q.a2 (netP raw).links.length q.c2,.slice q.a3 (netP raw).dests.length q.c3,.slice q.a4 (netP raw).checks.length q.c4] ∧ Ext w w' ∧ NetAt w' w.heap.size (netP raw) q)) (kAt (cAt Y6 (ro1 10 [0,1,0,0])) [1,0,0,1,1,1] KT) (stz [(2,pt b0 0),(3,pt bq 0),(4,pt bp 0),(5,iv (kk:Int)),(6,iv (n:Int)),(9,iv (many:Int)),(10,pt bu 0),(11,iv (li:Int)),(12,iv (a0:Int)),(13,iv (b1:Int))]) wy := by
        intro wy a0 b1 l3 s3 e3 hq3 hE3 hM3 hc3 hs3 hk3
        have hlp := linkPair_lt (n := n) (by omega) li ll
        rw [hq3] at hlp
        simp only at hlp
        refine Zq 7 ((b1:Int) < (a0:Int)) (fun hsw => ?_) (fun hsw => ?_)
        ·have hL := netLink1_eq (acc := la) hq3 (if_pos (by omega)) (if_pos (by omega))
         by_cases hab : (b1:Int) = (a0:Int)
         ·have kf137 : (!(decide ((b1:Int) = (a0:Int)))) = false := by rw [show (decide ((b1:Int) = (a0:Int))) = true from decide_eq_true hab]; first | done | rfl
          refine Zi 29 [.sg 0,.sg 0,.sg 0,.sg 0,.sg 0,.sg 0,.sg 0,.p (fun _ => (!(decide ((b1:Int) = (a0:Int)))) = false),.sf,.p (fun _ => I64 ((li + 1:Nat):Int))] [(!(decide ((b1:Int) = (a0:Int)))) = (!true)] (A1 kf137) [] (AC kf137 (A1 (i64 (by omega)))) ?_
          rw [if_neg (fun h => h.1 (by omega))] at hL
          subst hKT
          exact ZA 0 (netL2 w b0 bq bp bu n kk many pr cp acc av cv R) (la,li,ll,ls,le,lv,lc) (la,li + 1,l3,s3,e3,lv,lc) [2,3,4,5,6,9,10,11] (⟨hE3,hM3,hc3,hs3,hk3,by show li + 1 ≤ many; omega,netLinks_step hR2 hL,hok,by show la.length ≤ li + 1; omega⟩) (show many - (li + 1) < many - li by omega)
         have habl : b1 < a0 ∧ a0 < n := by omega
         have huc := used_cell (hM3.blk 1 rfl) hok habl.1 habl.2 (by omega)
         have kf138 : (!(decide ((b1:Int) = (a0:Int)))) = true := by rw [show (decide ((b1:Int) = (a0:Int))) = false from decide_eq_false hab]; first | done | rfl
         refine Zi 21 [.xg 0,.xg 0,.p (fun _ => I64 ((7 * b1:Nat):Int)),.xg 0,.xg 0,.p (fun _ => I64 ((7 * b1 + a0:Nat):Int)),.xg 0,.p (fun _ => (0 ≤ ((7 * b1 + a0:Nat):Int) ∧ ((7 * b1 + a0:Nat):Int) < (49 : Int))),.xg 0,.p (fun _ => wy.cell? ⟨bu,0 + (7 * b1 + a0) * 1,none⟩ = some (.bool (usedB la b1 a0))),.v (.bool (usedB la b1 a0)),.xg 0] [(!(decide ((b1:Int) = (a0:Int)))) = true] (A1 kf138) [] (AC (i64 (by omega)) (AC (i64 (by omega)) (AC (by omega) (A1 huc)))) ?_
         by_cases hus : (usedB la b1 a0) = true
         ·refine Zw 0 106 (.bool ((!(decide ((b1:Int) = (a0:Int)))) && (!(usedB la b1 a0)))) (.bool ((!(decide ((b1:Int) = (a0:Int)))) && (!true))) (by rw [show (usedB la b1 a0) = true from hus] <;> rfl) ?_
          have kf139 : ((!(decide ((b1:Int) = (a0:Int)))) && (!true)) = false := by rw [show (!(decide ((b1:Int) = (a0:Int)))) = true from kf138,show (!true) = false from rfl]; first | done | rfl
          refine Zs 8 [.skip] [((!(decide ((b1:Int) = (a0:Int)))) && (!true)) = false,I64 ((li + 1:Nat):Int)] (AC kf139 (A1 (i64 (by omega)))) ?_
          rw [if_neg (fun h => by rw [hus] at h; exact absurd h.2 (by simp))] at hL
          subst hKT
          exact ZA 0 (netL2 w b0 bq bp bu n kk many pr cp acc av cv R) (la,li,ll,ls,le,lv,lc) (la,li + 1,l3,s3,e3,lv,lc) [2,3,4,5,6,9,10,11] (⟨hE3,hM3,hc3,hs3,hk3,by show li + 1 ≤ many; omega,netLinks_step hR2 hL,hok,by show la.length ≤ li + 1; omega⟩) (show many - (li + 1) < many - li by omega)
         refine Zw 0 106 (.bool ((!(decide ((b1:Int) = (a0:Int)))) && (!(usedB la b1 a0)))) (.bool ((!(decide ((b1:Int) = (a0:Int)))) && (!false))) (by rw [show (usedB la b1 a0) = false from Bool.eq_false_iff.2 hus] <;> rfl) ?_
         have hmod := Nat.mod_le (nextV l3 15) (1 + nextV (l3.drop 1) 15)
         have hmod2 := nextV_lt l3 (n := 15) (by omega)
         have kf140 : ((!(decide ((b1:Int) = (a0:Int)))) && (!false)) = true := by rw [show (!(decide ((b1:Int) = (a0:Int)))) = true from kf138,show (!false) = true from rfl]; first | done | rfl
         refine Zs 8 [.exec] [((!(decide ((b1:Int) = (a0:Int)))) && (!false)) = true,I64 ((7 * b1:Nat):Int),I64 ((7 * b1 + a0:Nat):Int),(0 ≤ ((7 * b1 + a0:Nat):Int) ∧ ((7 * b1 + a0:Nat):Int) < (49 : Int))] (AC kf140 (AC (i64 (by omega)) (AC (i64 (by omega)) (A1 (by omega))))) ?_
         refine Z0 0 (.store 4 (pt bu (0 + (7 * b1 + a0) * 1)) (.bool true)) ((runs_store (s := 1) (cs := (usedC la)) (by kernel_rfl) (hM3.blk 1 rfl) rfl (by rw [usedC_len]; omega) (by simp [Value.cells,Value.oneCell'])).mono (Ψ := fun _ w' => Chg wy w' bu (.cells (setAt (usedC la) (0 + (7 * b1 + a0) * 1) [.bool true]).toArray _ (0,0))) fun _ _ h => h) ?_
         rintro _ w_94 hC141
         have hE142 := hM3.toExt hE3 hC141 1 rfl
         have hM143 := hM3.set 1 rfl hC141
         obtain ⟨lk,hlk⟩ : ∃ x,(⟨(b1:Int),(a0:Int),((1 + nextV l3 15 % (1 + nextV (l3.drop 1) 15):Nat):Int)⟩ : PLink) = x := ⟨_,rfl⟩
         have hM_95 : Hold w_94 w.heap.size [.row (.slice lv la.length lc) 43 3 la.length (la.flatMap linkC),.blk bu (usedC (la ++ [lk])) 52,.row (.slice av acc.length cv) 41 2 acc.length (acc.flatMap nodeC),.blk bp ([iv pr,iv (cp:Int),iv 0,.slice av acc.length cv,.slice lv la.length lc,.slice none 0 0,.slice none 0 0]) 29,.blk bq ([.slice s3 l3.length e3]) 46,.blk b0 ([iv 0,iv 0,iv 0,.slice none 0 0,.slice none 0 0,.slice none 0 0,.slice none 0 0]) 29] := by subst hlk; rw [← used_set (n := n) habl.1 habl.2 (by omega)]; exact hM143
         refine Zs 1 [] [] trivial ?_
         refine ZB 16 (Fr.blk 3 :: (kAt (cAt Y6 (ro1 10 [0,1,0,0])) [1,1] KT)) 31 (opsAt (cAt (cAt Y6 (ro1 10 [0,1,0,0])) [1,0,0,1,1,1,1,1,0,1])) (fun _ _ => True) ?_
         intro w144 hx145
         obtain ⟨hE146,hM147⟩ := Xt hE142 hM_95 hx145
         refine dx0 [0,2,3,4,6] [] 11 (lb 16 93) (trivial) ?_
         refine dAll 1 [5] (by kernel_rfl) ?_
         refine ⟨?_,?_⟩
         ·refine Wo [] (.load 25 (pt bp 4)) [] trivial (runs_load (v := .slice lv la.length lc) (ps := [cl w144 bp 4 (.slice lv la.length lc)]) (by kernel_rfl) (A1 (cell_of (hM147.blk 3 rfl) rfl))) ?_
          rintro _ _ ⟨rfl,rfl⟩
          refine ⟨trivial,?_⟩
          refine d1 5 ?_
          refine Wl E17 (next_any w bq l3 s3 e3 15 w144 hE146 hc3 hs3 (by omega) hk3 (hM147.blk 4 rfl)) ?_
          rintro _ w_96 ⟨rfl,sa_97,sc_98,hC_99,hcs_100,hks_101⟩
          have hE148 := hM147.toExt hE146 hC_99 4 rfl
          have hM149 := hM147.set 4 rfl hC_99
          have hv_102 := nextV_lt l3 (n := 15) (by omega)
          refine ⟨trivial,?_⟩
          refine d1 7 ?_
          refine Wl E17 (next_any w bq (l3.drop 1) sa_97 sc_98 15 w_96 hE148 hcs_100 (hs3.drop 1) (by omega) hks_101 (hM149.blk 4 rfl)) ?_
          rintro _ w_103 ⟨rfl,sa_104,sc_105,hC_106,hcs_107,hks_108⟩
          have hE150 := hM149.toExt hE148 hC_106 4 rfl
          have hM151 := hM149.set 4 rfl hC_106
          have hv_109 := nextV_lt (l3.drop 1) (n := 15) (by omega)
          refine ⟨trivial,?_⟩
          refine dx [8,9,10,11] [] 4 (lb 16 4095) (fun w' => [I64 ((1 + (nextV (l3.drop 1) 15):Nat):Int),(0 ≤ ((nextV l3 15:Nat):Int) ∧ 0 < ((1 + (nextV (l3.drop 1) 15):Nat):Int)),I64 ((1 + ((nextV l3 15) % (1 + (nextV (l3.drop 1) 15))):Nat):Int)]) (fun w' hS => (AC (i64 (by omega)) (AC (by omega) (A1 (i64 (by omega)))))) (trivial) ?_
          refine d1 12 ?_
          refine Wd 1 [iv (b1:Int),iv (a0:Int),iv ((1 + ((nextV l3 15) % (1 + (nextV (l3.drop 1) 15))):Nat):Int)] 43 hE150 hM151 ?_
          intro be w_110 hx155 hE153 hM154
          refine ⟨trivial,?_⟩
          refine d1 13 ?_
          refine Wp 1 0 1 24 ((la ++ [lk]).length) ((la ++ [lk]).flatMap linkC) rfl rfl ⟨by omega,by omega⟩ (fun _ _ h => by subst hlk; simpa [linkC] using h) hE153 hM154 ?_
          intro lv2 lc2 w_111 hE156 hM157
          refine ⟨trivial,?_⟩
          refine dx0 [14] [] 1 (lb 16 32767) (trivial) ?_
          refine d1 15 ?_
          refine Wt 4 4 (.slice lv2 ((la ++ [lk]).length) lc2) rfl hE156 hM157 ?_
          intro w_112 hE159 hM160
          refine ⟨trivial,?_⟩
          refine ZD ?_
          refine Zs 6 [] [I64 ((li + 1:Nat):Int)] (A1 (i64 (by omega))) ?_
          have hM161 := hM160.pickT 7 [1,2,3,4,5,6] (by kernel_rfl)
          rw [if_pos ⟨by omega,Bool.eq_false_iff.2 hus⟩,hlk] at hL
          have hok2 := netLink1_ok (n := n) (by omega) li ll hok
          rw [hL] at hok2
          subst hKT
          exact ZA 0 (netL2 w b0 bq bp bu n kk many pr cp acc av cv R) (la,li,ll,ls,le,lv,lc) ((la ++ [lk]),li + 1,(l3.drop 1).drop 1,sa_104,sc_105,lv2,lc2) [2,3,4,5,6,9,10,11] (⟨hE159,hM161,hcs_107,(hs3.drop 1).drop 1,hks_108,by show li + 1 ≤ many; omega,netLinks_step hR2 hL,hok2,by show (la ++ [lk]).length ≤ li + 1; rw [List.length_append]; show la.length + 1 ≤ _; omega⟩) (show many - (li + 1) < many - li by omega)
         refine Wl E17 (next_any w bq l3 s3 e3 15 w144 hE146 hc3 hs3 (by omega) hk3 (hM147.blk 4 rfl)) ?_
         rintro _ w_113 ⟨rfl,sa_114,sc_115,hC_116,hcs_117,hks_118⟩
         have hE162 := hM147.toExt hE146 hC_116 4 rfl
         have hM163 := hM147.set 4 rfl hC_116
         have hv_119 := nextV_lt l3 (n := 15) (by omega)
         refine ⟨trivial,?_⟩
         refine dAll 1 [7] (by kernel_rfl) ?_
         refine ⟨?_,?_⟩
         ·refine Wo [] (.load 25 (pt bp 4)) [] trivial (runs_load (v := .slice lv la.length lc) (ps := [cl w_113 bp 4 (.slice lv la.length lc)]) (by kernel_rfl) (A1 (cell_of (hM163.blk 3 rfl) rfl))) ?_
          rintro _ _ ⟨rfl,rfl⟩
          refine ⟨trivial,?_⟩
          refine d1 7 ?_
          refine Wl E17 (next_any w bq (l3.drop 1) sa_114 sc_115 15 w_113 hE162 hcs_117 (hs3.drop 1) (by omega) hks_118 (hM163.blk 4 rfl)) ?_
          rintro _ w_120 ⟨rfl,sa_121,sc_122,hC_123,hcs_124,hks_125⟩
          have hE164 := hM163.toExt hE162 hC_123 4 rfl
          have hM165 := hM163.set 4 rfl hC_123
          have hv_126 := nextV_lt (l3.drop 1) (n := 15) (by omega)
          refine ⟨trivial,?_⟩
          refine dx [8,9,10,11] [] 4 (lb 16 4095) (fun w' => [I64 ((1 + (nextV (l3.drop 1) 15):Nat):Int),(0 ≤ ((nextV l3 15:Nat):Int) ∧ 0 < ((1 + (nextV (l3.drop 1) 15):Nat):Int)),I64 ((1 + ((nextV l3 15) % (1 + (nextV (l3.drop 1) 15))):Nat):Int)]) (fun w' hS => (AC (i64 (by omega)) (AC (by omega) (A1 (i64 (by omega)))))) (trivial) ?_
          refine d1 12 ?_
          refine Wd 1 [iv (b1:Int),iv (a0:Int),iv ((1 + ((nextV l3 15) % (1 + (nextV (l3.drop 1) 15))):Nat):Int)] 43 hE164 hM165 ?_
          intro be w_127 hx169 hE167 hM168
          refine ⟨trivial,?_⟩
          refine d1 13 ?_
          refine Wp 1 0 1 24 ((la ++ [lk]).length) ((la ++ [lk]).flatMap linkC) rfl rfl ⟨by omega,by omega⟩ (fun _ _ h => by subst hlk; simpa [linkC] using h) hE167 hM168 ?_
          intro lv2 lc2 w_128 hE170 hM171
          refine ⟨trivial,?_⟩
          refine dx0 [14] [] 1 (lb 16 32767) (trivial) ?_
          refine d1 15 ?_
          refine Wt 4 4 (.slice lv2 ((la ++ [lk]).length) lc2) rfl hE170 hM171 ?_
          intro w_129 hE173 hM174
          refine ⟨trivial,?_⟩
          refine ZD ?_
          refine Zs 6 [] [I64 ((li + 1:Nat):Int)] (A1 (i64 (by omega))) ?_
          have hM175 := hM174.pickT 7 [1,2,3,4,5,6] (by kernel_rfl)
          rw [if_pos ⟨by omega,Bool.eq_false_iff.2 hus⟩,hlk] at hL
          have hok2 := netLink1_ok (n := n) (by omega) li ll hok
          rw [hL] at hok2
          subst hKT
          exact ZA 0 (netL2 w b0 bq bp bu n kk many pr cp acc av cv R) (la,li,ll,ls,le,lv,lc) ((la ++ [lk]),li + 1,(l3.drop 1).drop 1,sa_121,sc_122,lv2,lc2) [2,3,4,5,6,9,10,11] (⟨hE173,hM175,hcs_124,(hs3.drop 1).drop 1,hks_125,by show li + 1 ≤ many; omega,netLinks_step hR2 hL,hok2,by show (la ++ [lk]).length ≤ li + 1; rw [List.length_append]; show la.length + 1 ≤ _; omega⟩) (show many - (li + 1) < many - li by omega)
         refine Wl E17 (next_any w bq (l3.drop 1) sa_114 sc_115 15 w_113 hE162 hcs_117 (hs3.drop 1) (by omega) hks_118 (hM163.blk 4 rfl)) ?_
         rintro _ w_130 ⟨rfl,sa_131,sc_132,hC_133,hcs_134,hks_135⟩
         have hE176 := hM163.toExt hE162 hC_133 4 rfl
         have hM177 := hM163.set 4 rfl hC_133
         have hv_136 := nextV_lt (l3.drop 1) (n := 15) (by omega)
         refine ⟨trivial,?_⟩
         refine dx [8,9,10,11] [] 5 (lb 16 4093) (fun w' => [I64 ((1 + (nextV (l3.drop 1) 15):Nat):Int),(0 ≤ ((nextV l3 15:Nat):Int) ∧ 0 < ((1 + (nextV (l3.drop 1) 15):Nat):Int)),I64 ((1 + ((nextV l3 15) % (1 + (nextV (l3.drop 1) 15))):Nat):Int)]) (fun w' hS => (AC (i64 (by omega)) (AC (by omega) (A1 (i64 (by omega)))))) (trivial) ?_
         refine dAll 1 [12] (by kernel_rfl) ?_
         refine ⟨?_,?_⟩
         ·refine Wo [] (.load 25 (pt bp 4)) [] trivial (runs_load (v := .slice lv la.length lc) (ps := [cl w_130 bp 4 (.slice lv la.length lc)]) (by kernel_rfl) (A1 (cell_of (hM177.blk 3 rfl) rfl))) ?_
          rintro _ _ ⟨rfl,rfl⟩
          refine ⟨trivial,?_⟩
          refine d1 12 ?_
          refine Wd 1 [iv (b1:Int),iv (a0:Int),iv ((1 + ((nextV l3 15) % (1 + (nextV (l3.drop 1) 15))):Nat):Int)] 43 hE176 hM177 ?_
          intro be w_137 hx181 hE179 hM180
          refine ⟨trivial,?_⟩
          refine d1 13 ?_
          refine Wp 1 0 1 24 ((la ++ [lk]).length) ((la ++ [lk]).flatMap linkC) rfl rfl ⟨by omega,by omega⟩ (fun _ _ h => by subst hlk; simpa [linkC] using h) hE179 hM180 ?_
          intro lv2 lc2 w_138 hE182 hM183
          refine ⟨trivial,?_⟩
          refine dx0 [14] [] 1 (lb 16 32767) (trivial) ?_
          refine d1 15 ?_
          refine Wt 4 4 (.slice lv2 ((la ++ [lk]).length) lc2) rfl hE182 hM183 ?_
          intro w_139 hE185 hM186
          refine ⟨trivial,?_⟩
          refine ZD ?_
          refine Zs 6 [] [I64 ((li + 1:Nat):Int)] (A1 (i64 (by omega))) ?_
          have hM187 := hM186.pickT 7 [1,2,3,4,5,6] (by kernel_rfl)
          rw [if_pos ⟨by omega,Bool.eq_false_iff.2 hus⟩,hlk] at hL
          have hok2 := netLink1_ok (n := n) (by omega) li ll hok
          rw [hL] at hok2
          subst hKT
          exact ZA 0 (netL2 w b0 bq bp bu n kk many pr cp acc av cv R) (la,li,ll,ls,le,lv,lc) ((la ++ [lk]),li + 1,(l3.drop 1).drop 1,sa_131,sc_132,lv2,lc2) [2,3,4,5,6,9,10,11] (⟨hE185,hM187,hcs_134,(hs3.drop 1).drop 1,hks_135,by show li + 1 ≤ many; omega,netLinks_step hR2 hL,hok2,by show (la ++ [lk]).length ≤ li + 1; rw [List.length_append]; show la.length + 1 ≤ _; omega⟩) (show many - (li + 1) < many - li by omega)
         refine Wd 1 [iv (b1:Int),iv (a0:Int),iv ((1 + ((nextV l3 15) % (1 + (nextV (l3.drop 1) 15))):Nat):Int)] 43 hE176 hM177 ?_
         intro be w_140 hx191 hE189 hM190
         refine ⟨trivial,?_⟩
         refine d1 1 ?_
         refine Wo [] (.load 25 (pt bp 4)) [] trivial (runs_load (v := .slice lv la.length lc) (ps := [cl w_140 bp 4 (.slice lv la.length lc)]) (by kernel_rfl) (A1 (cell_of (hM190.blk 4 rfl) rfl))) ?_
         rintro _ _ ⟨rfl,rfl⟩
         refine ⟨trivial,?_⟩
         refine d1 13 ?_
         refine Wp 1 0 1 24 ((la ++ [lk]).length) ((la ++ [lk]).flatMap linkC) rfl rfl ⟨by omega,by omega⟩ (fun _ _ h => by subst hlk; simpa [linkC] using h) hE189 hM190 ?_
         intro lv2 lc2 w_141 hE192 hM193
         refine ⟨trivial,?_⟩
         refine dx0 [14] [] 1 (lb 16 32767) (trivial) ?_
         refine d1 15 ?_
         refine Wt 4 4 (.slice lv2 ((la ++ [lk]).length) lc2) rfl hE192 hM193 ?_
         intro w_142 hE195 hM196
         refine ⟨trivial,?_⟩
         refine ZD ?_
         refine Zs 6 [] [I64 ((li + 1:Nat):Int)] (A1 (i64 (by omega))) ?_
         have hM197 := hM196.pickT 7 [1,2,3,4,5,6] (by kernel_rfl)
         rw [if_pos ⟨by omega,Bool.eq_false_iff.2 hus⟩,hlk] at hL
         have hok2 := netLink1_ok (n := n) (by omega) li ll hok
         rw [hL] at hok2
         subst hKT
         exact ZA 0 (netL2 w b0 bq bp bu n kk many pr cp acc av cv R) (la,li,ll,ls,le,lv,lc) ((la ++ [lk]),li + 1,(l3.drop 1).drop 1,sa_131,sc_132,lv2,lc2) [2,3,4,5,6,9,10,11] (⟨hE195,hM197,hcs_134,(hs3.drop 1).drop 1,hks_135,by show li + 1 ≤ many; omega,netLinks_step hR2 hL,hok2,by show (la ++ [lk]).length ≤ li + 1; rw [List.length_append]; show la.length + 1 ≤ _; omega⟩) (show many - (li + 1) < many - li by omega)
        have hL := netLink1_eq (acc := la) hq3 (if_neg (by omega)) (if_neg (by omega))
        by_cases hab : (a0:Int) = (b1:Int)
        ·have kf198 : (!(decide ((a0:Int) = (b1:Int)))) = false := by rw [show (decide ((a0:Int) = (b1:Int))) = true from decide_eq_true hab]; first | done | rfl
         refine Zi 24 [.sg 0,.sg 0,.sg 0,.sg 0,.sg 0,.sg 0,.sg 0,.p (fun _ => (!(decide ((a0:Int) = (b1:Int)))) = false),.sf,.p (fun _ => I64 ((li + 1:Nat):Int))] [(!(decide ((a0:Int) = (b1:Int)))) = (!true)] (A1 kf198) [] (AC kf198 (A1 (i64 (by omega)))) ?_
         rw [if_neg (fun h => h.1 (by omega))] at hL
         subst hKT
         exact ZA 0 (netL2 w b0 bq bp bu n kk many pr cp acc av cv R) (la,li,ll,ls,le,lv,lc) (la,li + 1,l3,s3,e3,lv,lc) [2,3,4,5,6,9,10,11] (⟨hE3,hM3,hc3,hs3,hk3,by show li + 1 ≤ many; omega,netLinks_step hR2 hL,hok,by show la.length ≤ li + 1; omega⟩) (show many - (li + 1) < many - li by omega)
        have habl : a0 < b1 ∧ b1 < n := by omega
        have huc := used_cell (hM3.blk 1 rfl) hok habl.1 habl.2 (by omega)
        have kf199 : (!(decide ((a0:Int) = (b1:Int)))) = true := by rw [show (decide ((a0:Int) = (b1:Int))) = false from decide_eq_false hab]; first | done | rfl
        refine Zi 16 [.xg 0,.xg 0,.p (fun _ => I64 ((7 * a0:Nat):Int)),.xg 0,.xg 0,.p (fun _ => I64 ((7 * a0 + b1:Nat):Int)),.xg 0,.p (fun _ => (0 ≤ ((7 * a0 + b1:Nat):Int) ∧ ((7 * a0 + b1:Nat):Int) < (49 : Int))),.xg 0,.p (fun _ => wy.cell? ⟨bu,0 + (7 * a0 + b1) * 1,none⟩ = some (.bool (usedB la a0 b1))),.v (.bool (usedB la a0 b1)),.xg 0] [(!(decide ((a0:Int) = (b1:Int)))) = true] (A1 kf199) [] (AC (i64 (by omega)) (AC (i64 (by omega)) (AC (by omega) (A1 huc)))) ?_
        by_cases hus : (usedB la a0 b1) = true
        ·refine Zw 0 106 (.bool ((!(decide ((a0:Int) = (b1:Int)))) && (!(usedB la a0 b1)))) (.bool ((!(decide ((a0:Int) = (b1:Int)))) && (!true))) (by rw [show (usedB la a0 b1) = true from hus] <;> rfl) ?_
         have kf200 : ((!(decide ((a0:Int) = (b1:Int)))) && (!true)) = false := by rw [show (!(decide ((a0:Int) = (b1:Int)))) = true from kf199,show (!true) = false from rfl]; first | done | rfl
         refine Zs 8 [.skip] [((!(decide ((a0:Int) = (b1:Int)))) && (!true)) = false,I64 ((li + 1:Nat):Int)] (AC kf200 (A1 (i64 (by omega)))) ?_
         rw [if_neg (fun h => by rw [hus] at h; exact absurd h.2 (by simp))] at hL
         subst hKT
         exact ZA 0 (netL2 w b0 bq bp bu n kk many pr cp acc av cv R) (la,li,ll,ls,le,lv,lc) (la,li + 1,l3,s3,e3,lv,lc) [2,3,4,5,6,9,10,11] (⟨hE3,hM3,hc3,hs3,hk3,by show li + 1 ≤ many; omega,netLinks_step hR2 hL,hok,by show la.length ≤ li + 1; omega⟩) (show many - (li + 1) < many - li by omega)
        refine Zw 0 106 (.bool ((!(decide ((a0:Int) = (b1:Int)))) && (!(usedB la a0 b1)))) (.bool ((!(decide ((a0:Int) = (b1:Int)))) && (!false))) (by rw [show (usedB la a0 b1) = false from Bool.eq_false_iff.2 hus] <;> rfl) ?_
        have hmod := Nat.mod_le (nextV l3 15) (1 + nextV (l3.drop 1) 15)
        have hmod2 := nextV_lt l3 (n := 15) (by omega)
        have kf201 : ((!(decide ((a0:Int) = (b1:Int)))) && (!false)) = true := by rw [show (!(decide ((a0:Int) = (b1:Int)))) = true from kf199,show (!false) = true from rfl]; first | done | rfl
        refine Zs 8 [.exec] [((!(decide ((a0:Int) = (b1:Int)))) && (!false)) = true,I64 ((7 * a0:Nat):Int),I64 ((7 * a0 + b1:Nat):Int),(0 ≤ ((7 * a0 + b1:Nat):Int) ∧ ((7 * a0 + b1:Nat):Int) < (49 : Int))] (AC kf201 (AC (i64 (by omega)) (AC (i64 (by omega)) (A1 (by omega))))) ?_
        refine Z0 0 (.store 4 (pt bu (0 + (7 * a0 + b1) * 1)) (.bool true)) ((runs_store (s := 1) (cs := (usedC la)) (by kernel_rfl) (hM3.blk 1 rfl) rfl (by rw [usedC_len]; omega) (by simp [Value.cells,Value.oneCell'])).mono (Ψ := fun _ w' => Chg wy w' bu (.cells (setAt (usedC la) (0 + (7 * a0 + b1) * 1) [.bool true]).toArray _ (0,0))) fun _ _ h => h) ?_
        rintro _ w_143 hC202
        have hE203 := hM3.toExt hE3 hC202 1 rfl
        have hM204 := hM3.set 1 rfl hC202
        obtain ⟨lk,hlk⟩ : ∃ x,(⟨(a0:Int),(b1:Int),((1 + nextV l3 15 % (1 + nextV (l3.drop 1) 15):Nat):Int)⟩ : PLink) = x := ⟨_,rfl⟩
        have hM_144 : Hold w_143 w.heap.size [.row (.slice lv la.length lc) 43 3 la.length (la.flatMap linkC),.blk bu (usedC (la ++ [lk])) 52,.row (.slice av acc.length cv) 41 2 acc.length (acc.flatMap nodeC),.blk bp ([iv pr,iv (cp:Int),iv 0,.slice av acc.length cv,.slice lv la.length lc,.slice none 0 0,.slice none 0 0]) 29,.blk bq ([.slice s3 l3.length e3]) 46,.blk b0 ([iv 0,iv 0,iv 0,.slice none 0 0,.slice none 0 0,.slice none 0 0,.slice none 0 0]) 29] := by subst hlk; rw [← used_set (n := n) habl.1 habl.2 (by omega)]; exact hM204
        refine Zs 1 [] [] trivial ?_
        refine ZB 16 (Fr.blk 3 :: (kAt (cAt Y6 (ro1 10 [0,1,0,0])) [1,1] KT)) 31 (opsAt (cAt (cAt Y6 (ro1 10 [0,1,0,0])) [1,0,0,1,1,1,1,1,0,1])) (fun _ _ => True) ?_
        intro w205 hx206
        obtain ⟨hE207,hM208⟩ := Xt hE203 hM_144 hx206
        refine dx0 [0,2,3,4,6] [] 11 (lb 16 93) (trivial) ?_
        refine dAll 1 [5] (by kernel_rfl) ?_
        refine ⟨?_,?_⟩
        ·refine Wo [] (.load 25 (pt bp 4)) [] trivial (runs_load (v := .slice lv la.length lc) (ps := [cl w205 bp 4 (.slice lv la.length lc)]) (by kernel_rfl) (A1 (cell_of (hM208.blk 3 rfl) rfl))) ?_
         rintro _ _ ⟨rfl,rfl⟩
         refine ⟨trivial,?_⟩
         refine d1 5 ?_
         refine Wl E17 (next_any w bq l3 s3 e3 15 w205 hE207 hc3 hs3 (by omega) hk3 (hM208.blk 4 rfl)) ?_
         rintro _ w_145 ⟨rfl,sa_146,sc_147,hC_148,hcs_149,hks_150⟩
         have hE209 := hM208.toExt hE207 hC_148 4 rfl
         have hM210 := hM208.set 4 rfl hC_148
         have hv_151 := nextV_lt l3 (n := 15) (by omega)
         refine ⟨trivial,?_⟩
         refine d1 7 ?_
         refine Wl E17 (next_any w bq (l3.drop 1) sa_146 sc_147 15 w_145 hE209 hcs_149 (hs3.drop 1) (by omega) hks_150 (hM210.blk 4 rfl)) ?_
         rintro _ w_152 ⟨rfl,sa_153,sc_154,hC_155,hcs_156,hks_157⟩
         have hE211 := hM210.toExt hE209 hC_155 4 rfl
         have hM212 := hM210.set 4 rfl hC_155
         have hv_158 := nextV_lt (l3.drop 1) (n := 15) (by omega)
         refine ⟨trivial,?_⟩
         refine dx [8,9,10,11] [] 4 (lb 16 4095) (fun w' => [I64 ((1 + (nextV (l3.drop 1) 15):Nat):Int),(0 ≤ ((nextV l3 15:Nat):Int) ∧ 0 < ((1 + (nextV (l3.drop 1) 15):Nat):Int)),I64 ((1 + ((nextV l3 15) % (1 + (nextV (l3.drop 1) 15))):Nat):Int)]) (fun w' hS => (AC (i64 (by omega)) (AC (by omega) (A1 (i64 (by omega)))))) (trivial) ?_
         refine d1 12 ?_
         refine Wd 1 [iv (a0:Int),iv (b1:Int),iv ((1 + ((nextV l3 15) % (1 + (nextV (l3.drop 1) 15))):Nat):Int)] 43 hE211 hM212 ?_
         intro be w_159 hx216 hE214 hM215
         refine ⟨trivial,?_⟩
         refine d1 13 ?_
         refine Wp 1 0 1 24 ((la ++ [lk]).length) ((la ++ [lk]).flatMap linkC) rfl rfl ⟨by omega,by omega⟩ (fun _ _ h => by subst hlk; simpa [linkC] using h) hE214 hM215 ?_
         intro lv2 lc2 w_160 hE217 hM218
         refine ⟨trivial,?_⟩
         refine dx0 [14] [] 1 (lb 16 32767) (trivial) ?_
         refine d1 15 ?_
         refine Wt 4 4 (.slice lv2 ((la ++ [lk]).length) lc2) rfl hE217 hM218 ?_
         intro w_161 hE220 hM221
         refine ⟨trivial,?_⟩
         refine ZD ?_
         refine Zs 6 [] [I64 ((li + 1:Nat):Int)] (A1 (i64 (by omega))) ?_
         have hM222 := hM221.pickT 7 [1,2,3,4,5,6] (by kernel_rfl)
         rw [if_pos ⟨by omega,Bool.eq_false_iff.2 hus⟩,hlk] at hL
         have hok2 := netLink1_ok (n := n) (by omega) li ll hok
         rw [hL] at hok2
         subst hKT
         exact ZA 0 (netL2 w b0 bq bp bu n kk many pr cp acc av cv R) (la,li,ll,ls,le,lv,lc) ((la ++ [lk]),li + 1,(l3.drop 1).drop 1,sa_153,sc_154,lv2,lc2) [2,3,4,5,6,9,10,11] (⟨hE220,hM222,hcs_156,(hs3.drop 1).drop 1,hks_157,by show li + 1 ≤ many; omega,netLinks_step hR2 hL,hok2,by show (la ++ [lk]).length ≤ li + 1; rw [List.length_append]; show la.length + 1 ≤ _; omega⟩) (show many - (li + 1) < many - li by omega)
        refine Wl E17 (next_any w bq l3 s3 e3 15 w205 hE207 hc3 hs3 (by omega) hk3 (hM208.blk 4 rfl)) ?_
        rintro _ w_162 ⟨rfl,sa_163,sc_164,hC_165,hcs_166,hks_167⟩
        have hE223 := hM208.toExt hE207 hC_165 4 rfl
        have hM224 := hM208.set 4 rfl hC_165
        have hv_168 := nextV_lt l3 (n := 15) (by omega)
        refine ⟨trivial,?_⟩
        refine dAll 1 [7] (by kernel_rfl) ?_
        refine ⟨?_,?_⟩
        ·refine Wo [] (.load 25 (pt bp 4)) [] trivial (runs_load (v := .slice lv la.length lc) (ps := [cl w_162 bp 4 (.slice lv la.length lc)]) (by kernel_rfl) (A1 (cell_of (hM224.blk 3 rfl) rfl))) ?_
         rintro _ _ ⟨rfl,rfl⟩
         refine ⟨trivial,?_⟩
         refine d1 7 ?_
         refine Wl E17 (next_any w bq (l3.drop 1) sa_163 sc_164 15 w_162 hE223 hcs_166 (hs3.drop 1) (by omega) hks_167 (hM224.blk 4 rfl)) ?_
         rintro _ w_169 ⟨rfl,sa_170,sc_171,hC_172,hcs_173,hks_174⟩
         have hE225 := hM224.toExt hE223 hC_172 4 rfl
         have hM226 := hM224.set 4 rfl hC_172
         have hv_175 := nextV_lt (l3.drop 1) (n := 15) (by omega)
         refine ⟨trivial,?_⟩
         refine dx [8,9,10,11] [] 4 (lb 16 4095) (fun w' => [I64 ((1 + (nextV (l3.drop 1) 15):Nat):Int),(0 ≤ ((nextV l3 15:Nat):Int) ∧ 0 < ((1 + (nextV (l3.drop 1) 15):Nat):Int)),I64 ((1 + ((nextV l3 15) % (1 + (nextV (l3.drop 1) 15))):Nat):Int)]) (fun w' hS => (AC (i64 (by omega)) (AC (by omega) (A1 (i64 (by omega)))))) (trivial) ?_
         refine d1 12 ?_
         refine Wd 1 [iv (a0:Int),iv (b1:Int),iv ((1 + ((nextV l3 15) % (1 + (nextV (l3.drop 1) 15))):Nat):Int)] 43 hE225 hM226 ?_
         intro be w_176 hx230 hE228 hM229
         refine ⟨trivial,?_⟩
         refine d1 13 ?_
         refine Wp 1 0 1 24 ((la ++ [lk]).length) ((la ++ [lk]).flatMap linkC) rfl rfl ⟨by omega,by omega⟩ (fun _ _ h => by subst hlk; simpa [linkC] using h) hE228 hM229 ?_
         intro lv2 lc2 w_177 hE231 hM232
         refine ⟨trivial,?_⟩
         refine dx0 [14] [] 1 (lb 16 32767) (trivial) ?_
         refine d1 15 ?_
         refine Wt 4 4 (.slice lv2 ((la ++ [lk]).length) lc2) rfl hE231 hM232 ?_
         intro w_178 hE234 hM235
         refine ⟨trivial,?_⟩
         refine ZD ?_
         refine Zs 6 [] [I64 ((li + 1:Nat):Int)] (A1 (i64 (by omega))) ?_
         have hM236 := hM235.pickT 7 [1,2,3,4,5,6] (by kernel_rfl)
         rw [if_pos ⟨by omega,Bool.eq_false_iff.2 hus⟩,hlk] at hL
         have hok2 := netLink1_ok (n := n) (by omega) li ll hok
         rw [hL] at hok2
         subst hKT
         exact ZA 0 (netL2 w b0 bq bp bu n kk many pr cp acc av cv R) (la,li,ll,ls,le,lv,lc) ((la ++ [lk]),li + 1,(l3.drop 1).drop 1,sa_170,sc_171,lv2,lc2) [2,3,4,5,6,9,10,11] (⟨hE234,hM236,hcs_173,(hs3.drop 1).drop 1,hks_174,by show li + 1 ≤ many; omega,netLinks_step hR2 hL,hok2,by show (la ++ [lk]).length ≤ li + 1; rw [List.length_append]; show la.length + 1 ≤ _; omega⟩) (show many - (li + 1) < many - li by omega)
        refine Wl E17 (next_any w bq (l3.drop 1) sa_163 sc_164 15 w_162 hE223 hcs_166 (hs3.drop 1) (by omega) hks_167 (hM224.blk 4 rfl)) ?_
        rintro _ w_179 ⟨rfl,sa_180,sc_181,hC_182,hcs_183,hks_184⟩
        have hE237 := hM224.toExt hE223 hC_182 4 rfl
        have hM238 := hM224.set 4 rfl hC_182
        have hv_185 := nextV_lt (l3.drop 1) (n := 15) (by omega)
        refine ⟨trivial,?_⟩
        refine dx [8,9,10,11] [] 5 (lb 16 4093) (fun w' => [I64 ((1 + (nextV (l3.drop 1) 15):Nat):Int),(0 ≤ ((nextV l3 15:Nat):Int) ∧ 0 < ((1 + (nextV (l3.drop 1) 15):Nat):Int)),I64 ((1 + ((nextV l3 15) % (1 + (nextV (l3.drop 1) 15))):Nat):Int)]) (fun w' hS => (AC (i64 (by omega)) (AC (by omega) (A1 (i64 (by omega)))))) (trivial) ?_
        refine dAll 1 [12] (by kernel_rfl) ?_
        refine ⟨?_,?_⟩
        ·refine Wo [] (.load 25 (pt bp 4)) [] trivial (runs_load (v := .slice lv la.length lc) (ps := [cl w_179 bp 4 (.slice lv la.length lc)]) (by kernel_rfl) (A1 (cell_of (hM238.blk 3 rfl) rfl))) ?_
         rintro _ _ ⟨rfl,rfl⟩
         refine ⟨trivial,?_⟩
         refine d1 12 ?_
         refine Wd 1 [iv (a0:Int),iv (b1:Int),iv ((1 + ((nextV l3 15) % (1 + (nextV (l3.drop 1) 15))):Nat):Int)] 43 hE237 hM238 ?_
         intro be w_186 hx242 hE240 hM241
         refine ⟨trivial,?_⟩
         refine d1 13 ?_
         refine Wp 1 0 1 24 ((la ++ [lk]).length) ((la ++ [lk]).flatMap linkC) rfl rfl ⟨by omega,by omega⟩ (fun _ _ h => by subst hlk; simpa [linkC] using h) hE240 hM241 ?_
         intro lv2 lc2 w_187 hE243 hM244
         refine ⟨trivial,?_⟩
         refine dx0 [14] [] 1 (lb 16 32767) (trivial) ?_
         refine d1 15 ?_
         refine Wt 4 4 (.slice lv2 ((la ++ [lk]).length) lc2) rfl hE243 hM244 ?_
         intro w_188 hE246 hM247
         refine ⟨trivial,?_⟩
         refine ZD ?_
         refine Zs 6 [] [I64 ((li + 1:Nat):Int)] (A1 (i64 (by omega))) ?_
         have hM248 := hM247.pickT 7 [1,2,3,4,5,6] (by kernel_rfl)
         rw [if_pos ⟨by omega,Bool.eq_false_iff.2 hus⟩,hlk] at hL
         have hok2 := netLink1_ok (n := n) (by omega) li ll hok
         rw [hL] at hok2
         subst hKT
         exact ZA 0 (netL2 w b0 bq bp bu n kk many pr cp acc av cv R) (la,li,ll,ls,le,lv,lc) ((la ++ [lk]),li + 1,(l3.drop 1).drop 1,sa_180,sc_181,lv2,lc2) [2,3,4,5,6,9,10,11] (⟨hE246,hM248,hcs_183,(hs3.drop 1).drop 1,hks_184,by show li + 1 ≤ many; omega,netLinks_step hR2 hL,hok2,by show (la ++ [lk]).length ≤ li + 1; rw [List.length_append]; show la.length + 1 ≤ _; omega⟩) (show many - (li + 1) < many - li by omega)
        refine Wd 1 [iv (a0:Int),iv (b1:Int),iv ((1 + ((nextV l3 15) % (1 + (nextV (l3.drop 1) 15))):Nat):Int)] 43 hE237 hM238 ?_
        intro be w_189 hx252 hE250 hM251
        refine ⟨trivial,?_⟩
        refine d1 1 ?_
        refine Wo [] (.load 25 (pt bp 4)) [] trivial (runs_load (v := .slice lv la.length lc) (ps := [cl w_189 bp 4 (.slice lv la.length lc)]) (by kernel_rfl) (A1 (cell_of (hM251.blk 4 rfl) rfl))) ?_
        rintro _ _ ⟨rfl,rfl⟩
        refine ⟨trivial,?_⟩
        refine d1 13 ?_
        refine Wp 1 0 1 24 ((la ++ [lk]).length) ((la ++ [lk]).flatMap linkC) rfl rfl ⟨by omega,by omega⟩ (fun _ _ h => by subst hlk; simpa [linkC] using h) hE250 hM251 ?_
        intro lv2 lc2 w_190 hE253 hM254
        refine ⟨trivial,?_⟩
        refine dx0 [14] [] 1 (lb 16 32767) (trivial) ?_
        refine d1 15 ?_
        refine Wt 4 4 (.slice lv2 ((la ++ [lk]).length) lc2) rfl hE253 hM254 ?_
        intro w_191 hE256 hM257
        refine ⟨trivial,?_⟩
        refine ZD ?_
        refine Zs 6 [] [I64 ((li + 1:Nat):Int)] (A1 (i64 (by omega))) ?_
        have hM258 := hM257.pickT 7 [1,2,3,4,5,6] (by kernel_rfl)
        rw [if_pos ⟨by omega,Bool.eq_false_iff.2 hus⟩,hlk] at hL
        have hok2 := netLink1_ok (n := n) (by omega) li ll hok
        rw [hL] at hok2
        subst hKT
        exact ZA 0 (netL2 w b0 bq bp bu n kk many pr cp acc av cv R) (la,li,ll,ls,le,lv,lc) ((la ++ [lk]),li + 1,(l3.drop 1).drop 1,sa_180,sc_181,lv2,lc2) [2,3,4,5,6,9,10,11] (⟨hE256,hM258,hcs_183,(hs3.drop 1).drop 1,hks_184,by show li + 1 ≤ many; omega,netLinks_step hR2 hL,hok2,by show (la ++ [lk]).length ≤ li + 1; rw [List.length_append]; show la.length + 1 ≤ _; omega⟩) (show many - (li + 1) < many - li by omega)
      refine Zs 22 [.sym] [I64 ((li + 1:Nat):Int)] (A1 (i64 (by omega))) ?_
      by_cases hq : (n:Int) ≤ ((li + 1:Nat):Int)
      ·refine Zi 9 [.sg 0,.sg 0,.p (fun _ => (decide ((n:Int) ≤ ((li + 1:Nat):Int))) = true),.xt] [(decide ((n:Int) ≤ ((li + 1:Nat):Int))) = (!false)] (A1 (decide_eq_true hq)) [] (A1 (decide_eq_true hq)) ?_
       refine Zl 0 E17 (next_any w bq ll ls le n wj hE2 hc2 hs2 (by omega) hk2 (hM2.blk 4 rfl)) ?_
       rintro _ w_192 ⟨rfl,sa_193,sc_194,hC_195,hcs_196,hks_197⟩
       have hE259 := hM2.toExt hE2 hC_195 4 rfl
       have hM260 := hM2.set 4 rfl hC_195
       have hv_198 := nextV_lt ll (n := n) (by omega)
       refine Zl 5 E17 (next_any w bq (ll.drop 1) sa_193 sc_194 n w_192 hE259 hcs_196 (hs2.drop 1) (by omega) hks_197 (hM260.blk 4 rfl)) ?_
       rintro _ w_199 ⟨rfl,sa_200,sc_201,hC_202,hcs_203,hks_204⟩
       have hE261 := hM260.toExt hE259 hC_202 4 rfl
       have hM262 := hM260.set 4 rfl hC_202
       have hv_205 := nextV_lt (ll.drop 1) (n := n) (by omega)
       refine Zz 2 (kAt (cAt Y6 (ro1 10 [0,1,0,0])) [1,0,0,1,1,1] KT) [(2,pt b0 0),(3,pt bq 0),(4,pt bp 0),(5,iv (kk:Int)),(6,iv (n:Int)),(9,iv (many:Int)),(10,pt bu 0),(11,iv (li:Int)),(12,iv ((nextV ll n:Nat):Int)),(13,iv ((nextV (ll.drop 1) n:Nat):Int))] ?_
       exact rest3 w_199 (nextV ll n) (nextV (ll.drop 1) n) ((ll.drop 1).drop 1) sa_200 sc_201 (by unfold linkPair; rw [if_pos (by omega)]) hE261 hM262 hcs_203 ((hs2.drop 1).drop 1) hks_204
      refine Zo 0 [.exec] _ [(decide ((n:Int) ≤ ((li + 1:Nat):Int))) = false,(!(decide ((n:Int) ≤ ((li + 1:Nat):Int)))) = true] (AC (decide_eq_false hq) (A1 (by simp_all))) (runs_call E17 (next_any w bq ll ls le 4 wj hE2 hc2 hs2 (by omega) hk2 (hM2.blk 4 rfl))) ?_
      rintro _ w_206 ⟨rfl,sa_207,sc_208,hC_209,hcs_210,hks_211⟩
      have hE263 := hM2.toExt hE2 hC_209 4 rfl
      have hM264 := hM2.set 4 rfl hC_209
      have hv_212 := nextV_lt ll (n := 4) (by omega)
      refine Zs 3 [.exec] [(decide ((n:Int) ≤ ((li + 1:Nat):Int))) = false] (A1 (decide_eq_false hq)) ?_
      refine Zr 0 _ (((n:Int) ≤ ((li + 1:Nat):Int)) ∨ (((nextV ll 4:Nat):Int) = (0 : Int))) ((iffOr iffDec iffDec)) (fun hz => ?_) (fun hz => ?_)
      ·refine Zl 4 E17 (next_any w bq (ll.drop 1) sa_207 sc_208 n w_206 hE263 hcs_210 (hs2.drop 1) (by omega) hks_211 (hM264.blk 4 rfl)) ?_
       rintro _ w_213 ⟨rfl,sa_214,sc_215,hC_216,hcs_217,hks_218⟩
       have hE265 := hM264.toExt hE263 hC_216 4 rfl
       have hM266 := hM264.set 4 rfl hC_216
       have hv_219 := nextV_lt (ll.drop 1) (n := n) (by omega)
       refine Zl 5 E17 (next_any w bq ((ll.drop 1).drop 1) sa_214 sc_215 n w_213 hE265 hcs_217 ((hs2.drop 1).drop 1) (by omega) hks_218 (hM266.blk 4 rfl)) ?_
       rintro _ w_220 ⟨rfl,sa_221,sc_222,hC_223,hcs_224,hks_225⟩
       have hE267 := hM266.toExt hE265 hC_223 4 rfl
       have hM268 := hM266.set 4 rfl hC_223
       have hv_226 := nextV_lt ((ll.drop 1).drop 1) (n := n) (by omega)
       refine Zz 2 (kAt (cAt Y6 (ro1 10 [0,1,0,0])) [1,0,0,1,1,1] KT) [(2,pt b0 0),(3,pt bq 0),(4,pt bp 0),(5,iv (kk:Int)),(6,iv (n:Int)),(9,iv (many:Int)),(10,pt bu 0),(11,iv (li:Int)),(12,iv ((nextV (ll.drop 1) n:Nat):Int)),(13,iv ((nextV ((ll.drop 1).drop 1) n:Nat):Int))] ?_
       exact rest3 w_220 (nextV (ll.drop 1) n) (nextV ((ll.drop 1).drop 1) n) (((ll.drop 1).drop 1).drop 1) sa_221 sc_222 (by unfold linkPair; rw [if_neg (by omega),if_pos (by omega)]) hE267 hM268 hcs_224 (((hs2.drop 1).drop 1).drop 1) hks_225
      refine Zz 1 (kAt (cAt Y6 (ro1 10 [0,1,0,0])) [1,0,0,1,1,1] KT) [(2,pt b0 0),(3,pt bq 0),(4,pt bp 0),(5,iv (kk:Int)),(6,iv (n:Int)),(9,iv (many:Int)),(10,pt bu 0),(11,iv (li:Int)),(12,iv (li:Int)),(13,iv ((li + 1:Nat):Int))] ?_
      exact rest3 w_206 li (li + 1) (ll.drop 1) sa_207 sc_208 (by unfold linkPair; rw [if_neg (by omega),if_neg (by omega)]) hE263 hM264 hcs_210 (hs2.drop 1) hks_211
     have hle2 : li = many := by omega
     rw [hle2,Nat.sub_self] at hR2
     have hB2 : netB raw = (la,ll) := by rw [hBeq,← hR2]; rfl
     have hM269 := hM2.pickT 6 [0,2,3,4,5] (by kernel_rfl)
     refine Zz 1 (kAt Y6 (ro1 11 []) []) [(2,pt b0 0),(3,pt bq 0),(4,pt bp 0),(5,iv (kk:Int)),(6,iv (n:Int))] ?_
     exact net_tail raw w wj b0 bq bp n kk pr cp acc av cv la lv lc ll ls le hE2 hM269 hc2 hs2 hk2 hn hpr hcp (by rw [hl2]; exact hkk) (by rw [hA2]) hB2 hlen
   refine Zq 2 (((nextV l0 2:Nat):Int) = (1 : Int)) (fun h1 => ?_) (fun h1 => ?_)
   ·refine Zt 3 0 0 (iv 2) rfl hE15 hM16 ?_
    intro w4 hE575 hM576
    refine Zl 3 E17 (next_any w bq (l0.drop 1) sa_2 sc_3 6 w4 hE575 hcs_5 (hs0.drop 1) (by omega) hks_6 (hM576.blk 1 rfl)) ?_
    rintro _ w_561 ⟨rfl,sa_562,sc_563,hC_564,hcs_565,hks_566⟩
    have hE577 := hM576.toExt hE575 hC_564 1 rfl
    have hM578 := hM576.set 1 rfl hC_564
    have hv_567 := nextV_lt (l0.drop 1) (n := 6) (by omega)
    refine Zs 2 [] [I64 ((1 + (nextV (l0.drop 1) 6):Nat):Int)] (A1 (i64 (by omega))) ?_
    refine Zt 0 0 1 (iv ((1 + (nextV (l0.drop 1) 6):Nat):Int)) rfl hE577 hM578 ?_
    intro w5 hE580 hM581
    have hpath : netPath raw = true := by unfold netPath; rw [hl0]; exact decide_eq_true (by omega)
    refine Zz 1 (kAt Y6 (ro1 5 []) []) [(2,pt b0 0),(3,pt bq 0),(4,pt bp 0)] ?_
    exact rest2 w5 2 (1 + nextV (l0.drop 1) 6) ((l0.drop 1).drop 1) sa_562 sc_563 hE580 hM581 hcs_565 ((hs0.drop 1).drop 1) hks_566 (by rw [hpath]; rfl) (by unfold netCap; rw [hpath,hl0]; rfl) (by unfold netSrc2; rw [hpath,hl0]; rfl)
   have hpath : netPath raw = false := by unfold netPath; rw [hl0]; exact decide_eq_false (by omega)
   refine Zz 1 (kAt Y6 (ro1 5 []) []) [(2,pt b0 0),(3,pt bq 0),(4,pt bp 0)] ?_
   exact rest2 w_1 1 0 (l0.drop 1) sa_2 sc_3 hE15 hM16 hcs_5 (hs0.drop 1) hks_6 (by rw [hpath]; rfl) (by unfold netCap; rw [hpath,hl0]; rfl) (by unfold netSrc2; rw [hpath,hl0]; rfl)
 refine Zq 8 ((200 : Int) < (raw.length:Int)) (fun h0 => ?_) (fun h0 => ?_)
 ·refine Z0 2 (.slc 22 (.slice a raw.length c) none (some (iv 200)) none) (runs_slc_hi (l := 200) intCells_len Tryz.underlying22 (by kernel_rfl) hc (by omega) hcap) ?_
  rintro _ _ ⟨rfl,rfl,hc2⟩
  refine Zz 2 (kAt Y6 [1,1] []) [(0,.slice a ((raw.take 200).length) c),(2,pt b0 0)] ?_
  exact rest (raw.take 200) rfl hc2 (hs.take 200) (by rw [List.length_take]; omega)
 refine Zz 1 (kAt Y6 [1,1] []) [(0,.slice a raw.length c),(2,pt b0 0)] ?_
 exact rest raw (List.take_of_length_le (by omega)) hc hs hcap

end Go.Proofs.YtcbclephakfemaaGreatRRRDoor
