/-
  PLAN: PlanScans returns true: what is printed is scanned, and has as many stops as the network has lines.
-/
import Derived.Test.YtjhgghpeapmgdaaGreatDoorPlanL
import Derived.Test.YtjhgghpeapmgdaaGreatDoorPlanM
import Derived.Test.YtjhgghpeapmgdaaGreatDoorParStops
import Derived.Test.YtjhgghpeapmgdaaGreatDoorLexB
namespace Go.Proofs.YtjhgghpeapmgdaaGreatDoor
open Go.Bk Go.Proofs

def scansL (P : PPlan) (q : PAd) (T : List Tok) (e1 : Option Addr) (d1 : Nat) (b1 : Nat) (w w5 : World) : Lp Nat where
  S := fun i => [(3,none,.bool true),(4,none,pt b1 0),(6,none,iv (0 : Int)),(7,none,.slice e1 T.length d1),(8,none,iv (0 : Int)),(10,none,iv ((stopN T i:Nat):Int)),(11,none,iv ((i:Nat):Int))]
  J := fun i w' => Ext w w' ∧ Ext w5 w' ∧ Hold w' w.heap.size [.blk b1 ([iv P.proto,iv P.cap,iv P.k,.slice q.a1 P.nodes.length q.c1,.slice q.a2 P.links.length q.c2,.slice q.a3 P.dests.length q.c3,.slice q.a4 P.checks.length q.c4]) 29] ∧ i ≤ T.length
  M := fun i => T.length - i
set_option maxRecDepth 20000 in
theorem PlanScans_any (raw : List Int) (a : Option Addr) (c : Nat) (w : World) (hG : Glob w) (hc : Cells w a (raw.flatMap intCells)) (hs : Small raw) (hcap : raw.length ≤ c) :
    Does Tryz.prog 5 [.slice a raw.length c] w (fun v w' => v = .bool true ∧ Ext w w') := by
 refine startD (c := (bodyOf Tryz.f5)) Tryz.func5 rfl (by kernel_rfl) ?_
 show G _ 69 [] _ (kAt (bodyOf Tryz.f5) [] []) (stz [(0,.slice a raw.length c)]) w
 obtain ⟨P,hPP⟩ : ∃ P,netP raw = P := ⟨_,rfl⟩
 have hR : RightP P := hPP ▸ netP_right raw
 have hE1 : Ext w w := Ext.refl w
 have hM2 : Hold w w.heap.size [] := Hold.nil hE1.le
 refine sgz 6 [] (kOp (bodyOf Tryz.f5) [1,0] 0 []) [(0,.slice a raw.length c),(2,.bool false)] [] trivial ?_
 refine oss [] (.call 12 []) (some 12) (kOp (bodyOf Tryz.f5) [1,0] 1 []) [] trivial (runs_call E12 (awake_any w hG)) ?_
 rintro _ w0 ⟨rfl,hx0⟩
 have hE3 := hE1.trans hx0
 have hM4 := hM2.ext hx0
 refine sgz 5 [] (kOp (bodyOf Tryz.f5) [1,1,0] 1 []) [(2,.bool false),(3,.bool true),(13,.slice a raw.length c)] [] trivial ?_
 refine oss [] (.call 14 [.slice a raw.length c]) (some 14) (kOp (bodyOf Tryz.f5) [1,1,0] 2 []) [] trivial (runs_call E14 (by have h := Net_any raw a c w0 (hc.ext hE3) hs hcap; rw [hPP] at h; exact h)) ?_
 rintro _ w1 ⟨q,rfl,hx1,hN1⟩
 have hE5 := hE3.trans hx1
 have hM6 := hM4.ext hx1
 have hA := hN1.plan hR
 have hn1 := hR.n1
 have hn2 := hR.l1
 have hn3 := hR.d1
 have hn4 := hR.c1
 have hr := Ext.refl w1
 refine oss [] (.alloc 29) (some 4) (kOp (bodyOf Tryz.f5) [1,1,0] 3 []) [] trivial (runs_alloc (z := .agg #[iv (0 : Int),iv (0 : Int),iv (0 : Int),.slice none 0 0,.slice none 0 0,.slice none 0 0,.slice none 0 0]) (by kernel_rfl)) ?_
 rintro _ w2 ⟨b1,rfl,hN7⟩
 have hl10 := Nat.le_trans hr.le (Nat.le_of_eq hN7.lo.symm)
 have hE8 := hE5.trans hN7.ext
 have hM9 := hM6.new hN7
 have hv11 := Ext.trans hr hN7.ext
 refine oss [] (.store 29 (pt b1 0) (.agg #[iv P.proto,iv P.cap,iv P.k,.slice q.a1 P.nodes.length q.c1,.slice q.a2 P.links.length q.c2,.slice q.a3 P.dests.length q.c3,.slice q.a4 P.checks.length q.c4])) none (kOp (bodyOf Tryz.f5) [1,1,0] 4 []) [] trivial (runs_st (hM9.blk 0 rfl) (by kernel_rfl)) ?_
 rintro _ w3 hC12
 have hE13 := hM9.toExt hE8 hC12 0 rfl
 have hM14 := hM9.set 0 rfl hC12
 have hv15 := hC12.ext hv11 hl10
 refine sgz 4 [.ld (.agg #[iv P.proto,iv P.cap,iv P.k,.slice q.a1 P.nodes.length q.c1,.slice q.a2 P.links.length q.c2,.slice q.a3 P.dests.length q.c3,.slice q.a4 P.checks.length q.c4])] (kOp (bodyOf Tryz.f5) [1,1,1,0] 1 []) [(2,.bool false),(3,.bool true),(4,pt b1 0),(16,.agg #[iv P.proto,iv P.cap,iv P.k,.slice q.a1 P.nodes.length q.c1,.slice q.a2 P.links.length q.c2,.slice q.a3 P.dests.length q.c3,.slice q.a4 P.checks.length q.c4])] [w3.cell? ⟨b1,0,none⟩ = some (iv P.proto),w3.cell? ⟨b1,1,none⟩ = some (iv P.cap),w3.cell? ⟨b1,2,none⟩ = some (iv P.k),w3.cell? ⟨b1,3,none⟩ = some (.slice q.a1 P.nodes.length q.c1),w3.cell? ⟨b1,4,none⟩ = some (.slice q.a2 P.links.length q.c2),w3.cell? ⟨b1,5,none⟩ = some (.slice q.a3 P.dests.length q.c3),w3.cell? ⟨b1,6,none⟩ = some (.slice q.a4 P.checks.length q.c4)] (AC (cell_of (hM14.blk 0 rfl) rfl) (AC (cell_of (hM14.blk 0 rfl) rfl) (AC (cell_of (hM14.blk 0 rfl) rfl) (AC (cell_of (hM14.blk 0 rfl) rfl) (AC (cell_of (hM14.blk 0 rfl) rfl) (AC (cell_of (hM14.blk 0 rfl) rfl) (A1 (cell_of (hM14.blk 0 rfl) rfl)))))))) ?_
 refine oss [] (.call 15 [.agg #[iv P.proto,iv P.cap,iv P.k,.slice q.a1 P.nodes.length q.c1,.slice q.a2 P.links.length q.c2,.slice q.a3 P.dests.length q.c3,.slice q.a4 P.checks.length q.c4]]) (some 17) (kOp (bodyOf Tryz.f5) [1,1,1,0] 2 []) [] trivial (runs_call E15 (by have h := Print_any P q w3 (hA.ext hv15) (hG.ext hE13); rw [printB_right hR] at h; exact h)) ?_
 rintro _ w4 ⟨rfl,hx4⟩
 have hE16 := hE13.trans hx4
 have hM17 := hM14.ext hx4
 have hv18 := Ext.trans hv15 hx4
 refine sgz 9 [] (kOp (bodyOf Tryz.f5) (ro1 4 [0]) 1 []) [(2,.bool false),(3,.bool true),(4,pt b1 0),(6,iv (0 : Int)),(21,sv (printT P))] [] trivial ?_
 have hst := print_stops hR
 have htk := print_toks hR
 have htl := lexT_len (printT P)
 have hpl := print_len hR
 obtain ⟨T,hT⟩ : ∃ T,(lexT (printT P)).1 = T := ⟨_,rfl⟩
 rw [hT] at hst htl
 refine oss [] (.call 28 [sv (printT P)]) (some 22) (kOp (bodyOf Tryz.f5) (ro1 4 [0]) 2 []) [] trivial (runs_call E28 (by have h := Lex_any (printT P) w4 (hG.ext hE16); rw [htk,hT] at h; exact h)) ?_
 rintro _ w5 ⟨_,rfl,⟨e1,d1,rfl,hT1⟩,hx5⟩
 have hE19 := hE16.trans hx5
 have hM20 := hM17.ext hx5
 have hv21 := Ext.trans hv18 hx5
 have hr5 := Ext.refl w5
 refine sgz 18 [] (kAt (bodyOf Tryz.f5) (ro1 6 [0,1,0]) []) [(2,.bool false),(3,.bool true),(4,pt b1 0),(6,iv (0 : Int)),(7,.slice e1 T.length d1),(8,iv (0 : Int)),(10,iv (0 : Int)),(11,iv (0 : Int))] [] trivial ?_
 refine loopR (scansL P q T e1 d1 b1 w w5) (k' := (kEnd (bodyOf Tryz.f5) (ro1 6 [0,1,0]) [])) (body := (cAt (bodyOf Tryz.f5) (ro1 6 [0,1,0,0]))) (by kernel_rfl) 0 [3,4,6,7,8,10,11] (by kernel_rfl) (⟨hE19,hr5,hM20,Nat.zero_le _⟩) ?_
 rintro i w6 ⟨K1,K5,M6,hi⟩
 have hsl := stopN_le T i
 refine sgz 8 [] (kAt (cAt (bodyOf Tryz.f5) (ro1 6 [0,1,0,0])) [0,1] (.inv (LI 69 [] (scansL P q T e1 d1 b1 w w5) i) :: (kEnd (bodyOf Tryz.f5) (ro1 6 [0,1,0]) []))) [(3,.bool true),(4,pt b1 0),(6,iv (0 : Int)),(7,.slice e1 T.length d1),(8,iv (0 : Int)),(10,iv ((stopN T i:Nat):Int)),(11,iv ((i:Nat):Int)),(29,.bool (decide (((i:Nat):Int) < ((T.length:Nat):Int))))] [] trivial ?_
 refine brs (decide (((i:Nat):Int) < ((T.length:Nat):Int))) (kAt (cAt (bodyOf Tryz.f5) (ro1 6 [0,1,0,0])) [0,1,0] (.inv (LI 69 [] (scansL P q T e1 d1 b1 w w5) i) :: (kEnd (bodyOf Tryz.f5) (ro1 6 [0,1,0]) []))) (kAt (cAt (bodyOf Tryz.f5) (ro1 6 [0,1,0,0])) [0,1,1] (.inv (LI 69 [] (scansL P q T e1 d1 b1 w w5) i) :: (kEnd (bodyOf Tryz.f5) (ro1 6 [0,1,0]) []))) (((i:Nat):Int) < ((T.length:Nat):Int)) (iffDec) (fun h1 => ?_) (fun h1 => ?_)
 · have hi2 : i < T.length := by omega
   have ha := hT1.addrE tokCells_len (by decide) hi2
   refine sgz 12 [.ld (iv ((T.getD i d0T).kind))] (kAt (cAt (bodyOf Tryz.f5) (ro1 6 [0,1,0,0])) [1,0,0,1] (.inv (LI 69 [] (scansL P q T e1 d1 b1 w w5) i) :: (kEnd (bodyOf Tryz.f5) (ro1 6 [0,1,0]) []))) [(3,.bool true),(4,pt b1 0),(6,iv (0 : Int)),(7,.slice e1 T.length d1),(8,iv (0 : Int)),(10,iv ((stopN T i:Nat):Int)),(11,iv ((i:Nat):Int)),(37,.bool (decide ((T.getD i d0T).kind = (3 : Int))))] [(0 ≤ ((i:Nat):Int) ∧ ((i:Nat):Int) < ((T.length:Nat):Int)),(e1 : Option Addr) = some ⟨(slB e1),slO e1,none⟩,w6.cell? ⟨(slB e1),slO e1 + i * 4,none⟩ = some (iv ((T.getD i d0T).kind))] (AC (by omega) (AC (by assumption) (A1 (K5.cell (cellAt tokCells_len d0T hT1 hi2 (j := 0) rfl))))) ?_
   refine brs (decide ((T.getD i d0T).kind = (3 : Int))) (kAt (cAt (bodyOf Tryz.f5) (ro1 6 [0,1,0,0])) [1,0,0,1,0] (.inv (LI 69 [] (scansL P q T e1 d1 b1 w w5) i) :: (kEnd (bodyOf Tryz.f5) (ro1 6 [0,1,0]) []))) (kAt (cAt (bodyOf Tryz.f5) (ro1 6 [0,1,0,0])) [1,0,0,1,1] (.inv (LI 69 [] (scansL P q T e1 d1 b1 w w5) i) :: (kEnd (bodyOf Tryz.f5) (ro1 6 [0,1,0]) []))) ((T.getD i d0T).kind = (3 : Int)) (iffDec) (fun h2 => ?_) (fun h2 => ?_)
   · refine sgz 11 [] (.inv (LI 69 [] (scansL P q T e1 d1 b1 w w5) i) :: (kEnd (bodyOf Tryz.f5) (ro1 6 [0,1,0]) [])) [(3,.bool true),(4,pt b1 0),(6,iv (0 : Int)),(7,.slice e1 T.length d1),(8,iv (0 : Int)),(10,iv ((stopN T i + 1:Nat):Int)),(11,iv ((i + 1:Nat):Int))] [I64 ((stopN T i + 1:Nat):Int),I64 ((i + 1:Nat):Int)] (AC (i64 (by omega)) (A1 (i64 (by omega)))) ?_
     refine stEq (st' := (stz [(3,.bool true),(4,pt b1 0),(6,iv (0 : Int)),(7,.slice e1 T.length d1),(8,iv (0 : Int)),(10,iv ((stopN T (i + 1):Nat):Int)),(11,iv ((i + 1:Nat):Int))])) (by rw [stopN_hit hi2 h2]) ?_
     exact again (i + 1) [3,4,6,7,8,10,11] (by kernel_rfl) (⟨K1,K5,M6,by omega⟩) (show T.length - (i + 1) < T.length - i by omega)
   · refine sgz 7 [] (.inv (LI 69 [] (scansL P q T e1 d1 b1 w w5) i) :: (kEnd (bodyOf Tryz.f5) (ro1 6 [0,1,0]) [])) [(3,.bool true),(4,pt b1 0),(6,iv (0 : Int)),(7,.slice e1 T.length d1),(8,iv (0 : Int)),(10,iv ((stopN T i:Nat):Int)),(11,iv ((i + 1:Nat):Int))] [I64 ((i + 1:Nat):Int)] (A1 (i64 (by omega))) ?_
     refine stEq (st' := (stz [(3,.bool true),(4,pt b1 0),(6,iv (0 : Int)),(7,.slice e1 T.length d1),(8,iv (0 : Int)),(10,iv ((stopN T (i + 1):Nat):Int)),(11,iv ((i + 1:Nat):Int))])) (by rw [stopN_miss hi2 h2]) ?_
     exact again (i + 1) [3,4,6,7,8,10,11] (by kernel_rfl) (⟨K1,K5,M6,by omega⟩) (show T.length - (i + 1) < T.length - i by omega)
 · have hiT : i = T.length := by omega
   refine sgz 34 [.exec,.exec,.exec,.exec,.exec,.exec,.exec,.ld (.slice q.a1 P.nodes.length q.c1),.exec,.exec,.exec,.exec,.ld (.slice q.a2 P.links.length q.c2),.exec,.exec,.exec,.exec,.ld (.slice q.a3 P.dests.length q.c3),.exec,.exec,.exec,.exec,.ld (.slice q.a4 P.checks.length q.c4),.exec,.exec,.exec] (kAt (bodyOf Tryz.f5) (ro1 8 []) []) [(2,.bool (decide (((stopN T i:Nat):Int) = ((2 + P.nodes.length + P.links.length + P.dests.length + P.checks.length:Nat):Int))))] [true = true,true = true,true = true,true = true,true = true,true = true,true = true,w6.cell? ⟨b1,3,none⟩ = some (.slice q.a1 P.nodes.length q.c1),true = true,true = true,I64 ((2 + P.nodes.length:Nat):Int),true = true,true = true,w6.cell? ⟨b1,4,none⟩ = some (.slice q.a2 P.links.length q.c2),true = true,true = true,I64 ((2 + P.nodes.length + P.links.length:Nat):Int),true = true,true = true,w6.cell? ⟨b1,5,none⟩ = some (.slice q.a3 P.dests.length q.c3),true = true,true = true,I64 ((2 + P.nodes.length + P.links.length + P.dests.length:Nat):Int),true = true,true = true,w6.cell? ⟨b1,6,none⟩ = some (.slice q.a4 P.checks.length q.c4),true = true,true = true,I64 ((2 + P.nodes.length + P.links.length + P.dests.length + P.checks.length:Nat):Int),true = true] (AC rfl (AC rfl (AC rfl (AC rfl (AC rfl (AC rfl (AC rfl (AC (cell_of (M6.blk 0 rfl) rfl) (AC rfl (AC rfl (AC (i64 (by omega)) (AC rfl (AC rfl (AC (cell_of (M6.blk 0 rfl) rfl) (AC rfl (AC rfl (AC (i64 (by omega)) (AC rfl (AC rfl (AC (cell_of (M6.blk 0 rfl) rfl) (AC rfl (AC rfl (AC (i64 (by omega)) (AC rfl (AC rfl (AC (cell_of (M6.blk 0 rfl) rfl) (AC rfl (AC rfl (AC (i64 (by omega)) (A1 rfl)))))))))))))))))))))))))))))) ?_
   exact retD (hs := []) (vs := [.bool (decide (((stopN T i:Nat):Int) = ((2 + P.nodes.length + P.links.length + P.dests.length + P.checks.length:Nat):Int)))]) (ps := []) (by kernel_rfl) trivial (v := .bool (decide (((stopN T i:Nat):Int) = ((2 + P.nodes.length + P.links.length + P.dests.length + P.checks.length:Nat):Int)))) rfl (⟨by rw [hiT,hst]; simp,K1⟩)

end Go.Proofs.YtjhgghpeapmgdaaGreatDoor
