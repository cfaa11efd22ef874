/-
  PLAN: contracts of links, names, named and Right.
-/
import Derived.Test.YtcbclephakfemaaGreatRRRDoorPlanE
import Derived.Test.YtcbclephakfemaaGreatRRRDoorLz
import Derived.Test.YtcbclephakfemaaGreatRRRDoorFns
namespace Go.Proofs.YtcbclephakfemaaGreatRRRDoor
open Go.Bk Go.Proofs

theorem E31 : Proofs.Enters Tryz.prog 31 := Proofs.enters_of Tryz.func31 (by kernel_rfl) rfl

theorem E56 : Proofs.Enters Tryz.prog 56 := Proofs.enters_of Tryz.func56 (by kernel_rfl) rfl

theorem E32 : Proofs.Enters Tryz.prog 32 := Proofs.enters_of Tryz.func32 (by kernel_rfl) rfl

theorem E59 : Proofs.Enters Tryz.prog 59 := Proofs.enters_of Tryz.func59 (by kernel_rfl) rfl

theorem E9 : Proofs.Enters Tryz.prog 9 := Proofs.enters_of Tryz.func9 (by kernel_rfl) rfl

def keyV (x : Int × Int) : Value := .agg #[.int .i64 x.1,.int .i64 x.2]
theorem keyV_inj {x y : Int × Int} (h : keyV x = keyV y) : x = y := by
  cases x; cases y
  simpa [keyV] using h
theorem lit_wf {n : Int} (h : -9223372036854775808 ≤ n ∧ n ≤ 9223372036854775807) : (Lit.int .i64 n).wf = true := by
  simp only [Lit.wf,Bool.and_eq_true,decide_eq_true_eq]
  exact h
theorem pair_keyed : Maps.Keyed Tryz.prog 93 := Maps.Keyed.of_law (deep_law_laid (m := 3) (by kernel_rfl) (by decide) (Nat.le_of_ble_eq_true (by kernel_rfl)) (by kernel_rfl) (by kernel_rfl))
theorem pair_key {x : Int × Int} (h1 : -9223372036854775808 ≤ x.1 ∧ x.1 ≤ 9223372036854775807) (h2 : -9223372036854775808 ≤ x.2 ∧ x.2 ≤ 9223372036854775807) : ∃ l,keyOf Tryz.prog 93 (keyV x) = some l := by
  have hc : Tryz.prog.cellsOf 93 = 2 := by kernel_rfl
  have hc2 : Tryz.prog.cellsOf 3 = 1 := by kernel_rfl
  have hk : Tryz.prog.keyType 93 = true := by kernel_rfl
  have ht : Tryz.prog.types.size + 1 = 158 + 2 := by kernel_rfl
  have hw1 := lit_wf h1
  have hw2 := lit_wf h2
  have hL : Tryz.prog.keyLits (158 + 2) 93 [.int .i64 x.1,.int .i64 x.2] = some [.int .i64 x.1,.int .i64 x.2] := by
    unfold Program.keyLits
    rw [Tryz.underlying93]
    simp only
    rw [if_pos (by rw [hc]; rfl),hc2]
    unfold Program.keyLits
    rw [Tryz.underlying3]
    simp [hw1,hw2,List.range_succ]
  have hf : (Tryz.prog.keyType 93 && (keyV x).formed Tryz.prog 93) = true := by simp [hk,Value.formed,keyV,Tryz.underlying93,hc]
  unfold keyOf
  rw [Tryz.underlying93]
  simp only
  rw [if_pos hf,ht,show (keyV x).cells.toList = [.int .i64 x.1,.int .i64 x.2] from rfl,hL]
  exact ⟨_,rfl⟩
theorem seen_step {l : List (Int × Int)} {x : Int × Int} {ks' : List Value} (h : (keyV x ∈ (seenK l).map keyV ∧ ks' = (seenK l).map keyV) ∨ (keyV x ∉ (seenK l).map keyV ∧ ks' = (seenK l).map keyV ++ [keyV x])) : ks' = (seenK (l ++ [x])).map keyV := by
  have hm : keyV x ∈ (seenK l).map keyV ↔ x ∈ seenK l := by
    rw [List.mem_map]
    constructor
    · rintro ⟨y,hy,e⟩; rw [← keyV_inj e]; exact hy
    · intro h; exact ⟨x,h,rfl⟩
  rw [seenK_snoc]
  unfold insK
  rcases h with ⟨h1,h2⟩ | ⟨h1,h2⟩
  · rw [if_pos (hm.1 h1)]; exact h2
  · rw [if_neg (fun e => h1 (hm.2 e)),List.map_append]; exact h2
theorem linkB_range {n : Int} {x : PLink} (h : linkB n x = true) (hn : n ≤ 140737488355328) : (-9223372036854775808 ≤ x.a ∧ x.a ≤ 9223372036854775807) ∧ (-9223372036854775808 ≤ x.b ∧ x.b ≤ 9223372036854775807) := by
  simp only [linkB,Bool.and_eq_true,placeB_iff,withinB_iff] at h
  omega
theorem seen_keys {l : List PLink} {n : Int} (h : ∀ j,j < l.length → linkB n (l.getD j d0L) = true) (hn : n ≤ 140737488355328) (k : Nat) (hk : k ≤ l.length) : ∀ v ∈ (seenK (linkKeys (l.take k))).map keyV,∃ z,keyOf Tryz.prog 93 v = some z := by
  intro v hv
  obtain ⟨x,hx,rfl⟩ := List.mem_map.1 hv
  rw [seenK_mem] at hx
  obtain ⟨y,hy,rfl⟩ := List.mem_map.1 hx
  obtain ⟨j,hj,rfl⟩ := List.getElem_of_mem hy
  have h2 := h j (by simp at hj; omega)
  rw [List.getElem_take]
  rw [List.getD_eq_getElem?_getD,List.getElem?_eq_getElem (by simp at hj; omega)] at h2
  have h3 := linkB_range h2 hn
  exact pair_key h3.1 h3.2

theorem linkKeys_succ {l : List PLink} {k : Nat} (hk : k < l.length) : linkKeys (l.take (k + 1)) = linkKeys (l.take k) ++ [((l.getD k d0L).a,(l.getD k d0L).b)] := by
  rw [take_succ_getD' d0L hk]; simp [linkKeys]
theorem seen_full {l : List PLink} {k : Nat} (hk : k = l.length) : (((((seenK (linkKeys (l.take k))).map keyV).length:Nat):Int) = (l.length:Int)) ↔ (linkKeys l).Nodup := by
  subst hk
  rw [List.take_length,List.length_map,← seenK_full]
  have : (linkKeys l).length = l.length := by simp [linkKeys]
  omega
theorem seen_keys2 {l : List PLink} {n : Int} {k : Nat} (h : ∀ j,j < k → linkB n (l.getD j d0L) = true) (hk : k ≤ l.length) (hn : n ≤ 140737488355328) : ∀ v ∈ (seenK (linkKeys (l.take k))).map keyV,∃ z,keyOf Tryz.prog 93 v = some z := by
  have h2 := seen_keys (l := l.take k) (n := n) (fun j hj => by
    have hj2 : j < k := by simp at hj; omega
    rw [List.getD_eq_getElem?_getD,List.getElem?_take,if_pos hj2,← List.getD_eq_getElem?_getD]
    exact h j hj2) hn k (by simp; omega)
  rwa [List.take_take,Nat.min_self] at h2
theorem links_bad {p : PPlan} {k : Nat} (hk : k < p.links.length) (h : linkB p.nodes.length (p.links.getD k d0L) = false) : linksB p = false := by
  unfold linksB
  rw [List.all_eq_false.2 ⟨_,getD_mem' d0L hk,by simpa using h⟩]; rfl

def linksL (p : PPlan) (q : PAd) (b1 bm : Nat) (w : World) : Lp Nat where
  S := fun k => [(1,none,pt b1 0),(3,none,.map (some bm)),(8,none,.slice q.a2 p.links.length q.c2),(9,none,iv (p.links.length:Int)),(10,none,iv (k:Int))]
  J := fun k w' => Ext w w' ∧ Hold w' w.heap.size [.map bm ((seenK (linkKeys (p.links.take k))).map keyV),.blk b1 (pc p q) 29] ∧ k ≤ p.links.length ∧ ∀ j,j < k → linkB p.nodes.length (p.links.getD j d0L) = true
  M := fun k => p.links.length - k
set_option maxRecDepth 20000 in
theorem links_any (p : PPlan) (q : PAd) (w : World) (hP : PlanAt w p q) :
    Does Tryz.prog 31 [(pv p q)] w (fun v w' => v = .bool (linksB p) ∧ Ext w w') := by
 refine startZ (c := Y31) Tryz.func31 rfl (by kernel_rfl) ?_
 show H _ 55 [] _ (kAt Y31 [] []) (stz [(0,(pv p q))]) w
 have hE1 : Ext w w := Ext.refl w
 have hM2 : Hold w w.heap.size [] := Hold.nil hE1.le
 refine Zb 2 29 (pv p q) (pc p q) hE1 hM2 ?_
 intro b1 w1 hE4 hM5
 refine Z0 4 (.makeMap 91) (runs_makeMap _) ?_
 rintro _ w2 ⟨bm,rfl,hN6⟩
 have hE7 := hE4.trans hN6.ext
 have hM8 : Hold w2 w.heap.size [.map bm ([]),.blk b1 ((pc p q)) 29] := hM5.newMap hN6
 refine Zh 11 [.c 1 4] hM8 trivial ?_
 refine ZLoop (linksL p q b1 bm w) (k' := (kEnd Y31 [1,1,0,1,0] [])) (body := (cAt Y31 [1,1,0,1,0,0])) (by kernel_rfl) 0 [1,3,8,9,10] (by kernel_rfl) (⟨hE7,hM8,by omega,fun j h => by omega⟩) ?_
 rintro k w0 ⟨K1,KM,hk,hq⟩
 refine Zq 5 ((k:Int) < (p.links.length:Int)) (fun h1 => ?_) (fun h1 => ?_)
 ·have hk2 : k < p.links.length := by omega
  have ha := hP.links.addrE linkC_len (by decide) hk2
  have hn1 := hP.l1
  have hn2 := hP.l2
  refine Zs 7 [.ld (vL (p.links.getD k d0L))] [(0 ≤ (k:Int) ∧ (k:Int) < (p.links.length:Int)),(q.a2 : Option Addr) = some ⟨(slB q.a2),slO q.a2,none⟩,cl w0 (slB q.a2) (slO q.a2 + k * 3) (iv ((p.links.getD k d0L).a)),cl w0 (slB q.a2) (slO q.a2 + k * 3 + 1) (iv ((p.links.getD k d0L).b)),cl w0 (slB q.a2) (slO q.a2 + k * 3 + 2) (iv ((p.links.getD k d0L).cost))] (AC (by omega) (AC (by assumption) (AC (K1.cell (cellAt linkC_len d0L hP.links hk2 (j := 0) rfl)) (AC (K1.cell (cellAt linkC_len d0L hP.links hk2 (j := 1) rfl)) (A1 (K1.cell (cellAt linkC_len d0L hP.links hk2 (j := 2) rfl))))))) ?_
  refine Za 0 43 [iv 0,iv 0,iv 0] K1 KM ?_
  intro b5 w3 hE10 hM11
  refine Zt 0 0 0 (vL (p.links.getD k d0L)) rfl hE10 hM11 ?_
  intro w4 hE13 hM14
  refine Zh 8 [.c 0 0,.c 0 1] hM14 trivial ?_
  refine Zl 0 E53 (place_any (p.links.getD k d0L).a (p.links.getD k d0L).b w4) ?_
  rintro _ _ ⟨rfl,rfl⟩
  by_cases g1 : (placeB (p.links.getD k d0L).a (p.links.getD k d0L).b) = true
  ·refine Zw 0 18 (.bool (placeB (p.links.getD k d0L).a (p.links.getD k d0L).b)) (.bool true) (by rw [show (placeB (p.links.getD k d0L).a (p.links.getD k d0L).b) = true from g1] <;> rfl) ?_
   refine Zh 7 [.xf,.xf,.c 0 1,.xf,.xf,.c 2 3,.xf] hM14 trivial ?_
   refine Zo 0 [.exec] _ [false = false] (A1 rfl) (runs_call E53 (place_any (p.links.getD k d0L).b p.nodes.length w4)) ?_
   rintro _ _ ⟨rfl,rfl⟩
   by_cases g2 : (placeB (p.links.getD k d0L).b p.nodes.length) = true
   ·refine Zw 0 26 (.bool (placeB (p.links.getD k d0L).b p.nodes.length)) (.bool true) (by rw [show (placeB (p.links.getD k d0L).b p.nodes.length) = true from g2] <;> rfl) ?_
    refine Zh 5 [.xf,.xf,.xf,.c 0 2] hM14 trivial ?_
    refine Zo 0 [.exec] _ [false = false] (A1 rfl) (runs_call E29 (within_any (p.links.getD k d0L).cost 1 15 w4)) ?_
    rintro _ _ ⟨rfl,rfl⟩
    by_cases g3 : (withinB (p.links.getD k d0L).cost 1 15) = true
    ·refine Zw 0 32 (.bool (withinB (p.links.getD k d0L).cost 1 15)) (.bool true) (by rw [show (withinB (p.links.getD k d0L).cost 1 15) = true from g3] <;> rfl) ?_
     have hlb : linkB p.nodes.length (p.links.getD k d0L) = true := by unfold linkB; rw [g1,g2,g3]; rfl
     have hrg := linkB_range hlb (by omega)
     obtain ⟨kl,hkl⟩ := pair_key (x := ((p.links.getD k d0L).a,(p.links.getD k d0L).b)) hrg.1 hrg.2
     refine Zh 13 [.xf,.sf,.c 0 0,.c 0 1] hM14 trivial ?_
     obtain ⟨eshm15,clhm15,hm15,hk16⟩ := hM14.map 1 rfl
     refine Z0 0 (.mapUpd 91 (.map (some bm)) (.agg #[iv ((p.links.getD k d0L).a),iv ((p.links.getD k d0L).b)]) (.agg #[])) (runs_mapUpd pair_keyed Tryz.underlying91 hm15 hkl (by rw [hk16]; exact (fun v' hv' => seen_keys2 (l := p.links) (n := p.nodes.length) (k := k) hq hk (by omega) v' hv'))) ?_
     rintro _ w5 ⟨es2hm15,cl2hm15,hC17,hk18⟩
     rw [hk16] at hk18
     have hE19 := hM14.toExtMap hE13 hC17 1 rfl
     have hM20 : Hold w5 w.heap.size [.blk b5 ([iv ((p.links.getD k d0L).a),iv ((p.links.getD k d0L).b),iv ((p.links.getD k d0L).cost)]) 43,.map bm ((seenK (linkKeys (p.links.take (k + 1)))).map keyV),.blk b1 ((pc p q)) 29] := hM14.setMap 1 rfl hC17 (by rw [linkKeys_succ hk2]; exact seen_step (x := ((p.links.getD k d0L).a,(p.links.getD k d0L).b)) hk18)
     refine Zs 6 [] [I64 ((k + 1:Nat):Int)] (A1 (i64 (by omega))) ?_
     have hM21 := hM20.pickT 3 [1,2] (by kernel_rfl)
     exact ZA 0 (linksL p q b1 bm w) k (k + 1) [1,3,8,9,10] (⟨hE19,hM21,by omega,fun j hj => by by_cases e : j = k; (subst e; exact hlb); exact hq j (by omega)⟩) (show p.links.length - (k + 1) < p.links.length - k by omega)
    refine Zw 0 32 (.bool (withinB (p.links.getD k d0L).cost 1 15)) (.bool false) (by rw [show (withinB (p.links.getD k d0L).cost 1 15) = false from Bool.eq_false_iff.2 g3] <;> rfl) ?_
    refine Zi 8 [.xf,.xt] [] trivial [] trivial ?_
    exact Z1 0 (.bool false) (⟨by rw [links_bad hk2 (by unfold linkB; rw [Bool.eq_false_iff.2 g3,Bool.and_false])],hE13⟩)
   refine Zw 0 26 (.bool (placeB (p.links.getD k d0L).b p.nodes.length)) (.bool false) (by rw [show (placeB (p.links.getD k d0L).b p.nodes.length) = false from Bool.eq_false_iff.2 g2] <;> rfl) ?_
   refine Zi 14 [.xf,.st,.st,.st,.st,.xt,.g 0] [true = true] (A1 rfl) [] trivial ?_
   exact Z1 0 (.bool false) (⟨by rw [links_bad hk2 (by unfold linkB; rw [Bool.eq_false_iff.2 g2,Bool.and_false]; rfl)],hE13⟩)
  refine Zw 0 18 (.bool (placeB (p.links.getD k d0L).a (p.links.getD k d0L).b)) (.bool false) (by rw [show (placeB (p.links.getD k d0L).a (p.links.getD k d0L).b) = false from Bool.eq_false_iff.2 g1] <;> rfl) ?_
  refine Zi 22 [.st,.st,.st,.st,.st,.st,.st,.st,.st,.st,.st,.xt,.g 0,.g 0] [true = true] (A1 rfl) [] trivial ?_
  exact Z1 0 (.bool false) (⟨by rw [links_bad hk2 (by unfold linkB; rw [Bool.eq_false_iff.2 g1]; rfl)],hE13⟩)
 have hkl : k = p.links.length := by omega
 have hall : p.links.all (linkB p.nodes.length) = true := all_of_getD' d0L (fun j hj => hq j (by omega))
 refine Zh 9 [.c 1 4,.y] KM trivial ?_
 by_cases g1 : (p.links.length:Int) ≤ (16 : Int)
 ·obtain ⟨eshm22,clhm22,hm22,hk23⟩ := KM.map 0 rfl
  refine Zo 0 [.exec] (.builtin .len #[91] 3 #[false] [.map (some bm)]) [(decide ((p.links.length:Int) ≤ (16 : Int))) = true,(decide ((p.links.length:Int) ≤ (16 : Int))) = true] (AC (decide_eq_true g1) (A1 (by simp_all))) (runs_mapLen Tryz.underlying91 hm22 hk23) ?_
  rintro _ _ ⟨rfl,rfl⟩
  refine Zf 7 [.xg 0,.xg 0,.c 1 4,.xg 0,.xg 0] KM [(decide ((p.links.length:Int) ≤ (16 : Int))) = true] (A1 (decide_eq_true g1)) [] trivial ?_
  exact Z1 0 (.bool ((decide ((p.links.length:Int) ≤ (16 : Int))) && (decide (((((seenK (linkKeys (p.links.take k))).map keyV).length:Nat):Int) = (p.links.length:Int))))) (⟨by unfold linksB; rw [hall,Bool.true_and,decide_eq_true g1,Bool.true_and]; congr 1; exact decide_eq_decide.2 (seen_full hkl),K1⟩)
 refine Zi 8 [.sg 0,.sg 0,.sg 0,.sg 0,.sg 0,.p (fun _ => (decide ((p.links.length:Int) ≤ (16 : Int))) = false)] [(decide ((p.links.length:Int) ≤ (16 : Int))) = (!true)] (A1 (decide_eq_false g1)) [] (A1 (decide_eq_false g1)) ?_
 exact Z1 0 (.bool false) (⟨by unfold linksB; rw [hall,Bool.true_and,decide_eq_false g1]; rfl,K1⟩)

theorem flat_snoc {l : List Bytes} {x : Bytes} : (l ++ [x]).flatMap strC = l.flatMap strC ++ [.string (bs x)] := by simp [strC]
theorem namesN_succ {l : List PNode} {k : Nat} (hk : k < l.length) : (l.take (k + 1)).map (·.name) = (l.take k).map (·.name) ++ [(l.getD k d0N).name] := by rw [take_succ_getD' d0N hk]; simp
theorem namesD_succ {l : List DA} {k : Nat} (hk : k < l.length) : (l.take (k + 1)).map (·.d.name) = (l.take k).map (·.d.name) ++ [(l.getD k d0A).d.name] := by rw [take_succ_getD' d0A hk]; simp
theorem row_form {w : World} {B : Nat} {e : TypeId} {size n : Nat} {v : Value} {xs : List Value} (h : w.ownsRow B e size v n xs) (hn : 0 < n) : ∃ g c,v = .slice (some ⟨g,0,none⟩) n c ∧ n ≤ c := by
  rcases h.2 with ⟨_,h0⟩ | ⟨g,cap,cur,hv,_,_,hc,_⟩
  · omega
  · exact ⟨g,cap,hv,hc⟩
theorem namesL_ds {p : PPlan} {q : PAd} (h : q.ds.map (·.d) = p.dests) : p.nodes.map (·.name) ++ q.ds.map (·.d.name) = namesL p := by
  unfold namesL
  rw [← h,List.map_map]; rfl

def namesL1 (p : PPlan) (q : PAd) (b1 : Nat) (w : World) : Lp (Value × Nat) where
  S := fun x => [(1,none,pt b1 0),(2,none,x.1),(8,none,.slice q.a1 p.nodes.length q.c1),(9,none,iv (p.nodes.length:Int)),(10,none,iv (x.2:Int))]
  J := fun x w' => Ext w w' ∧ Hold w' w.heap.size [.row x.1 9 1 ((p.nodes.take x.2).map (·.name)).length (((p.nodes.take x.2).map (·.name)).flatMap strC),.blk b1 (pc p q) 29] ∧ x.2 ≤ p.nodes.length
  M := fun x => p.nodes.length - x.2
def namesL2 (p : PPlan) (q : PAd) (b1 : Nat) (w : World) : Lp (Value × Nat) where
  S := fun x => [(2,none,x.1),(21,none,.slice q.a3 q.ds.length q.c3),(22,none,iv (q.ds.length:Int)),(23,none,iv (x.2:Int))]
  J := fun x w' => Ext w w' ∧ Hold w' w.heap.size [.row x.1 9 1 (p.nodes.map (·.name) ++ (q.ds.take x.2).map (·.d.name)).length ((p.nodes.map (·.name) ++ (q.ds.take x.2).map (·.d.name)).flatMap strC),.blk b1 (pc p q) 29] ∧ x.2 ≤ q.ds.length
  M := fun x => q.ds.length - x.2
set_option maxRecDepth 20000 in
theorem names_any (p : PPlan) (q : PAd) (w : World) (hP : PlanAt w p q) (hn : 1 ≤ p.nodes.length) (hn2 : p.nodes.length ≤ 12) (hd : p.dests.length ≤ 4) :
    Does Tryz.prog 56 [(pv p q)] w (fun v w' => ∃ g c,v = .slice (some ⟨g,0,none⟩) (namesL p).length c ∧ Ext w w' ∧ w'.ownsRow w.heap.size 9 1 v (namesL p).length ((namesL p).flatMap strC)) := by
 refine startZ (c := Y56) Tryz.func56 rfl (by kernel_rfl) ?_
 show H _ 33 [] _ (kAt Y56 [] []) (stz [(0,(pv p q))]) w
 have hq := hP.dlen
 have hE1 : Ext w w := Ext.refl w
 have hM2 : Hold w w.heap.size [] := Hold.nil hE1.le
 refine Zb 2 29 (pv p q) (pc p q) hE1 hM2 ?_
 intro b1 w1 hE4 hM5
 have hM6 := hM5.nilRow (e := 9) (size := 1)
 refine Zh 11 [.c 1 3] hM6 trivial ?_
 refine ZLoop (namesL1 p q b1 w) (k' := (kEnd Y56 [1,0,1,0] [])) (body := (cAt Y56 [1,0,1,0,0])) (by kernel_rfl) (.slice none 0 0,0) [1,2,8,9,10] (by kernel_rfl) (⟨hE4,hM6,Nat.zero_le _⟩) ?_
 rintro ⟨v,k⟩ w0 ⟨K1,KM,hk⟩
 simp only at K1 KM hk
 show H _ _ _ _ (kAt (cAt Y56 [1,0,1,0,0]) [] (.inv (LI 33 [] (namesL1 p q b1 w) (v,k)) :: (kEnd Y56 [1,0,1,0] []))) (stz [(1,pt b1 0),(2,v),(8,.slice q.a1 p.nodes.length q.c1),(9,iv (p.nodes.length:Int)),(10,iv (k:Int))]) w0
 refine Zq 5 ((k:Int) < (p.nodes.length:Int)) (fun h1 => ?_) (fun h1 => ?_)
 ·have hk2 : k < p.nodes.length := by omega
  have ha := hP.nodes.addrE nodeC_len (by decide) hk2
  have hle : ((p.nodes.take k).map (·.name)).length = k := by simp; omega
  refine Zs 7 [.ld (vN (p.nodes.getD k d0N))] [(0 ≤ (k:Int) ∧ (k:Int) < (p.nodes.length:Int)),(q.a1 : Option Addr) = some ⟨(slB q.a1),slO q.a1,none⟩,cl w0 (slB q.a1) (slO q.a1 + k * 2) (sv ((p.nodes.getD k d0N).name)),cl w0 (slB q.a1) (slO q.a1 + k * 2 + 1) (iv ((p.nodes.getD k d0N).asn))] (AC (by omega) (AC (by assumption) (AC (K1.cell (cellAt nodeC_len d0N hP.nodes hk2 (j := 0) rfl)) (A1 (K1.cell (cellAt nodeC_len d0N hP.nodes hk2 (j := 1) rfl)))))) ?_
  refine Za 0 41 [sv ([]),iv 0] K1 KM ?_
  intro b4 w2 hE8 hM9
  refine Zt 0 0 0 (vN (p.nodes.getD k d0N)) rfl hE8 hM9 ?_
  intro w3 hE11 hM12
  refine Zh 5 [.c 0 0] hM12 trivial ?_
  refine Zd 0 1 [sv ((p.nodes.getD k d0N).name)] 9 hE11 hM12 ?_
  intro b5 w4 hE14 hM15
  refine Z0 0 (.builtin .append #[37,37] 37 #[false,false] [v,.slice (some ⟨b5,0,none⟩) 1 1]) (runs_appH (e := 9) (size := 1) (bytes := 16) (by kernel_rfl) (hM15.row 2 rfl) (m := 1) (news := [sv ((p.nodes.getD k d0N).name)]) (hM15.blk 0 rfl) rfl (by simp [Value.oneCell']) (by rw [hle]; omega) (by rw [hle]; omega) hM15.base) ?_
  rintro v1 w5 ⟨hr16,hg17,ho18⟩
  have hr19 : w5.ownsRow w.heap.size 9 1 v1 (((p.nodes.take (k + 1)).map (·.name)).length) (((p.nodes.take (k + 1)).map (·.name)).flatMap strC) := by rw [namesN_succ hk2,flat_snoc,List.length_append]; exact hr16
  have hE20 := hM15.toExtApp hE14 2 rfl hg17
  have hM21 := hM15.app 2 rfl hr19 hg17 ho18
  refine Zs 7 [] [I64 ((k + 1:Nat):Int)] (A1 (i64 (by omega))) ?_
  have hM22 := hM21.pickT 4 [2,3] (by kernel_rfl)
  exact ZA 0 (namesL1 p q b1 w) (v,k) (v1,k + 1) [1,2,8,9,10] (⟨hE20,hM22,by show k + 1 ≤ _; omega⟩) (show p.nodes.length - (k + 1) < p.nodes.length - k by omega)
 have hkl : k = p.nodes.length := by omega
 subst hkl
 rw [List.take_length] at KM
 refine Zh 10 [.c 1 5] KM trivial ?_
 refine Zz 0 (kAt Y56 [1,1,0,1,0] []) [(2,v),(21,.slice q.a3 p.dests.length q.c3),(22,iv (p.dests.length:Int)),(23,iv 0)] ?_
 rw [← hq]
 refine ZLoop (namesL2 p q b1 w) (k' := (kEnd Y56 [1,1,0,1,0] [])) (body := (cAt Y56 [1,1,0,1,0,0])) (by kernel_rfl) (v,0) [2,21,22,23] (by kernel_rfl) (⟨K1,by simpa using KM,Nat.zero_le _⟩) ?_
 rintro ⟨u,k⟩ u0 ⟨L1,LM,hk⟩
 simp only at L1 LM hk
 show H _ _ _ _ (kAt (cAt Y56 [1,1,0,1,0,0]) [] (.inv (LI 33 [] (namesL2 p q b1 w) (u,k)) :: (kEnd Y56 [1,1,0,1,0] []))) (stz [(2,u),(21,.slice q.a3 q.ds.length q.c3),(22,iv (q.ds.length:Int)),(23,iv (k:Int))]) u0
 refine Zq 5 ((k:Int) < (q.ds.length:Int)) (fun h2 => ?_) (fun h2 => ?_)
 ·have hk2 : k < q.ds.length := by omega
  have ha := hP.dests.addrE destC_len (by decide) hk2
  have hle : (p.nodes.map (·.name) ++ (q.ds.take k).map (·.d.name)).length = p.nodes.length + k := by simp; omega
  refine Zs 7 [.ld (vD (q.ds.getD k d0A))] [(0 ≤ (k:Int) ∧ (k:Int) < (q.ds.length:Int)),(q.a3 : Option Addr) = some ⟨(slB q.a3),slO q.a3,none⟩,cl u0 (slB q.a3) (slO q.a3 + k * 2) (sv ((q.ds.getD k d0A).d.name)),cl u0 (slB q.a3) (slO q.a3 + k * 2 + 1) (.slice (q.ds.getD k d0A).a ((q.ds.getD k d0A).d.origins.length) ((q.ds.getD k d0A).c))] (AC (by omega) (AC (by assumption) (AC (L1.cell (cellAt destC_len d0A hP.dests hk2 (j := 0) rfl)) (A1 (L1.cell (cellAt destC_len d0A hP.dests hk2 (j := 1) rfl)))))) ?_
  refine Za 0 49 [sv ([]),.slice none 0 0] L1 LM ?_
  intro b6 u2 hE24 hM25
  refine Zt 0 0 0 (vD (q.ds.getD k d0A)) rfl hE24 hM25 ?_
  intro u3 hE27 hM28
  refine Zh 5 [.c 0 0] hM28 trivial ?_
  refine Zd 0 1 [sv ((q.ds.getD k d0A).d.name)] 9 hE27 hM28 ?_
  intro b7 u4 hE30 hM31
  refine Z0 0 (.builtin .append #[37,37] 37 #[false,false] [u,.slice (some ⟨b7,0,none⟩) 1 1]) (runs_appH (e := 9) (size := 1) (bytes := 16) (by kernel_rfl) (hM31.row 2 rfl) (m := 1) (news := [sv ((q.ds.getD k d0A).d.name)]) (hM31.blk 0 rfl) rfl (by simp [Value.oneCell']) (by rw [hle]; omega) (by rw [hle]; omega) hM31.base) ?_
  rintro u1 u5 ⟨hr32,hg33,ho34⟩
  have hr35 : u5.ownsRow w.heap.size 9 1 u1 ((p.nodes.map (·.name) ++ (q.ds.take (k + 1)).map (·.d.name)).length) ((p.nodes.map (·.name) ++ (q.ds.take (k + 1)).map (·.d.name)).flatMap strC) := by rw [namesD_succ hk2,← List.append_assoc,flat_snoc,List.length_append]; exact hr32
  have hE36 := hM31.toExtApp hE30 2 rfl hg33
  have hM37 := hM31.app 2 rfl hr35 hg33 ho34
  refine Zs 7 [] [I64 ((k + 1:Nat):Int)] (A1 (i64 (by omega))) ?_
  have hM38 := hM37.pickT 4 [2,3] (by kernel_rfl)
  exact ZA 0 (namesL2 p q b1 w) (u,k) (u1,k + 1) [2,21,22,23] (⟨hE36,hM38,by show k + 1 ≤ _; omega⟩) (show q.ds.length - (k + 1) < q.ds.length - k by omega)
 have hkl : k = q.ds.length := by omega
 rw [hkl,List.take_length,namesL_ds hP.deq] at LM
 have hlen : 0 < (namesL p).length := by simp [namesL]; omega
 have hrow := LM.row 0 rfl
 obtain ⟨g,c,hu,hc⟩ := row_form hrow hlen
 exact Z1 1 u (⟨g,c,hu,L1,hrow⟩)

end Go.Proofs.YtcbclephakfemaaGreatRRRDoor
