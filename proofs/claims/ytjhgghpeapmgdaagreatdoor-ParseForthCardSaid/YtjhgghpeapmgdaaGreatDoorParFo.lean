/-
  PARSE: ParseForth returns true: what comes out may be, and is parsed to the same; a place is never beyond the text.
-/
import Derived.Test.YtjhgghpeapmgdaaGreatDoorMg8
import Derived.Test.YtjhgghpeapmgdaaGreatDoorParFor
import Derived.Test.YtjhgghpeapmgdaaGreatDoorParLines
import Derived.Test.YtjhgghpeapmgdaaGreatDoorMg9
import Derived.Test.YtjhgghpeapmgdaaGreatDoorPlanJ
import Derived.Test.YtjhgghpeapmgdaaGreatDoorMg1
import Derived.Test.YtjhgghpeapmgdaaGreatDoorLz
import Derived.Test.YtjhgghpeapmgdaaGreatDoorMg2
namespace Go.Proofs.YtjhgghpeapmgdaaGreatDoor
open Go.Bk Go.Proofs

theorem str_cell {w : World} {b : Nat} {t : TypeId} {ss : List Bytes} (h : w.heap[b]? = some (.cells (ss.map fun l => Value.string (bs l)).toArray t (0,0))) {k : Nat} (hk : k < ss.length) : w.cell? ⟨b,0 + k * 1,none⟩ = some (.string (bs (ss.getD k []))) := by
  refine cell_of h ?_
  simp [List.getD_eq_getElem?_getD,hk]

def forthL (b1 : Nat) (w4 : World) : Lp Nat where
  S := fun j => [(9,none,.bool true),(63,none,.slice (some ⟨b1,0,none⟩) 4 4),(64,none,iv 4),(65,none,iv (j:Int))]
  J := fun j w' => Ext w4 w' ∧ j ≤ 4
  M := fun j => 4 - j
set_option maxRecDepth 20000 in
set_option maxHeartbeats 1000000 in
theorem ParseForth_any (s : Bytes) (raw : List Int) (a : Option Addr) (c : Nat) (n2 : Int) (more : Bytes) (w : World) (hG : Glob w) (hsl : s.length ≤ 140737488351232) (hc : Cells w a (raw.flatMap intCells)) (hs : Small raw) (hcap : raw.length ≤ c) (hb0 : -9223372036854775808 ≤ n2) (hb1 : n2 ≤ 9223372036854775807) (hml : more.length ≤ 140737488351232) :
    Does Tryz.prog 10 [sv s,.slice a raw.length c,iv n2,sv more] w (fun v w' => v = .bool true ∧ Ext w w') := by
 refine startZ (c := Y10) Tryz.func10 rfl (by kernel_rfl) ?_
 show H _ 138 [] _ (kAt Y10 [] []) (stz [(0,sv s),(1,.slice a raw.length c),(2,iv n2),(3,sv more)]) w
 obtain ⟨P,hPP⟩ : ∃ P,netP raw = P := ⟨_,rfl⟩
 have hR : RightP P := hPP ▸ netP_right raw
 have hE1 : Ext w w := Ext.refl w
 refine Zl 6 E25 (awake4 w hG) ?_
 rintro _ w0 ⟨rfl,hx0⟩
 have hE2 := hE1.trans hx0
 refine Zl 5 E14 (by have h := Net_any raw a c w0 (hc.ext hE2) hs hcap; rw [hPP] at h; exact h) ?_
 rintro _ w1 ⟨q,rfl,hx1,hN1⟩
 have hE3 := hE2.trans hx1
 have hA := hN1.plan hR
 have hpl := print_len hR
 refine Zl 0 E16 (by have h := rPrint_any P q w1 hA; rw [printB_right hR] at h; exact h) ?_
 rintro _ w2 ⟨rfl,hx2⟩
 have hE4 := hE3.trans hx2
 obtain ⟨t,ht⟩ : ∃ t,printT P = t := ⟨_,rfl⟩
 refine Zw 0 27 (.tuple #[sv (printT P),iv 0]) (.tuple #[sv t,iv 0]) (by rw [ht]) ?_
 rw [ht] at hpl
 refine Zs 12 [] [I64 (((t).length + 1:Nat):Int)] (A1 (i64 (by omega))) ?_
 refine Zl 0 E26 (pick4 n2 (t.length + 1) w2 hb0 hb1 (by omega)) ?_
 rintro _ _ ⟨rfl,rfl⟩
 have hk := pickN_lt n2 (show 0 < t.length + 1 by omega)
 obtain ⟨k,hke⟩ : ∃ k,pickN n2 (t.length + 1) = k := ⟨_,rfl⟩
 refine Zw 0 34 (iv ((pickN n2 (t.length + 1):Nat):Int)) (iv (k:Int)) (by rw [hke]) ?_
 rw [hke] at hk
 refine Zs 4 [] [] trivial ?_
 refine ZB 31 (kAt Y10 (ro1 4 [0,1]) []) 4 (opsAt (cAt Y10 (ro1 4 [0,0]))) (fun _ _ => True) ?_
 intro w5 hx6
 have hE7 := hE4.trans hx6
 refine dg [0,1,2,3,4,5,6,7,8,9,10,11,12,13,14,15,16,17,18,19,20,21,22,23,24,25,26,27,30] [.g 0,.g 1,.p (fun _ => I64 ((k + ((more).length):Nat):Int)),.p (fun _ => (0 ≤ (min ((k + ((more).length):Nat):Int) (((t).length:Nat):Int)) ∧ (min ((k + ((more).length):Nat):Int) (((t).length:Nat):Int)) ≤ ((t).length : Int))),.p (fun _ => ((t.take k) ++ more).length + (t.drop (((min ((k + ((more).length):Nat):Int) (((t).length:Nat):Int))).toNat)).length ≤ 9223372036854775807),.g 0,.g 1,.g 0,.p (fun _ => ((t.take k) ++ more).length + (t.drop k).length ≤ 9223372036854775807),.g 0] 2 (lb 31 1342177279) [(0 ≤ (k:Int) ∧ (k:Int) ≤ ((t).length : Int)),(t.take k).length + (more).length ≤ 9223372036854775807] (AC (by omega) (A1 (by first | omega | (simp only [List.length_append,List.length_take,List.length_drop,List.length_singleton,List.length_cons,List.length_nil]; omega)))) [] (fun _ _ => (AC (i64 (by omega)) (AC (by omega) (AC (by first | omega | (simp only [List.length_append,List.length_take,List.length_drop,List.length_singleton,List.length_cons,List.length_nil]; omega)) (A1 (by first | omega | (simp only [List.length_append,List.length_take,List.length_drop,List.length_singleton,List.length_cons,List.length_nil]; omega))))))) (trivial) ?_
 obtain ⟨x3,hx3⟩ : ∃ x,((t.take k) ++ more) ++ (t.drop (((min ((k + ((more).length):Nat):Int) (((t).length:Nat):Int))).toNat)) = x := ⟨_,rfl⟩
 refine dw 50 (sv (((t.take k) ++ more) ++ (t.drop (((min ((k + ((more).length):Nat):Int) (((t).length:Nat):Int))).toNat)))) (sv x3) (by rw [hx3]) ?_
 obtain ⟨x4,hx4⟩ : ∃ x,((t.take k) ++ more) ++ (t.drop k) = x := ⟨_,rfl⟩
 refine dw 59 (sv (((t.take k) ++ more) ++ (t.drop k))) (sv x4) (by rw [hx4]) ?_
 obtain ⟨x5,hx5⟩ : ∃ x,t.take k = x := ⟨_,rfl⟩
 refine dw 62 (sv (t.take k)) (sv x5) (by rw [hx5]) ?_
 refine d1 28 ?_
 refine Wo [] (.bslice 37 4 [(0,sv s),(1,sv x3),(2,sv x4),(3,sv x5)]) [] trivial (runs_bslice (cs := [s,x3,x4,x5].map fun l => Value.string (bs l)) (e := 9) (by kernel_rfl)) ?_
 rintro _ w4 ⟨b1,rfl,hN⟩
 have hE8 := hE7.trans hN.ext
 have hcs := hN.own
 have hG4 := hG.ext hE8
 refine ⟨trivial,?_⟩
 refine dx0 [29] [] 0 (lb 31 2147483647) (trivial) ?_
 refine ZD ?_
 refine Zs 1 [] [] trivial ?_
 refine ZLoop (forthL b1 w4) (k' := (kEnd Y10 (ro1 4 [0,1,0]) [])) (body := (cAt Y10 (ro1 4 [0,1,0,0]))) (by kernel_rfl) 0 [9,63,64,65] (by kernel_rfl) (⟨Ext.refl _,by omega⟩) ?_
 rintro j v0 ⟨M4,hj⟩
 refine Zq 5 ((j:Int) < (4 : Int)) (fun hc2 => ?_) (fun hc2 => ?_)
 ·have hM9 : Hold v0 w4.heap.size [] := Hold.nil M4.le
  refine Zs 12 [.ld (sv ([s,x3,x4,x5].getD j []))] [(0 ≤ (j:Int) ∧ (j:Int) < (4 : Int)),((some ⟨b1,0,none⟩) : Option Addr) = some ⟨b1,0,none⟩,cl v0 b1 (0 + j * 1) (sv ([s,x3,x4,x5].getD j []))] (AC (by omega) (AC rfl (A1 (M4.cell (str_cell hcs (show j < 4 by omega)))))) ?_
  obtain ⟨x,hx⟩ : ∃ x,[s,x3,x4,x5].getD j [] = x := ⟨_,rfl⟩
  refine Zw 0 14 (sv ([s,x3,x4,x5].getD j [])) (sv x) (by rw [hx]) ?_
  refine Zw 0 70 (sv ([s,x3,x4,x5].getD j [])) (sv x) (by rw [hx]) ?_
  obtain ⟨p,e,n,hpe⟩ : ∃ p e n,parseT x = (p,e,n) := ⟨_,_,_,rfl⟩
  have hfl := forth_law x
  rw [hpe] at hfl
  simp only at hfl
  refine Zl 0 E27 (by have h := Parse_any x v0 (hG4.ext M4); rw [hpe] at h; exact h) ?_
  rintro _ v1 ⟨q1,rfl,hy1,hA1⟩
  obtain ⟨hE10,hM11⟩ := Xt M4 hM9 hy1
  have hr1 := Ext.refl v1
  refine Z0 4 (.alloc 29) (runs_alloc (z := .agg #[iv 0,iv 0,iv 0,.slice none 0 0,.slice none 0 0,.slice none 0 0,.slice none 0 0]) (by kernel_rfl)) ?_
  rintro _ v2 ⟨b2,rfl,hN12⟩
  have hl15 := Nat.le_trans hr1.le (Nat.le_of_eq hN12.lo.symm)
  have hE13 := hE10.trans hN12.ext
  have hM14 := hM11.new hN12
  have hv16 := Ext.trans hr1 hN12.ext
  refine Z0 0 (.store 29 (pt b2 0) (pv p q1)) (runs_st (hM14.blk 0 rfl) (by kernel_rfl)) ?_
  rintro _ v3 hC17
  have hE18 := hM14.toExt hE13 hC17 0 rfl
  have hM19 := hM14.set 0 rfl hC17
  have hv20 := hC17.ext hv16 hl15
  refine Zr 9 _ (¬ ((e : Int) = (0 : Int))) ((iffNot iffDec)) (fun h0 => ?_) (fun h0 => ?_)
  ·rcases hfl with ⟨he,_⟩ | ⟨_,rfl,hn0,hn1⟩
   refine Zz 0 (kAt (cAt Y10 (ro1 4 [0,1,0,0])) [1,1,0,0,1,1,0,1,0] (.inv (LI 138 [] (forthL b1 w4) j) :: (kEnd Y10 (ro1 4 [0,1,0]) []))) [(9,.bool true),(14,sv x),(15,pt b2 0),(17,iv n),(63,.slice (some ⟨b1,0,none⟩) 4 4),(64,iv 4),(65,iv (j:Int))] ?_
   · exact absurd he h0
   have kf21 : ((decide ((n : Int) < (0 : Int))) || (decide ((((x).length:Nat):Int) < n))) = false := by rw [show (decide ((n : Int) < (0 : Int))) = false from decide_eq_false (by omega),show (decide ((((x).length:Nat):Int) < n)) = false from decide_eq_false (by omega)]; first | done | rfl
   have kf22 : (((decide ((n : Int) < (0 : Int))) || (decide ((((x).length:Nat):Int) < n))) || (decide ((0 : Int) < ((noPlan.nodes.length + noPlan.links.length + noPlan.dests.length + noPlan.checks.length:Nat):Int)))) = false := by rw [show ((decide ((n : Int) < (0 : Int))) || (decide ((((x).length:Nat):Int) < n))) = false from kf21,show (decide ((0 : Int) < ((noPlan.nodes.length + noPlan.links.length + noPlan.dests.length + noPlan.checks.length:Nat):Int))) = false from rfl]; first | done | rfl
   refine Zf 37 [.xg 0,.xg 0,.xg 0,.xg 0,.xg 1,.xg 1,.c 0 3,.xg 1,.xg 1,.xg 1,.c 0 4,.xg 1,.xg 1,.p (fun _ => I64 ((noPlan.nodes.length + noPlan.links.length:Nat):Int)),.xg 1,.xg 1,.c 0 5,.xg 1,.xg 1,.p (fun _ => I64 ((noPlan.nodes.length + noPlan.links.length + noPlan.dests.length:Nat):Int)),.xg 1,.xg 1,.c 0 6,.xg 1,.xg 1,.p (fun _ => I64 ((noPlan.nodes.length + noPlan.links.length + noPlan.dests.length + noPlan.checks.length:Nat):Int)),.xg 1,.p (fun _ => (((decide ((n : Int) < (0 : Int))) || (decide ((((x).length:Nat):Int) < n))) || (decide ((0 : Int) < ((noPlan.nodes.length + noPlan.links.length + noPlan.dests.length + noPlan.checks.length:Nat):Int)))) = false),.p (fun _ => I64 ((j + 1:Nat):Int)),.s] hM19 [(decide ((n : Int) < (0 : Int))) = false,((decide ((n : Int) < (0 : Int))) || (decide ((((x).length:Nat):Int) < n))) = false] (AC (decide_eq_false (by omega)) (A1 kf21)) [] (AC (i64 (by decide)) (AC (i64 (by decide)) (AC (i64 (by decide)) (AC kf22 (A1 (i64 (by omega))))))) ?_
   exact ZA 0 (forthL b1 w4) j (j + 1) [9,63,64,65] (⟨hE18,by omega⟩) (show 4 - (j + 1) < 4 - j by omega)
  have hok : e = 0 ∧ RightP p ∧ n = 0 := by rcases hfl with h | ⟨he,_⟩; (exact h); exact absurd he h0
  obtain ⟨rfl,hR1,rfl⟩ := hok
  refine Zh 4 [.a 0 0 7] hM19 trivial ?_
  refine Zl 0 E15 (by have h := Print_any p q1 v3 (hA1.ext hv20) (hG4.ext hE18); rw [printB_right hR1] at h; exact h) ?_
  rintro _ v4 ⟨rfl,hy4⟩
  obtain ⟨hE23,hM24⟩ := Xt hE18 hM19 hy4
  have hv25 := Ext.trans hv20 hy4
  have hpl1 := print_len hR1
  refine Zh 17 [.xf,.xf,.xf,.a 0 0 7] hM24 trivial ?_
  refine Zo 0 [.exec] (.call 17 [(pv p q1)]) [false = false] (A1 rfl) (runs_call E17 (by have h := Right_any p q1 v4 (hA1.ext hv25); rw [rightB_iff.2 hR1] at h; exact h)) ?_
  rintro _ v5 ⟨rfl,hy5⟩
  obtain ⟨hE26,hM27⟩ := Xt hE23 hM24 hy5
  have hv28 := Ext.trans hv25 hy5
  refine Zi 17 [.xf,.sf,.p (fun _ => (decide ((10000 : Int) < (((printT p).length:Nat):Int))) = false),.s] [] trivial [] (A1 (decide_eq_false (by omega))) ?_
  refine Zl 0 E27 (by have h := Parse_any (printT p) v5 (hG4.ext hE26); rw [parse_print hR1] at h; exact h) ?_
  rintro _ v6 ⟨q2,rfl,hy6,hA2⟩
  obtain ⟨hE29,hM30⟩ := Xt hE26 hM27 hy6
  have hv31 := Ext.trans hv28 hy6
  have hr2 := Ext.refl v6
  refine Z0 4 (.alloc 29) (runs_alloc (z := .agg #[iv 0,iv 0,iv 0,.slice none 0 0,.slice none 0 0,.slice none 0 0,.slice none 0 0]) (by kernel_rfl)) ?_
  rintro _ v7 ⟨b3,rfl,hN32⟩
  have hl35 := Nat.le_trans hv31.le (Nat.le_of_eq hN32.lo.symm)
  have hl36 := Nat.le_trans hr2.le (Nat.le_of_eq hN32.lo.symm)
  have hE33 := hE29.trans hN32.ext
  have hM34 := hM30.new hN32
  have hv37 := Ext.trans hv31 hN32.ext
  have hv38 := Ext.trans hr2 hN32.ext
  refine Z0 0 (.store 29 (pt b3 0) (pv p q2)) (runs_st (hM34.blk 0 rfl) (by kernel_rfl)) ?_
  rintro _ v8 hC39
  have hE40 := hM34.toExt hE33 hC39 0 rfl
  have hM41 := hM34.set 0 rfl hC39
  have hv42 := hC39.ext hv37 hl35
  have hv43 := hC39.ext hv38 hl36
  refine Zh 10 [.xf,.a 1 0 7,.xf,.a 0 0 7] hM41 trivial ?_
  refine Zo 0 [.exec] (.call 19 [(pv p q1),(pv p q2)]) [false = false] (A1 rfl) (runs_call E19 (by have h := Same_any p p q1 q2 v8 (hA1.ext hv42) (hA2.ext hv43); rw [decide_eq_true (rfl : p = p)] at h; exact h)) ?_
  rintro _ v9 ⟨rfl,hy9⟩
  obtain ⟨hE44,hM45⟩ := Xt hE40 hM41 hy9
  have hv46 := Ext.trans hv42 hy9
  have hv47 := Ext.trans hv43 hy9
  refine Zi 10 [.xf,.sf,.p (fun _ => I64 ((j + 1:Nat):Int))] [] trivial [] (A1 (i64 (by omega))) ?_
  exact ZA 0 (forthL b1 w4) j (j + 1) [9,63,64,65] (⟨hE44,by omega⟩) (show 4 - (j + 1) < 4 - j by omega)
 exact Z1 6 (.bool true) (⟨rfl,hE8.trans M4⟩)

end Go.Proofs.YtjhgghpeapmgdaaGreatDoor
