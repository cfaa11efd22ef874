/-
  PARSE: ParseBlanks returns true: blanks and comments make no difference, nor which of a link's nodes stands first.
-/
import Derived.Test.YtjhgghpeapmgdaaGreatDoorParH
import Derived.Test.YtjhgghpeapmgdaaGreatDoorParErs
import Derived.Test.YtjhgghpeapmgdaaGreatDoorMg6
import Derived.Test.YtjhgghpeapmgdaaGreatDoorPlanJ
import Derived.Test.YtjhgghpeapmgdaaGreatDoorLexD
import Derived.Test.YtjhgghpeapmgdaaGreatDoorLz
import Derived.Test.YtjhgghpeapmgdaaGreatDoorMg2
namespace Go.Proofs.YtjhgghpeapmgdaaGreatDoor
open Go.Bk Go.Proofs

theorem blank_cell {w : World} {b : Nat} {t : TypeId} (h : w.heap[b]? = some (.cells (blanks4.map sv).toArray t (0,0))) {k : Nat} (hk : k < 4) : w.cell? ⟨b,0 + k * 1,none⟩ = some (sv (blanks4.getD k [])) := by
  have : k = 0 ∨ k = 1 ∨ k = 2 ∨ k = 3 := by omega
  rcases this with rfl | rfl | rfl | rfl <;> exact cell_of h rfl

def blanksL (ys : List Int) (a2 : Option Addr) (c2 b1 : Nat) (e6 : Option Addr) (L : List Tok) (d6 : Nat) (W : List Bytes) (w6 : World) : Lp Nat where
  S := fun i => [(1,none,.slice a2 ys.length c2),(5,none,.bool true),(6,none,pt b1 0),(9,none,.slice e6 L.length d6),(10,none,iv 0),(12,none,sv (txtW (bl4 ys) (turnW W) i)),(13,none,iv (i:Int))]
  J := fun i w' => Ext w6 w' ∧ i ≤ W.length
  M := fun i => W.length - i
set_option maxRecDepth 20000 in
set_option maxHeartbeats 1000000 in
theorem ParseBlanks_any (raw ys : List Int) (a a2 : Option Addr) (c c2 : Nat) (w : World) (hG : Glob w) (hc : Cells w a (raw.flatMap intCells)) (hcy : Cells w a2 (ys.flatMap intCells)) (hs : Small raw) (hsy : Small ys) (hcap : raw.length ≤ c) (hcapy : ys.length ≤ c2) :
    Does Tryz.prog 11 [.slice a raw.length c,.slice a2 ys.length c2] w (fun v w' => v = .bool true ∧ Ext w w') := by
 refine startZ (c := Y11) Tryz.func11 rfl (by kernel_rfl) ?_
 show H _ 127 [] _ (kAt Y11 [] []) (stz [(0,.slice a raw.length c),(1,.slice a2 ys.length c2)]) w
 obtain ⟨P,hPP⟩ : ∃ P,netP raw = P := ⟨_,rfl⟩
 have hR : RightP P := hPP ▸ netP_right raw
 have hE1 : Ext w w := Ext.refl w
 have hM2 : Hold w w.heap.size [] := Hold.nil hE1.le
 refine Zl 6 E25 (awake4 w hG) ?_
 rintro _ w0 ⟨rfl,hx0⟩
 obtain ⟨hE3,hM4⟩ := Xt hE1 hM2 hx0
 refine Zl 5 E14 (by have h := Net_any raw a c w0 (hc.ext hE3) hs hcap; rw [hPP] at h; exact h) ?_
 rintro _ w1 ⟨q,rfl,hx1,hN1⟩
 obtain ⟨hE5,hM6⟩ := Xt hE3 hM4 hx1
 have hA := hN1.plan hR
 have hr := Ext.refl w1
 refine Z0 0 (.alloc 29) (runs_alloc (z := .agg #[iv 0,iv 0,iv 0,.slice none 0 0,.slice none 0 0,.slice none 0 0,.slice none 0 0]) (by kernel_rfl)) ?_
 rintro _ wa ⟨b1,rfl,hN7⟩
 have hl10 := Nat.le_trans hr.le (Nat.le_of_eq hN7.lo.symm)
 have hE8 := hE5.trans hN7.ext
 have hM9 := hM6.new hN7
 have hv11 := Ext.trans hr hN7.ext
 refine Z0 0 (.store 29 (pt b1 0) (pv P q)) (runs_st (hM9.blk 0 rfl) (by kernel_rfl)) ?_
 rintro _ wb hC12
 have hE13 := hM9.toExt hE8 hC12 0 rfl
 have hM14 := hM9.set 0 rfl hC12
 have hv15 := hC12.ext hv11 hl10
 refine Zh 4 [.a 0 0 7] hM14 trivial ?_
 have hpl := print_len hR
 obtain ⟨L,hL⟩ : ∃ L,lexT (printT P) = (L,0,0) := ⟨_,lex_print hR⟩
 have htw := toks_words hR hL
 have hsh := toks_short hL
 have htl := lexT_len (printT P)
 rw [hL] at htl
 refine Zz 0 (kOp Y11 [1,1,1,0] 1 []) [(1,.slice a2 ys.length c2),(4,.bool false),(5,.bool true),(6,pt b1 0),(23,(pv P q))] ?_
 change L.length ≤ 10001 at htl
 obtain ⟨W,hWW⟩ : ∃ W,flatF (linesW P) = W := ⟨_,rfl⟩
 rw [hWW] at htw
 obtain ⟨hlw,hwt⟩ := htw
 refine Zl 0 E15 (by have h := Print_any P q wb (hA.ext hv15) (hG.ext hE13); rw [printB_right hR] at h; exact h) ?_
 rintro _ w2 ⟨rfl,hx2⟩
 obtain ⟨hE16,hM17⟩ := Xt hE13 hM14 hx2
 have hv18 := Ext.trans hv15 hx2
 refine Zl 9 E29 (by have h := rLex_any (printT P) w2; rw [hL] at h; exact h) ?_
 rintro _ w6 ⟨_,rfl,⟨e6,d6,rfl,hT6⟩,hx6⟩
 obtain ⟨hE19,hM20⟩ := Xt hE16 hM17 hx6
 have hv21 := Ext.trans hv18 hx6
 have hq : txtW (bl4 ys) (turnW W) 0 = [] := rfl
 have htx : ∀ i,i ≤ W.length → (txtW (bl4 ys) (turnW W) i).length ≤ 18 * i := fun i hi => by have h := text_len hR ys (i := i) (by rw [hWW]; exact hi); rw [hWW] at h; exact h
 have hb1 := (hM20.blk 0 rfl)
 have hNN := hv21
 have hEE := hE19
 refine Zw 18 12 (sv ([])) (sv (txtW (bl4 ys) (turnW W) 0)) (rfl) ?_
 refine ZLoop (blanksL ys a2 c2 b1 e6 L d6 W w6) (k' := (kEnd Y11 (ro1 6 [0,1,0]) [])) (body := (cAt Y11 (ro1 6 [0,1,0,0]))) (by kernel_rfl) 0 [1,5,6,9,10,12,13] (by kernel_rfl) (⟨Ext.refl _,by omega⟩) ?_
 rintro i v0 ⟨K6,hi⟩
 refine Zs 9 [] [I64 ((i + 1:Nat):Int)] (A1 (i64 (by omega))) ?_
 refine Zq 0 (((i + 1:Nat):Int) < (L.length:Int)) (fun hc2 => ?_) (fun hc2 => ?_)
 ·have hiw : i < W.length := by omega
  have hti := htx i hi
  have haT := hT6.addrE tokCells_len (by decide) (show 0 < L.length by omega)
  have hbi := bN_lt ys i
  have hturn := fun xz xm xp x0 h1 h2 h3 h4 => turn_at hlw hwt hiw (xz := xz) (xm := xm) (xp := xp) (x0 := x0) h1 h2 h3 h4
  have rest : H Tryz.prog 127 [] (bodyPost Tryz.prog Tryz.f11 (Ret fun v w' => v = .bool true ∧ Ext w w')) (kAt (cAt Y11 (ro1 6 [0,1,0,0])) [1,0,0,1,1,0] (.inv (LI 127 [] (blanksL ys a2 c2 b1 e6 L d6 W w6) i) :: (kEnd Y11 (ro1 6 [0,1,0]) []))) (stz [(1,.slice a2 ys.length c2),(5,.bool true),(6,pt b1 0),(9,.slice e6 L.length d6),(10,iv 0),(12,sv (txtW (bl4 ys) (turnW W) i)),(13,iv (i:Int)),(14,iv ((bN ys i:Nat):Int))]) v0 := by
    obtain ⟨xz,hxz⟩ : ∃ x,(L.getD (i - 2) d0T).text = x := ⟨_,rfl⟩
    obtain ⟨xm,hxm⟩ : ∃ x,(L.getD (i - 1) d0T).text = x := ⟨_,rfl⟩
    obtain ⟨xp,hxp⟩ : ∃ x,(L.getD (i + 1) d0T).text = x := ⟨_,rfl⟩
    obtain ⟨x0,hx0⟩ : ∃ x,(L.getD i d0T).text = x := ⟨_,rfl⟩
    have htu := hturn xz xm xp x0 hxz hxm hxp hx0
    have hln := fun j => hsh j
    have c0 : w6.cell? ⟨slB e6,slO e6 + i * 4 + 1,none⟩ = some (sv x0) := by have h := cellAt tokCells_len d0T hT6 (show i < L.length by omega) (j := 1) (v := sv (L.getD i d0T).text) rfl; rw [hx0,show i = i by omega] at h; exact h
    refine Zs 10 [.ld (sv x0)] [(0 ≤ (i:Int) ∧ (i:Int) < (L.length:Int)),(e6 : Option Addr) = some ⟨(slB e6),slO e6,none⟩,cl v0 (slB e6) (slO e6 + i * 4 + 1) (sv x0)] (AC (by omega) (AC (by assumption) (A1 (K6.cell c0)))) ?_
    have rest2 : ∀ x,turnW W i = x → x.length ≤ 10000 → H Tryz.prog 127 [] (bodyPost Tryz.prog Tryz.f11 (Ret fun v w' => v = .bool true ∧ Ext w w')) (kAt (cAt Y11 (ro1 6 [0,1,0,0])) [1,0,0,1,1,1,1,1] (.inv (LI 127 [] (blanksL ys a2 c2 b1 e6 L d6 W w6) i) :: (kEnd Y11 (ro1 6 [0,1,0]) []))) (stz [(1,.slice a2 ys.length c2),(5,.bool true),(6,pt b1 0),(9,.slice e6 L.length d6),(10,iv 0),(12,sv (txtW (bl4 ys) (turnW W) i)),(13,iv (i:Int)),(14,iv ((bN ys i:Nat):Int)),(15,sv x)]) v0 := by
      intro x hx hxl
      have hM24 : Hold v0 w6.heap.size [] := Hold.nil K6.le
      refine Zs 4 [] [(txtW (bl4 ys) (turnW W) i).length + (x).length ≤ 9223372036854775807] (A1 (by first | omega | (simp only [List.length_append,List.length_take,List.length_cons,List.length_nil]; omega))) ?_
      refine Zd 0 4 [sv ([32]),sv ([10]),sv ([9,9]),sv ([32,35,32,120,59,10])] 9 K6 hM24 ?_
      intro b4 v1 hE26 hM27
      have hbc := blank_cell (hM27.blk 0 rfl) hbi
      have hbl := blanks4_len hbi
      obtain ⟨bb,hbb⟩ : ∃ x,blanks4.getD (bN ys i) [] = x := ⟨_,rfl⟩
      rw [hbb] at hbc hbl
      refine Zs 12 [.ld (sv bb)] [(0 ≤ ((bN ys i:Nat):Int) ∧ ((bN ys i:Nat):Int) < (4 : Int)),((some ⟨b4,0,none⟩) : Option Addr) = some ⟨b4,0,none⟩,cl v1 b4 (0 + (bN ys i) * 1) (sv bb),((txtW (bl4 ys) (turnW W) i) ++ x).length + (bb).length ≤ 9223372036854775807,I64 ((i + 1:Nat):Int)] (AC (by omega) (AC rfl (AC hbc (AC (by first | omega | (simp only [List.length_append,List.length_take,List.length_cons,List.length_nil]; omega)) (A1 (i64 (by omega))))))) ?_
      refine Zw 0 12 (sv (((txtW (bl4 ys) (turnW W) i) ++ x) ++ bb)) (sv (txtW (bl4 ys) (turnW W) (i + 1))) (by rw [txt_step (i := i) hx hbb]) ?_
      exact ZA 0 (blanksL ys a2 c2 b1 e6 L d6 W w6) i (i + 1) [1,5,6,9,10,12,13] (⟨hE26,by omega⟩) (show W.length - (i + 1) < W.length - i by omega)
    by_cases g1 : 0 < i ∧ i + 2 < L.length
    ·obtain ⟨g1a,g1b⟩ := g1
     have cm : w6.cell? ⟨slB e6,slO e6 + (((i:Int) - (1 : Int)).toNat) * 4 + 1,none⟩ = some (sv xm) := by have h := cellAt tokCells_len d0T hT6 (show i - 1 < L.length by omega) (j := 1) (v := sv (L.getD (i - 1) d0T).text) rfl; rw [hxm,show i - 1 = ((i:Int) - (1 : Int)).toNat by omega] at h; exact h
     have kf28 : ((decide ((0 : Int) < (i:Int))) && (decide (((i + 2:Nat):Int) < (L.length:Int)))) = true := by rw [show (decide ((0 : Int) < (i:Int))) = true from decide_eq_true (by omega),show (decide (((i + 2:Nat):Int) < (L.length:Int))) = true from decide_eq_true (by omega)]; first | done | rfl
     refine Zi 20 [.xg 0,.xg 0,.p (fun _ => I64 ((i + 2:Nat):Int)),.xg 0,.xg 0,.xg 0,.xg 1,.xg 1,.xg 1,.p (fun _ => I64 ((i:Int) - (1 : Int))),.xg 1,.p (fun _ => (0 ≤ ((i:Int) - (1 : Int)) ∧ ((i:Int) - (1 : Int)) < (L.length:Int))),.p (fun _ => (e6 : Option Addr) = some ⟨(slB e6),slO e6,none⟩),.xg 1,.xg 1,.p (fun _ => v0.cell? ⟨(slB e6),slO e6 + ((((i:Int) - (1 : Int))).toNat) * 4 + 1,none⟩ = some (sv xm)),.v (sv xm),.xg 1] [(decide ((0 : Int) < (i:Int))) = true,((decide ((0 : Int) < (i:Int))) && (decide (((i + 2:Nat):Int) < (L.length:Int)))) = true] (AC (decide_eq_true (by omega)) (A1 kf28)) [] (AC (i64 (by omega)) (AC (i64 (by omega)) (AC (by omega) (AC (by assumption) (A1 (K6.cell cm)))))) ?_
     refine Zr 0 _ ((((0 : Int) < (i:Int)) ∧ (((i + 2:Nat):Int) < (L.length:Int))) ∧ (xm = ([108,105,110,107]))) ((iffAnd (iffAnd iffDec iffDec) iffDec)) (fun e1 => ?_) (fun e1 => ?_)
     ·have cp : w6.cell? ⟨slB e6,slO e6 + (i + 1) * 4 + 1,none⟩ = some (sv xp) := by have h := cellAt tokCells_len d0T hT6 (show i + 1 < L.length by omega) (j := 1) (v := sv (L.getD (i + 1) d0T).text) rfl; rw [hxp,show i + 1 = i + 1 by omega] at h; exact h
      refine Zs 11 [.ld (sv xp)] [I64 ((i + 1:Nat):Int),(0 ≤ ((i + 1:Nat):Int) ∧ ((i + 1:Nat):Int) < (L.length:Int)),(e6 : Option Addr) = some ⟨(slB e6),slO e6,none⟩,cl v0 (slB e6) (slO e6 + (i + 1) * 4 + 1) (sv xp)] (AC (i64 (by omega)) (AC (by omega) (AC (by assumption) (A1 (K6.cell cp))))) ?_
      by_cases g2 : 1 < i
      ·have cz : w6.cell? ⟨slB e6,slO e6 + (((i:Int) - (2 : Int)).toNat) * 4 + 1,none⟩ = some (sv xz) := by have h := cellAt tokCells_len d0T hT6 (show i - 2 < L.length by omega) (j := 1) (v := sv (L.getD (i - 2) d0T).text) rfl; rw [hxz,show i - 2 = ((i:Int) - (2 : Int)).toNat by omega] at h; exact h
       refine Zi 13 [.xg 0,.xg 0,.xg 0,.p (fun _ => I64 ((i:Int) - (2 : Int))),.xg 0,.p (fun _ => (0 ≤ ((i:Int) - (2 : Int)) ∧ ((i:Int) - (2 : Int)) < (L.length:Int))),.p (fun _ => (e6 : Option Addr) = some ⟨(slB e6),slO e6,none⟩),.xg 0,.xg 0,.p (fun _ => v0.cell? ⟨(slB e6),slO e6 + ((((i:Int) - (2 : Int))).toNat) * 4 + 1,none⟩ = some (sv xz)),.v (sv xz),.xg 0] [(decide ((1:Int) < (i:Int))) = true] (A1 (decide_eq_true (by omega))) [] (AC (i64 (by omega)) (AC (by omega) (AC (by assumption) (A1 (K6.cell cz))))) ?_
       refine Zr 0 _ (((1:Int) < (i:Int)) ∧ (xz = ([108,105,110,107]))) ((iffAnd iffDec iffDec)) (fun e2 => ?_) (fun e2 => ?_)
       ·have cm2 := hT6
        have cm : w6.cell? ⟨slB e6,slO e6 + (((i:Int) - (1 : Int)).toNat) * 4 + 1,none⟩ = some (sv xm) := by have h := cellAt tokCells_len d0T hT6 (show i - 1 < L.length by omega) (j := 1) (v := sv (L.getD (i - 1) d0T).text) rfl; rw [hxm,show i - 1 = ((i:Int) - (1 : Int)).toNat by omega] at h; exact h
        refine Zs 9 [.ld (sv xm)] [I64 ((i:Int) - (1 : Int)),(0 ≤ ((i:Int) - (1 : Int)) ∧ ((i:Int) - (1 : Int)) < (L.length:Int)),(e6 : Option Addr) = some ⟨(slB e6),slO e6,none⟩,cl v0 (slB e6) (slO e6 + ((((i:Int) - (1 : Int))).toNat) * 4 + 1) (sv xm)] (AC (i64 (by omega)) (AC (by omega) (AC (by assumption) (A1 (K6.cell cm))))) ?_
        refine Zz 0 (kAt (cAt Y11 (ro1 6 [0,1,0,0])) [1,0,0,1,1,1,1,1] (.inv (LI 127 [] (blanksL ys a2 c2 b1 e6 L d6 W w6) i) :: (kEnd Y11 (ro1 6 [0,1,0]) []))) [(1,.slice a2 ys.length c2),(5,.bool true),(6,pt b1 0),(9,.slice e6 L.length d6),(10,iv 0),(12,sv (txtW (bl4 ys) (turnW W) i)),(13,iv (i:Int)),(14,iv ((bN ys i:Nat):Int)),(15,sv xm)] ?_
        exact rest2 xm (htu.trans (if_pos ⟨by omega,e2.2⟩)) (by rw [← hxm]; exact hsh _)
       refine Zz 1 (kAt (cAt Y11 (ro1 6 [0,1,0,0])) [1,0,0,1,1,1,1,1] (.inv (LI 127 [] (blanksL ys a2 c2 b1 e6 L d6 W w6) i) :: (kEnd Y11 (ro1 6 [0,1,0]) []))) [(1,.slice a2 ys.length c2),(5,.bool true),(6,pt b1 0),(9,.slice e6 L.length d6),(10,iv 0),(12,sv (txtW (bl4 ys) (turnW W) i)),(13,iv (i:Int)),(14,iv ((bN ys i:Nat):Int)),(15,sv xp)] ?_
       exact rest2 xp (htu.trans ((if_neg (fun h => e2 ⟨by omega,h.2⟩)).trans (if_pos ⟨⟨by omega,by omega⟩,e1.2⟩))) (by rw [← hxp]; exact hsh _)
      refine Zi 15 [.sg 0,.sg 0,.sg 0,.sg 0,.sg 0,.sg 0,.sg 0,.p (fun _ => (decide ((1:Int) < (i:Int))) = false),.sf] [(decide ((1:Int) < (i:Int))) = (!true)] (A1 (decide_eq_false (by omega))) [] (A1 (decide_eq_false (by omega))) ?_
      refine Zz 0 (kAt (cAt Y11 (ro1 6 [0,1,0,0])) [1,0,0,1,1,1,1,1] (.inv (LI 127 [] (blanksL ys a2 c2 b1 e6 L d6 W w6) i) :: (kEnd Y11 (ro1 6 [0,1,0]) []))) [(1,.slice a2 ys.length c2),(5,.bool true),(6,pt b1 0),(9,.slice e6 L.length d6),(10,iv 0),(12,sv (txtW (bl4 ys) (turnW W) i)),(13,iv (i:Int)),(14,iv ((bN ys i:Nat):Int)),(15,sv xp)] ?_
      exact rest2 xp (htu.trans ((if_neg (fun h => g2 h.1)).trans (if_pos ⟨⟨by omega,by omega⟩,e1.2⟩))) (by rw [← hxp]; exact hsh _)
     by_cases g2 : 1 < i
     ·have cz : w6.cell? ⟨slB e6,slO e6 + (((i:Int) - (2 : Int)).toNat) * 4 + 1,none⟩ = some (sv xz) := by have h := cellAt tokCells_len d0T hT6 (show i - 2 < L.length by omega) (j := 1) (v := sv (L.getD (i - 2) d0T).text) rfl; rw [hxz,show i - 2 = ((i:Int) - (2 : Int)).toNat by omega] at h; exact h
      refine Zi 16 [.xg 0,.xg 0,.xg 0,.p (fun _ => I64 ((i:Int) - (2 : Int))),.xg 0,.p (fun _ => (0 ≤ ((i:Int) - (2 : Int)) ∧ ((i:Int) - (2 : Int)) < (L.length:Int))),.p (fun _ => (e6 : Option Addr) = some ⟨(slB e6),slO e6,none⟩),.xg 0,.xg 0,.p (fun _ => v0.cell? ⟨(slB e6),slO e6 + ((((i:Int) - (2 : Int))).toNat) * 4 + 1,none⟩ = some (sv xz)),.v (sv xz),.xg 0] [(decide ((1:Int) < (i:Int))) = true] (A1 (decide_eq_true (by omega))) [] (AC (i64 (by omega)) (AC (by omega) (AC (by assumption) (A1 (K6.cell cz))))) ?_
      refine Zr 0 _ (((1:Int) < (i:Int)) ∧ (xz = ([108,105,110,107]))) ((iffAnd iffDec iffDec)) (fun e2 => ?_) (fun e2 => ?_)
      ·have cm2 := hT6
       have cm : w6.cell? ⟨slB e6,slO e6 + (((i:Int) - (1 : Int)).toNat) * 4 + 1,none⟩ = some (sv xm) := by have h := cellAt tokCells_len d0T hT6 (show i - 1 < L.length by omega) (j := 1) (v := sv (L.getD (i - 1) d0T).text) rfl; rw [hxm,show i - 1 = ((i:Int) - (1 : Int)).toNat by omega] at h; exact h
       refine Zs 9 [.ld (sv xm)] [I64 ((i:Int) - (1 : Int)),(0 ≤ ((i:Int) - (1 : Int)) ∧ ((i:Int) - (1 : Int)) < (L.length:Int)),(e6 : Option Addr) = some ⟨(slB e6),slO e6,none⟩,cl v0 (slB e6) (slO e6 + ((((i:Int) - (1 : Int))).toNat) * 4 + 1) (sv xm)] (AC (i64 (by omega)) (AC (by omega) (AC (by assumption) (A1 (K6.cell cm))))) ?_
       refine Zz 0 (kAt (cAt Y11 (ro1 6 [0,1,0,0])) [1,0,0,1,1,1,1,1] (.inv (LI 127 [] (blanksL ys a2 c2 b1 e6 L d6 W w6) i) :: (kEnd Y11 (ro1 6 [0,1,0]) []))) [(1,.slice a2 ys.length c2),(5,.bool true),(6,pt b1 0),(9,.slice e6 L.length d6),(10,iv 0),(12,sv (txtW (bl4 ys) (turnW W) i)),(13,iv (i:Int)),(14,iv ((bN ys i:Nat):Int)),(15,sv xm)] ?_
       exact rest2 xm (htu.trans (if_pos ⟨by omega,e2.2⟩)) (by rw [← hxm]; exact hsh _)
      refine Zz 1 (kAt (cAt Y11 (ro1 6 [0,1,0,0])) [1,0,0,1,1,1,1,1] (.inv (LI 127 [] (blanksL ys a2 c2 b1 e6 L d6 W w6) i) :: (kEnd Y11 (ro1 6 [0,1,0]) []))) [(1,.slice a2 ys.length c2),(5,.bool true),(6,pt b1 0),(9,.slice e6 L.length d6),(10,iv 0),(12,sv (txtW (bl4 ys) (turnW W) i)),(13,iv (i:Int)),(14,iv ((bN ys i:Nat):Int)),(15,sv x0)] ?_
      exact rest2 x0 (htu.trans ((if_neg (fun h => e2 ⟨by omega,h.2⟩)).trans (if_neg (fun h => e1 ⟨⟨by omega,by omega⟩,h.2⟩)))) (by rw [← hx0]; exact hsh _)
     refine Zi 18 [.sg 0,.sg 0,.sg 0,.sg 0,.sg 0,.sg 0,.sg 0,.p (fun _ => (decide ((1:Int) < (i:Int))) = false),.sf] [(decide ((1:Int) < (i:Int))) = (!true)] (A1 (decide_eq_false (by omega))) [] (A1 (decide_eq_false (by omega))) ?_
     refine Zz 0 (kAt (cAt Y11 (ro1 6 [0,1,0,0])) [1,0,0,1,1,1,1,1] (.inv (LI 127 [] (blanksL ys a2 c2 b1 e6 L d6 W w6) i) :: (kEnd Y11 (ro1 6 [0,1,0]) []))) [(1,.slice a2 ys.length c2),(5,.bool true),(6,pt b1 0),(9,.slice e6 L.length d6),(10,iv 0),(12,sv (txtW (bl4 ys) (turnW W) i)),(13,iv (i:Int)),(14,iv ((bN ys i:Nat):Int)),(15,sv x0)] ?_
     exact rest2 x0 (htu.trans ((if_neg (fun h => g2 h.1)).trans (if_neg (fun h => e1 ⟨⟨by omega,by omega⟩,h.2⟩)))) (by rw [← hx0]; exact hsh _)
    by_cases g1a : 0 < i
    ·have kf29 : ((decide ((0 : Int) < (i:Int))) && (decide (((i + 2:Nat):Int) < (L.length:Int)))) = false := by rw [show (decide ((0 : Int) < (i:Int))) = true from decide_eq_true (by omega),show (decide (((i + 2:Nat):Int) < (L.length:Int))) = false from decide_eq_false (by omega)]; first | done | rfl
     refine Zi 24 [.xg 0,.xg 0,.p (fun _ => I64 ((i + 2:Nat):Int)),.xg 0,.xg 0,.xg 0,.sg 1,.sg 1,.sg 1,.sg 1,.sg 1,.sg 1,.sg 1,.p (fun _ => ((decide ((0 : Int) < (i:Int))) && (decide (((i + 2:Nat):Int) < (L.length:Int)))) = false),.sf] [(decide ((0 : Int) < (i:Int))) = true,((decide ((0 : Int) < (i:Int))) && (decide (((i + 2:Nat):Int) < (L.length:Int)))) = (!true)] (AC (decide_eq_true (by omega)) (A1 kf29)) [] (AC (i64 (by omega)) (A1 kf29)) ?_
     by_cases g2 : 1 < i
     ·have cz : w6.cell? ⟨slB e6,slO e6 + (((i:Int) - (2 : Int)).toNat) * 4 + 1,none⟩ = some (sv xz) := by have h := cellAt tokCells_len d0T hT6 (show i - 2 < L.length by omega) (j := 1) (v := sv (L.getD (i - 2) d0T).text) rfl; rw [hxz,show i - 2 = ((i:Int) - (2 : Int)).toNat by omega] at h; exact h
      refine Zi 13 [.xg 0,.xg 0,.xg 0,.p (fun _ => I64 ((i:Int) - (2 : Int))),.xg 0,.p (fun _ => (0 ≤ ((i:Int) - (2 : Int)) ∧ ((i:Int) - (2 : Int)) < (L.length:Int))),.p (fun _ => (e6 : Option Addr) = some ⟨(slB e6),slO e6,none⟩),.xg 0,.xg 0,.p (fun _ => v0.cell? ⟨(slB e6),slO e6 + ((((i:Int) - (2 : Int))).toNat) * 4 + 1,none⟩ = some (sv xz)),.v (sv xz),.xg 0] [(decide ((1:Int) < (i:Int))) = true] (A1 (decide_eq_true (by omega))) [] (AC (i64 (by omega)) (AC (by omega) (AC (by assumption) (A1 (K6.cell cz))))) ?_
      refine Zr 0 _ (((1:Int) < (i:Int)) ∧ (xz = ([108,105,110,107]))) ((iffAnd iffDec iffDec)) (fun e2 => ?_) (fun e2 => ?_)
      ·have cm2 := hT6
       have cm : w6.cell? ⟨slB e6,slO e6 + (((i:Int) - (1 : Int)).toNat) * 4 + 1,none⟩ = some (sv xm) := by have h := cellAt tokCells_len d0T hT6 (show i - 1 < L.length by omega) (j := 1) (v := sv (L.getD (i - 1) d0T).text) rfl; rw [hxm,show i - 1 = ((i:Int) - (1 : Int)).toNat by omega] at h; exact h
       refine Zs 9 [.ld (sv xm)] [I64 ((i:Int) - (1 : Int)),(0 ≤ ((i:Int) - (1 : Int)) ∧ ((i:Int) - (1 : Int)) < (L.length:Int)),(e6 : Option Addr) = some ⟨(slB e6),slO e6,none⟩,cl v0 (slB e6) (slO e6 + ((((i:Int) - (1 : Int))).toNat) * 4 + 1) (sv xm)] (AC (i64 (by omega)) (AC (by omega) (AC (by assumption) (A1 (K6.cell cm))))) ?_
       refine Zz 0 (kAt (cAt Y11 (ro1 6 [0,1,0,0])) [1,0,0,1,1,1,1,1] (.inv (LI 127 [] (blanksL ys a2 c2 b1 e6 L d6 W w6) i) :: (kEnd Y11 (ro1 6 [0,1,0]) []))) [(1,.slice a2 ys.length c2),(5,.bool true),(6,pt b1 0),(9,.slice e6 L.length d6),(10,iv 0),(12,sv (txtW (bl4 ys) (turnW W) i)),(13,iv (i:Int)),(14,iv ((bN ys i:Nat):Int)),(15,sv xm)] ?_
       exact rest2 xm (htu.trans (if_pos ⟨by omega,e2.2⟩)) (by rw [← hxm]; exact hsh _)
      refine Zz 1 (kAt (cAt Y11 (ro1 6 [0,1,0,0])) [1,0,0,1,1,1,1,1] (.inv (LI 127 [] (blanksL ys a2 c2 b1 e6 L d6 W w6) i) :: (kEnd Y11 (ro1 6 [0,1,0]) []))) [(1,.slice a2 ys.length c2),(5,.bool true),(6,pt b1 0),(9,.slice e6 L.length d6),(10,iv 0),(12,sv (txtW (bl4 ys) (turnW W) i)),(13,iv (i:Int)),(14,iv ((bN ys i:Nat):Int)),(15,sv x0)] ?_
      exact rest2 x0 (htu.trans ((if_neg (fun h => e2 ⟨by omega,h.2⟩)).trans (if_neg (fun h => by omega)))) (by rw [← hx0]; exact hsh _)
     refine Zi 15 [.sg 0,.sg 0,.sg 0,.sg 0,.sg 0,.sg 0,.sg 0,.p (fun _ => (decide ((1:Int) < (i:Int))) = false),.sf] [(decide ((1:Int) < (i:Int))) = (!true)] (A1 (decide_eq_false (by omega))) [] (A1 (decide_eq_false (by omega))) ?_
     refine Zz 0 (kAt (cAt Y11 (ro1 6 [0,1,0,0])) [1,0,0,1,1,1,1,1] (.inv (LI 127 [] (blanksL ys a2 c2 b1 e6 L d6 W w6) i) :: (kEnd Y11 (ro1 6 [0,1,0]) []))) [(1,.slice a2 ys.length c2),(5,.bool true),(6,pt b1 0),(9,.slice e6 L.length d6),(10,iv 0),(12,sv (txtW (bl4 ys) (turnW W) i)),(13,iv (i:Int)),(14,iv ((bN ys i:Nat):Int)),(15,sv x0)] ?_
     exact rest2 x0 (htu.trans ((if_neg (fun h => g2 h.1)).trans (if_neg (fun h => by omega)))) (by rw [← hx0]; exact hsh _)
    refine Zi 24 [.sg 0,.sg 0,.sg 0,.sg 0,.sg 0,.p (fun _ => (decide ((0 : Int) < (i:Int))) = false),.sf,.sf,.sf,.sf,.sf,.sf,.sf,.sf,.g 1] [(decide ((0 : Int) < (i:Int))) = (!true),false = false] (AC (decide_eq_false (by omega)) (A1 rfl)) [] (A1 (decide_eq_false (by omega))) ?_
    by_cases g2 : 1 < i
    ·have cz : w6.cell? ⟨slB e6,slO e6 + (((i:Int) - (2 : Int)).toNat) * 4 + 1,none⟩ = some (sv xz) := by have h := cellAt tokCells_len d0T hT6 (show i - 2 < L.length by omega) (j := 1) (v := sv (L.getD (i - 2) d0T).text) rfl; rw [hxz,show i - 2 = ((i:Int) - (2 : Int)).toNat by omega] at h; exact h
     refine Zi 13 [.xg 0,.xg 0,.xg 0,.p (fun _ => I64 ((i:Int) - (2 : Int))),.xg 0,.p (fun _ => (0 ≤ ((i:Int) - (2 : Int)) ∧ ((i:Int) - (2 : Int)) < (L.length:Int))),.p (fun _ => (e6 : Option Addr) = some ⟨(slB e6),slO e6,none⟩),.xg 0,.xg 0,.p (fun _ => v0.cell? ⟨(slB e6),slO e6 + ((((i:Int) - (2 : Int))).toNat) * 4 + 1,none⟩ = some (sv xz)),.v (sv xz),.xg 0] [(decide ((1:Int) < (i:Int))) = true] (A1 (decide_eq_true (by omega))) [] (AC (i64 (by omega)) (AC (by omega) (AC (by assumption) (A1 (K6.cell cz))))) ?_
     refine Zr 0 _ (((1:Int) < (i:Int)) ∧ (xz = ([108,105,110,107]))) ((iffAnd iffDec iffDec)) (fun e2 => ?_) (fun e2 => ?_)
     ·have cm2 := hT6
      have cm : w6.cell? ⟨slB e6,slO e6 + (((i:Int) - (1 : Int)).toNat) * 4 + 1,none⟩ = some (sv xm) := by have h := cellAt tokCells_len d0T hT6 (show i - 1 < L.length by omega) (j := 1) (v := sv (L.getD (i - 1) d0T).text) rfl; rw [hxm,show i - 1 = ((i:Int) - (1 : Int)).toNat by omega] at h; exact h
      refine Zs 9 [.ld (sv xm)] [I64 ((i:Int) - (1 : Int)),(0 ≤ ((i:Int) - (1 : Int)) ∧ ((i:Int) - (1 : Int)) < (L.length:Int)),(e6 : Option Addr) = some ⟨(slB e6),slO e6,none⟩,cl v0 (slB e6) (slO e6 + ((((i:Int) - (1 : Int))).toNat) * 4 + 1) (sv xm)] (AC (i64 (by omega)) (AC (by omega) (AC (by assumption) (A1 (K6.cell cm))))) ?_
      refine Zz 0 (kAt (cAt Y11 (ro1 6 [0,1,0,0])) [1,0,0,1,1,1,1,1] (.inv (LI 127 [] (blanksL ys a2 c2 b1 e6 L d6 W w6) i) :: (kEnd Y11 (ro1 6 [0,1,0]) []))) [(1,.slice a2 ys.length c2),(5,.bool true),(6,pt b1 0),(9,.slice e6 L.length d6),(10,iv 0),(12,sv (txtW (bl4 ys) (turnW W) i)),(13,iv (i:Int)),(14,iv ((bN ys i:Nat):Int)),(15,sv xm)] ?_
      exact rest2 xm (htu.trans (if_pos ⟨by omega,e2.2⟩)) (by rw [← hxm]; exact hsh _)
     refine Zz 1 (kAt (cAt Y11 (ro1 6 [0,1,0,0])) [1,0,0,1,1,1,1,1] (.inv (LI 127 [] (blanksL ys a2 c2 b1 e6 L d6 W w6) i) :: (kEnd Y11 (ro1 6 [0,1,0]) []))) [(1,.slice a2 ys.length c2),(5,.bool true),(6,pt b1 0),(9,.slice e6 L.length d6),(10,iv 0),(12,sv (txtW (bl4 ys) (turnW W) i)),(13,iv (i:Int)),(14,iv ((bN ys i:Nat):Int)),(15,sv x0)] ?_
     exact rest2 x0 (htu.trans ((if_neg (fun h => e2 ⟨by omega,h.2⟩)).trans (if_neg (fun h => by omega)))) (by rw [← hx0]; exact hsh _)
    refine Zi 15 [.sg 0,.sg 0,.sg 0,.sg 0,.sg 0,.sg 0,.sg 0,.p (fun _ => (decide ((1:Int) < (i:Int))) = false),.sf] [(decide ((1:Int) < (i:Int))) = (!true)] (A1 (decide_eq_false (by omega))) [] (A1 (decide_eq_false (by omega))) ?_
    refine Zz 0 (kAt (cAt Y11 (ro1 6 [0,1,0,0])) [1,0,0,1,1,1,1,1] (.inv (LI 127 [] (blanksL ys a2 c2 b1 e6 L d6 W w6) i) :: (kEnd Y11 (ro1 6 [0,1,0]) []))) [(1,.slice a2 ys.length c2),(5,.bool true),(6,pt b1 0),(9,.slice e6 L.length d6),(10,iv 0),(12,sv (txtW (bl4 ys) (turnW W) i)),(13,iv (i:Int)),(14,iv ((bN ys i:Nat):Int)),(15,sv x0)] ?_
    exact rest2 x0 (htu.trans ((if_neg (fun h => g2 h.1)).trans (if_neg (fun h => by omega)))) (by rw [← hx0]; exact hsh _)
  refine Zq 15 ((i:Int) < (ys.length:Int)) (fun hb => ?_) (fun hb => ?_)
  ·have hka := hcy.addrE intCells_len (by decide) (show i < ys.length by omega)
   have hsi := hsy.at i
   refine Zs 5 [.ld (iv (ys.getD i 0))] [(0 ≤ (i:Int) ∧ (i:Int) < (ys.length:Int)),(a2 : Option Addr) = some ⟨(slB a2),slO a2,none⟩,cl v0 (slB a2) (slO a2 + i * 1) (iv (ys.getD i 0))] (AC (by omega) (AC (by assumption) (A1 ((hEE.trans K6).cell (cellAt intCells_len 0 hcy (show i < ys.length by omega) (j := 0) rfl))))) ?_
   refine Zl 0 E26 (pick4 (ys.getD i 0) 4 v0 hsi.1 hsi.2 (by decide)) ?_
   rintro _ _ ⟨rfl,rfl⟩
   refine Zw 3 14 (iv ((pickN (ys.getD i 0) 4:Nat):Int)) (iv ((bN ys i:Nat):Int)) (by rw [show (((pickN (ys.getD i 0) 4:Nat):Int) : Int) = ((bN ys i:Nat):Int) from by rw [bN_hit (by omega)]]) ?_
   refine Zz 0 (kAt (cAt Y11 (ro1 6 [0,1,0,0])) [1,0,0,1,1,0] (.inv (LI 127 [] (blanksL ys a2 c2 b1 e6 L d6 W w6) i) :: (kEnd Y11 (ro1 6 [0,1,0]) []))) [(1,.slice a2 ys.length c2),(5,.bool true),(6,pt b1 0),(9,.slice e6 L.length d6),(10,iv 0),(12,sv (txtW (bl4 ys) (turnW W) i)),(13,iv (i:Int)),(14,iv ((bN ys i:Nat):Int))] ?_
   exact rest
  refine Zw 2 14 (iv 0) (iv ((bN ys i:Nat):Int)) (by rw [show ((0 : Int) : Int) = ((bN ys i:Nat):Int) from by rw [bN_miss (by omega)]; rfl]) ?_
  refine Zz 0 (kAt (cAt Y11 (ro1 6 [0,1,0,0])) [1,0,0,1,1,0] (.inv (LI 127 [] (blanksL ys a2 c2 b1 e6 L d6 W w6) i) :: (kEnd Y11 (ro1 6 [0,1,0]) []))) [(1,.slice a2 ys.length c2),(5,.bool true),(6,pt b1 0),(9,.slice e6 L.length d6),(10,iv 0),(12,sv (txtW (bl4 ys) (turnW W) i)),(13,iv (i:Int)),(14,iv ((bN ys i:Nat):Int))] ?_
  exact rest
 have hie : i = W.length := by omega
 have hM30 : Hold v0 w6.heap.size [] := Hold.nil K6.le
 obtain ⟨T,hT⟩ : ∃ T,txtW (bl4 ys) (turnW W) i = T := ⟨_,rfl⟩
 refine Zw 0 12 (sv (txtW (bl4 ys) (turnW W) i)) (sv T) (by rw [hT]) ?_
 have hb1v := K6.heap hb1
 by_cases hlong : 10000 < T.length
 ·refine Zi 18 [.sg 0,.sg 0,.p (fun _ => (decide ((10000 : Int) < (((T).length:Nat):Int))) = true),.xt] [(decide ((10000 : Int) < (((T).length:Nat):Int))) = (!false)] (A1 (decide_eq_true (by omega))) [] (A1 (decide_eq_true (by omega))) ?_
  exact Z1 0 (.bool true) (⟨rfl,hEE.trans K6⟩)
 have hlaw : parseT T = (P,0,0) := by rw [← hT,hie,← hWW]; exact blanks_law hR (bl4_mem ys) (fun _ _ => rfl) (by rw [hWW,← hie,hT]; omega)
 have kf31 : ((decide ((10000 : Int) < (((T).length:Nat):Int))) || false) = false := by rw [show (decide ((10000 : Int) < (((T).length:Nat):Int))) = false from decide_eq_false (by omega)]; first | done | rfl
 refine Zi 17 [.xg 0,.xg 0,.p (fun _ => ((decide ((10000 : Int) < (((T).length:Nat):Int))) || false) = false),.s] [(decide ((10000 : Int) < (((T).length:Nat):Int))) = false] (A1 (decide_eq_false (by omega))) [] (A1 kf31) ?_
 refine Zl 0 E27 (by have h := Parse_any T v0 (hG.ext (hEE.trans K6)); rw [hlaw] at h; exact h) ?_
 rintro _ v2 ⟨q2,rfl,hy2,hA2⟩
 obtain ⟨hE32,hM33⟩ := Xt K6 hM30 hy2
 have hr2 := Ext.refl v2
 have hNv := hNN.trans (K6.trans hy2)
 refine Z0 4 (.alloc 29) (runs_alloc (z := .agg #[iv 0,iv 0,iv 0,.slice none 0 0,.slice none 0 0,.slice none 0 0,.slice none 0 0]) (by kernel_rfl)) ?_
 rintro _ v3 ⟨b3,rfl,hN34⟩
 have hl37 := Nat.le_trans hr2.le (Nat.le_of_eq hN34.lo.symm)
 have hE35 := hE32.trans hN34.ext
 have hM36 := hM33.new hN34
 have hv38 := Ext.trans hr2 hN34.ext
 refine Z0 0 (.store 29 (pt b3 0) (pv P q2)) (runs_st (hM36.blk 0 rfl) (by kernel_rfl)) ?_
 rintro _ v4 hC39
 have hE40 := hM36.toExt hE35 hC39 0 rfl
 have hM41 := hM36.set 0 rfl hC39
 have hv42 := hC39.ext hv38 hl37
 have hb1w := (hE40).heap hb1
 refine Zh 13 [.xt,.xt,.xt,.p (fun _ => v4.cell? ⟨b1,0,none⟩ = some (iv P.proto)),.p (fun _ => v4.cell? ⟨b1,1,none⟩ = some (iv P.cap)),.p (fun _ => v4.cell? ⟨b1,2,none⟩ = some (iv P.k)),.p (fun _ => v4.cell? ⟨b1,3,none⟩ = some (.slice q.a1 P.nodes.length q.c1)),.p (fun _ => v4.cell? ⟨b1,4,none⟩ = some (.slice q.a2 P.links.length q.c2)),.p (fun _ => v4.cell? ⟨b1,5,none⟩ = some (.slice q.a3 P.dests.length q.c3)),.p (fun _ => v4.cell? ⟨b1,6,none⟩ = some (.slice q.a4 P.checks.length q.c4)),.v (pv P q),.xt,.a 0 0 7] hM41 (AC (cell_of hb1w rfl) (AC (cell_of hb1w rfl) (AC (cell_of hb1w rfl) (AC (cell_of hb1w rfl) (AC (cell_of hb1w rfl) (AC (cell_of hb1w rfl) (A1 (cell_of hb1w rfl)))))))) ?_
 refine Zo 0 [.exec] (.call 19 [(pv P q),(pv P q2)]) [true = true] (A1 rfl) (runs_call E19 (by have h := Same_any P P q q2 v4 (hA.ext (hNN.trans hE40)) (hA2.ext hv42); rw [decide_eq_true (rfl : P = P)] at h; exact h)) ?_
 rintro _ v5 ⟨rfl,hy5⟩
 obtain ⟨hE43,hM44⟩ := Xt hE40 hM41 hy5
 have hv45 := Ext.trans hv42 hy5
 exact Z1 3 (.bool true) (⟨rfl,hEE.trans hE43⟩)

end Go.Proofs.YtjhgghpeapmgdaaGreatDoor
