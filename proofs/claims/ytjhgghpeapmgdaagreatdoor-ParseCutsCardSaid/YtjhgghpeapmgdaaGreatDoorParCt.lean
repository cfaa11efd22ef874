/-
  PARSE: ParseCuts returns true: a text that is cut behind a token, but not behind a stop, is told at its end.
-/
import Derived.Test.YtjhgghpeapmgdaaGreatDoorParH
import Derived.Test.YtjhgghpeapmgdaaGreatDoorParCut
import Derived.Test.YtjhgghpeapmgdaaGreatDoorMg7
import Derived.Test.YtjhgghpeapmgdaaGreatDoorPlanJ
import Derived.Test.YtjhgghpeapmgdaaGreatDoorLexD
import Derived.Test.YtjhgghpeapmgdaaGreatDoorLz
import Derived.Test.YtjhgghpeapmgdaaGreatDoorMg2
namespace Go.Proofs.YtjhgghpeapmgdaaGreatDoor
open Go.Bk Go.Proofs

set_option maxRecDepth 20000 in
theorem ParseCuts_any (raw : List Int) (a : Option Addr) (c : Nat) (n1 : Int) (w : World) (hG : Glob w) (hc : Cells w a (raw.flatMap intCells)) (hs : Small raw) (hcap : raw.length ≤ c) (hb0 : -9223372036854775808 ≤ n1) (hb1 : n1 ≤ 9223372036854775807) :
    Does Tryz.prog 7 [.slice a raw.length c,iv n1] w (fun v w' => v = .bool true ∧ Ext w w') := by
 refine startZ (c := Y7) Tryz.func7 rfl (by kernel_rfl) ?_
 show H _ 116 [] _ (kAt Y7 [] []) (stz [(0,.slice a raw.length c),(1,iv n1)]) w
 obtain ⟨P,hPP⟩ : ∃ P,netP raw = P := ⟨_,rfl⟩
 have hR : RightP P := hPP ▸ netP_right raw
 have hE1 : Ext w w := Ext.refl w
 have hM2 : Hold w w.heap.size [] := Hold.nil hE1.le
 refine Zl 6 E25 (awake4 w hG) ?_
 rintro _ w0 ⟨rfl,hx0⟩
 obtain ⟨hE3,hM4⟩ := Xt hE1 hM2 hx0
 refine Zl 5 E14 (by have h := Net_any raw a c w0 (hc.ext hE3) hs hcap; rw [hPP] at h; exact h) ?_
 rintro _ w1 ⟨q,rfl,hx1,hN1⟩
 obtain ⟨hE5,hM6⟩ := Xt hE3 hM4 hx1
 have hA := hN1.plan hR
 have hr := Ext.refl w1
 refine Z0 0 (.alloc 29) (runs_alloc (z := .agg #[iv 0,iv 0,iv 0,.slice none 0 0,.slice none 0 0,.slice none 0 0,.slice none 0 0]) (by kernel_rfl)) ?_
 rintro _ wa ⟨b1,rfl,hN7⟩
 have hl10 := Nat.le_trans hr.le (Nat.le_of_eq hN7.lo.symm)
 have hE8 := hE5.trans hN7.ext
 have hM9 := hM6.new hN7
 have hv11 := Ext.trans hr hN7.ext
 refine Z0 0 (.store 29 (pt b1 0) (pv P q)) (runs_st (hM9.blk 0 rfl) (by kernel_rfl)) ?_
 rintro _ wb hC12
 have hE13 := hM9.toExt hE8 hC12 0 rfl
 have hM14 := hM9.set 0 rfl hC12
 have hv15 := hC12.ext hv11 hl10
 refine Zh 4 [.a 0 0 7] hM14 trivial ?_
 have hpl := print_len hR
 have hl0 := lex_print hR
 obtain ⟨L,hL⟩ : ∃ L,lexT (printT P) = (L,0,0) := ⟨_,hl0⟩
 have hL2 := lex_two hR hL
 have hcut := fun k (hk : k + 1 < L.length) => cuts_law hR hL (k := k) hk
 have htl := lexT_len (printT P)
 rw [hL] at htl
 clear hl0
 refine Zz 0 (kOp Y7 [1,1,1,0] 1 []) [(1,iv n1),(4,.bool false),(5,.bool true),(21,(pv P q))] ?_
 change L.length ≤ 10001 at htl
 refine Zl 0 E15 (by have h := Print_any P q wb (hA.ext hv15) (hG.ext hE13); rw [printB_right hR] at h; exact h) ?_
 rintro _ w2 ⟨rfl,hx2⟩
 obtain ⟨hE16,hM17⟩ := Xt hE13 hM14 hx2
 have hv18 := Ext.trans hv15 hx2
 obtain ⟨s0,hs0⟩ : ∃ s,printT P = s := ⟨_,rfl⟩
 refine Zw 0 22 (.tuple #[sv (printT P),iv 0]) (.tuple #[sv s0,iv 0]) (by rw [hs0]) ?_
 rw [hs0] at hpl hL hcut
 refine Zl 9 E29 (by have h := rLex_any s0 w2; rw [hL] at h; exact h) ?_
 rintro _ w6 ⟨_,rfl,⟨e6,d6,rfl,hT6⟩,hx6⟩
 obtain ⟨hE19,hM20⟩ := Xt hE16 hM17 hx6
 have hv21 := Ext.trans hv18 hx6
 have hr6 := Ext.refl w6
 refine Zi 31 [.xf,.xf,.xf,.xf,.xf,.p (fun _ => (decide ((L.length:Int) < (2 : Int))) = false),.p (fun _ => I64 ((L.length:Int) - (1 : Int))),.s] [] trivial [] (AC (decide_eq_false (by omega)) (A1 (i64 (by omega)))) ?_
 refine Zw 0 45 (iv ((L.length:Int) - (1 : Int))) (iv ((L.length - 1:Nat):Int)) (by rw [show (((L.length:Int) - (1 : Int)) : Int) = ((L.length - 1:Nat):Int) from by omega]) ?_
 refine Zl 0 E26 (pick4 n1 (L.length - 1) w6 hb0 hb1 (by omega)) ?_
 rintro _ _ ⟨rfl,rfl⟩
 have hk := pickN_lt n1 (show 0 < L.length - 1 by omega)
 obtain ⟨k,hke⟩ : ∃ k,pickN n1 (L.length - 1) = k := ⟨_,rfl⟩
 refine Zw 0 46 (iv ((pickN n1 (L.length - 1):Nat):Int)) (iv (k:Int)) (by rw [hke]) ?_
 rw [hke] at hk
 have hkL : k < L.length := by omega
 obtain ⟨m,hm1,hm2,hlaw⟩ := hcut k (by omega)
 have ha := hT6.addrE tokCells_len (by decide) hkL
 have c3 : w6.cell? ⟨slB e6,slO e6 + k * 4 + 3,none⟩ = some (iv (L.getD k d0T).at') := cellAt tokCells_len d0T hT6 hkL (j := 3) rfl
 have c1 : w6.cell? ⟨slB e6,slO e6 + k * 4 + 1,none⟩ = some (sv (L.getD k d0T).text) := cellAt tokCells_len d0T hT6 hkL (j := 1) rfl
 have c0 : w6.cell? ⟨slB e6,slO e6 + k * 4 + 0,none⟩ = some (iv (L.getD k d0T).kind) := cellAt tokCells_len d0T hT6 hkL (j := 0) rfl
 obtain ⟨t,ht⟩ : ∃ t,L.getD k d0T = t := ⟨_,rfl⟩
 rw [ht] at hm2 hlaw c0 c1 c3
 refine Zs 3 [] [] trivial ?_
 refine ZB 18 (kAt Y7 (ro1 8 []) []) 8 (opsAt (cAt Y7 (ro1 7 [0]))) (fun w1 => Ext w1) ?_
 intro w22 hx23
 obtain ⟨hE24,hM25⟩ := Xt hE19 hM20 hx23
 have hv26 := Ext.trans hr6 hx23
 refine dg [0,1,2,3,4,5,6,7,8,9,10,11,12,13,14,15,16,17] [.g 0,.g 1,.p (fun w' => (w').cell? ⟨(slB e6),slO e6 + k * 4 + 3,none⟩ = some (iv (t.at'))),.g 0,.g 1,.p (fun w' => (w').cell? ⟨(slB e6),slO e6 + k * 4 + 1,none⟩ = some (sv t.text)),.p (fun _ => I64 (t.at' + (((t.text).length:Nat):Int))),.p (fun _ => (0 ≤ (min (t.at' + (((t.text).length:Nat):Int)) (((s0).length:Nat):Int)) ∧ (min (t.at' + (((t.text).length:Nat):Int)) (((s0).length:Nat):Int)) ≤ ((s0).length : Int))),.v (iv (t.at')),.v (sv t.text)] 0 (lb 18 262143) [(0 ≤ (k:Int) ∧ (k:Int) < (L.length:Int)),(e6 : Option Addr) = some ⟨(slB e6),slO e6,none⟩] (AC (by omega) (A1 (by assumption))) [] (fun w' hS => (AC (hS.cell (hv26.cell c3)) (AC (hS.cell (hv26.cell c1)) (AC (i64 (by omega)) (A1 (by omega)))))) (Ext.refl _) ?_
 refine ZD ?_
 have hmm : s0.take (((min (t.at' + (((t.text).length:Nat):Int)) (((s0).length:Nat):Int))).toNat) = s0.take m := by congr 1; omega
 refine Zw 3 13 (sv (s0.take (((min (t.at' + (((t.text).length:Nat):Int)) (((s0).length:Nat):Int))).toNat))) (sv (s0.take m)) (by rw [hmm]) ?_
 refine Zw 0 65 (sv (s0.take (((min (t.at' + (((t.text).length:Nat):Int)) (((s0).length:Nat):Int))).toNat))) (sv (s0.take m)) (by rw [hmm]) ?_
 obtain ⟨x,hx⟩ : ∃ x,s0.take m = x := ⟨_,rfl⟩
 refine Zw 0 13 (sv (s0.take m)) (sv x) (by rw [hx]) ?_
 refine Zw 0 65 (sv (s0.take m)) (sv x) (by rw [hx]) ?_
 have hxl : x.length = m := by rw [← hx,List.length_take]; omega
 rw [hx] at hlaw
 rcases hlaw with ⟨hk3,hp⟩ | ⟨hk3,⟨q9,hp⟩ | hp | ⟨pl,hpl,hp⟩⟩
 ·refine Zl 0 E27 (by have h := Parse_any x w22 (hG.ext hE24); rw [hp] at h; exact h) ?_
  rintro _ w7 ⟨q7,rfl,hx7,_⟩
  obtain ⟨hE27,hM28⟩ := Xt hE24 hM25 hx7
  have hv29 := Ext.trans hv26 hx7
  refine Z0 4 (.alloc 29) (runs_alloc (z := .agg #[iv 0,iv 0,iv 0,.slice none 0 0,.slice none 0 0,.slice none 0 0,.slice none 0 0]) (by kernel_rfl)) ?_
  rintro _ w8 ⟨b5,rfl,hN30⟩
  have hl33 := Nat.le_trans hv29.le (Nat.le_of_eq hN30.lo.symm)
  have hE31 := hE27.trans hN30.ext
  have hM32 := hM28.new hN30
  have hv34 := Ext.trans hv29 hN30.ext
  refine Z0 0 (.store 29 (pt b5 0) (pv noPlan q7)) (runs_st (hM32.blk 0 rfl) (by kernel_rfl)) ?_
  rintro _ w9 hC35
  have hE36 := hM32.toExt hE31 hC35 0 rfl
  have hM37 := hM32.set 0 rfl hC35
  have hv38 := hC35.ext hv34 hl33
  have kf39 : (!(decide ((t.kind : Int) = (3 : Int)))) = true := by rw [show (decide ((t.kind : Int) = (3 : Int))) = false from decide_eq_false hk3]; first | done | rfl
  refine Zi 29 [.p (fun _ => (0 ≤ (k:Int) ∧ (k:Int) < (L.length:Int))),.p (fun _ => (e6 : Option Addr) = some ⟨(slB e6),slO e6,none⟩),.p (fun _ => w9.cell? ⟨(slB e6),slO e6 + k * 4,none⟩ = some (iv t.kind)),.p (fun _ => (!(decide ((t.kind : Int) = (3 : Int)))) = true),.v (iv t.kind),.xt,.xt,.xt,.xt,.xt,.xt,.x] [] trivial [] (AC (by omega) (AC (by assumption) (AC (hv38.cell c0) (A1 kf39)))) ?_
  exact Z1 0 (.bool (decide ((m:Int) = (((x).length:Nat):Int)))) (⟨by first | rfl | exact congrArg Value.bool (decide_eq_true (by omega)),hE36⟩)
 ·refine Zl 0 E27 (by have h := Parse_any x w22 (hG.ext hE24); rw [hp] at h; exact h) ?_
  rintro _ w7 ⟨q7,rfl,hx7,_⟩
  obtain ⟨hE40,hM41⟩ := Xt hE24 hM25 hx7
  have hv42 := Ext.trans hv26 hx7
  refine Z0 4 (.alloc 29) (runs_alloc (z := .agg #[iv 0,iv 0,iv 0,.slice none 0 0,.slice none 0 0,.slice none 0 0,.slice none 0 0]) (by kernel_rfl)) ?_
  rintro _ w8 ⟨b5,rfl,hN43⟩
  have hl46 := Nat.le_trans hv42.le (Nat.le_of_eq hN43.lo.symm)
  have hE44 := hE40.trans hN43.ext
  have hM45 := hM41.new hN43
  have hv47 := Ext.trans hv42 hN43.ext
  refine Z0 0 (.store 29 (pt b5 0) (pv q9 q7)) (runs_st (hM45.blk 0 rfl) (by kernel_rfl)) ?_
  rintro _ w9 hC48
  have hE49 := hM45.toExt hE44 hC48 0 rfl
  have hM50 := hM45.set 0 rfl hC48
  have hv51 := hC48.ext hv47 hl46
  have kf52 : (!(decide ((t.kind : Int) = (3 : Int)))) = false := by rw [show (decide ((t.kind : Int) = (3 : Int))) = true from decide_eq_true hk3]; first | done | rfl
  refine Zi 48 [Ce.p (fun _ => (0 ≤ (k:Int) ∧ (k:Int) < (L.length:Int))),Ce.p (fun _ => (e6 : Option Addr) = some ⟨(slB e6),slO e6,none⟩),Ce.p (fun _ => w9.cell? ⟨(slB e6),slO e6 + k * 4,none⟩ = some (iv t.kind)),Ce.p (fun _ => (!(decide ((t.kind : Int) = (3 : Int)))) = false),Ce.v (iv t.kind),Ce.st,Ce.xt,Ce.xt,Ce.xt,Ce.xt,Ce.xt,Ce.xt,Ce.xt,Ce.st,Ce.st,Ce.st,Ce.st,Ce.st,Ce.st,Ce.st,Ce.st,Ce.xt,Ce.xt,Ce.st,Ce.st,Ce.s,Ce.s,Ce.s,Ce.s,Ce.s,Ce.s,Ce.x] [] trivial [] (AC (by omega) (AC (by assumption) (AC (hv51.cell c0) (A1 kf52)))) ?_
  refine Zz 0 (kAt Y7 (ro1 11 []) []) [(4,.bool true)] ?_
  exact Z1 0 (.bool true) (⟨by first | rfl | exact congrArg Value.bool (decide_eq_true (by omega)),hE49⟩)
 ·refine Zl 0 E27 (by have h := Parse_any x w22 (hG.ext hE24); rw [hp] at h; exact h) ?_
  rintro _ w7 ⟨q7,rfl,hx7,_⟩
  obtain ⟨hE53,hM54⟩ := Xt hE24 hM25 hx7
  have hv55 := Ext.trans hv26 hx7
  refine Z0 4 (.alloc 29) (runs_alloc (z := .agg #[iv 0,iv 0,iv 0,.slice none 0 0,.slice none 0 0,.slice none 0 0,.slice none 0 0]) (by kernel_rfl)) ?_
  rintro _ w8 ⟨b5,rfl,hN56⟩
  have hl59 := Nat.le_trans hv55.le (Nat.le_of_eq hN56.lo.symm)
  have hE57 := hE53.trans hN56.ext
  have hM58 := hM54.new hN56
  have hv60 := Ext.trans hv55 hN56.ext
  refine Z0 0 (.store 29 (pt b5 0) (pv noPlan q7)) (runs_st (hM58.blk 0 rfl) (by kernel_rfl)) ?_
  rintro _ w9 hC61
  have hE62 := hM58.toExt hE57 hC61 0 rfl
  have hM63 := hM58.set 0 rfl hC61
  have hv64 := hC61.ext hv60 hl59
  have kf65 : (!(decide ((t.kind : Int) = (3 : Int)))) = false := by rw [show (decide ((t.kind : Int) = (3 : Int))) = true from decide_eq_true hk3]; first | done | rfl
  refine Zi 48 [Ce.p (fun _ => (0 ≤ (k:Int) ∧ (k:Int) < (L.length:Int))),Ce.p (fun _ => (e6 : Option Addr) = some ⟨(slB e6),slO e6,none⟩),Ce.p (fun _ => w9.cell? ⟨(slB e6),slO e6 + k * 4,none⟩ = some (iv t.kind)),Ce.p (fun _ => (!(decide ((t.kind : Int) = (3 : Int)))) = false),Ce.v (iv t.kind),Ce.st,Ce.xt,Ce.xt,Ce.xf,Ce.sf,Ce.st,Ce.xf,Ce.xt,Ce.xf,Ce.xf,Ce.xf,Ce.xt,Ce.xt,Ce.xt,Ce.xt,Ce.xf,Ce.xt,Ce.xt,Ce.sg 0,Ce.sg 0,Ce.sg 0,Ce.sg 0,Ce.st,Ce.p (fun _ => (decide ((m:Int) = (((x).length:Nat):Int))) = true),Ce.s,Ce.s,Ce.s,Ce.x] [(decide ((m:Int) = (((x).length:Nat):Int))) = (!false)] (A1 (decide_eq_true (by omega))) [] (AC (by omega) (AC (by assumption) (AC (hv64.cell c0) (AC kf65 (A1 (decide_eq_true (by omega))))))) ?_
  refine Zz 0 (kAt Y7 (ro1 11 []) []) [(4,.bool true)] ?_
  exact Z1 0 (.bool true) (⟨by first | rfl | exact congrArg Value.bool (decide_eq_true (by omega)),hE62⟩)
 refine Zl 0 E27 (by have h := Parse_any x w22 (hG.ext hE24); rw [hp] at h; exact h) ?_
 rintro _ w7 ⟨q7,rfl,hx7,_⟩
 obtain ⟨hE66,hM67⟩ := Xt hE24 hM25 hx7
 have hv68 := Ext.trans hv26 hx7
 refine Z0 4 (.alloc 29) (runs_alloc (z := .agg #[iv 0,iv 0,iv 0,.slice none 0 0,.slice none 0 0,.slice none 0 0,.slice none 0 0]) (by kernel_rfl)) ?_
 rintro _ w8 ⟨b5,rfl,hN69⟩
 have hl72 := Nat.le_trans hv68.le (Nat.le_of_eq hN69.lo.symm)
 have hE70 := hE66.trans hN69.ext
 have hM71 := hM67.new hN69
 have hv73 := Ext.trans hv68 hN69.ext
 refine Z0 0 (.store 29 (pt b5 0) (pv noPlan q7)) (runs_st (hM71.blk 0 rfl) (by kernel_rfl)) ?_
 rintro _ w9 hC74
 have hE75 := hM71.toExt hE70 hC74 0 rfl
 have hM76 := hM71.set 0 rfl hC74
 have hv77 := hC74.ext hv73 hl72
 have kf78 : (!(decide ((t.kind : Int) = (3 : Int)))) = false := by rw [show (decide ((t.kind : Int) = (3 : Int))) = true from decide_eq_true hk3]; first | done | rfl
 refine Zi 48 [Ce.p (fun _ => (0 ≤ (k:Int) ∧ (k:Int) < (L.length:Int))),Ce.p (fun _ => (e6 : Option Addr) = some ⟨(slB e6),slO e6,none⟩),Ce.p (fun _ => w9.cell? ⟨(slB e6),slO e6 + k * 4,none⟩ = some (iv t.kind)),Ce.p (fun _ => (!(decide ((t.kind : Int) = (3 : Int)))) = false),Ce.v (iv t.kind),Ce.st,Ce.xt,Ce.xt,Ce.xf,Ce.sf,Ce.st,Ce.xf,Ce.xt,Ce.xf,Ce.xf,Ce.xf,Ce.sf,Ce.sf,Ce.sf,Ce.sf,Ce.xf,Ce.xf,Ce.xt,Ce.xt,Ce.xf,Ce.xf,Ce.xf,Ce.xt,Ce.xt,Ce.xt,Ce.xt,Ce.xf,Ce.g 0] [true = true] (A1 rfl) [] (AC (by omega) (AC (by assumption) (AC (hv77.cell c0) (A1 kf78)))) ?_
 refine Zz 0 (kAt Y7 (ro1 11 []) []) [(4,.bool (decide ((pl : Int) < (((x).length:Nat):Int))))] ?_
 exact Z1 0 (.bool (decide ((pl : Int) < (((x).length:Nat):Int)))) (⟨by first | rfl | exact congrArg Value.bool (decide_eq_true (by omega)),hE75⟩)

end Go.Proofs.YtjhgghpeapmgdaaGreatDoor
