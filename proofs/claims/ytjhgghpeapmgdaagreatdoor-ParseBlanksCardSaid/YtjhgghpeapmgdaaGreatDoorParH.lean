/-
  PARSE: contracts of the statements' pick and awake.
-/
import Derived.Test.YtjhgghpeapmgdaaGreatDoorParG
import Derived.Test.YtjhgghpeapmgdaaGreatDoorMg5
import Derived.Test.YtjhgghpeapmgdaaGreatDoorPlanR3
import Derived.Test.YtjhgghpeapmgdaaGreatDoorLz
import Derived.Test.YtjhgghpeapmgdaaGreatDoorMg2
namespace Go.Proofs.YtjhgghpeapmgdaaGreatDoor
open Go.Bk Go.Proofs

theorem E26 : Proofs.Enters Tryz.prog 26 := Proofs.enters_of Tryz.func26 (by kernel_rfl) rfl

theorem E25 : Proofs.Enters Tryz.prog 25 := Proofs.enters_of Tryz.func25 (by kernel_rfl) rfl

set_option maxRecDepth 20000 in
theorem pick4 (c : Int) (n : Nat) (w : World) (h0 : -9223372036854775808 ≤ c) (h1 : c ≤ 9223372036854775807) (hn : 0 < n) :
    Does Tryz.prog 26 [iv c,iv (n:Int)] w (fun v w' => v = .int .i64 ((pickN c n:Nat):Int) ∧ w = w') := by
 refine startZ (c := Y26) Tryz.func26 rfl (by kernel_rfl) ?_
 show H _ 13 [] _ (kAt Y26 [] []) (stz [(0,iv c),(1,iv (n:Int))]) w
 refine Zq 10 ((c : Int) < (0 : Int)) (fun h => ?_) (fun h => ?_)
 ·refine Zs 13 [] [I64 (c + (1 : Int)),I64 (-(c + (1 : Int))),(0 ≤ (-(c + (1 : Int))) ∧ 0 < (n:Int))] (AC (i64 (by omega)) (AC (i64 (by omega)) (A1 (by omega)))) ?_
  exact Z1 0 (iv ((-(c + (1 : Int))) % (n:Int))) (⟨by rw [pickN_neg hn h],rfl⟩)
 refine Zs 8 [] [(0 ≤ c ∧ 0 < (n:Int))] (A1 (by omega)) ?_
 exact Z1 0 (iv (c % (n:Int))) (⟨by rw [pickN_nat hn h],rfl⟩)

set_option maxRecDepth 20000 in
theorem awake4  (w : World) (hG : Glob w) :
    Does Tryz.prog 25 [] w (fun v w' => v = .bool true ∧ Ext w w') := by
 refine startZ (c := Y25) Tryz.func25 rfl (by kernel_rfl) ?_
 show H _ 42 [] _ (kAt Y25 [] []) [] w
 have hE1 : Ext w w := Ext.refl w
 have hM2 : Hold w w.heap.size [] := Hold.nil hE1.le
 have h1 := Parse_any [112,114,111,116,111,99,111,108,32,118,101,99,116,111,114,59,32,102,97,105,108,117,114,101,115,32,48,59,32,110,111,100,101,32,97,32,49,59,32,108,105,110,107,32,97,32,97,32,49,59] w hG
 rw [awp1] at h1
 refine Zl 6 E27 (h1) ?_
 rintro _ w1 ⟨q1,rfl,hx1,hP1⟩
 obtain ⟨hE3,hM4⟩ := Xt hE1 hM2 hx1
 refine Za 4 29 [iv 0,iv 0,iv 0,.slice none 0 0,.slice none 0 0,.slice none 0 0,.slice none 0 0] hE3 hM4 ?_
 intro b1 w2 hE6 hM7
 refine Zt 0 0 0 (pv noPlan q1) rfl hE6 hM7 ?_
 intro w3 hE9 hM10
 have h2 := Parse_any [112,114,111,116,111,99,111,108,32,112,97,116,104,32,51,59,32,102,97,105,108,117,114,101,115,32,49,59,32,110,111,100,101,32,98,32,55,59,32,110,111,100,101,32,97,32,57,59,32,108,105,110,107,32,97,32,98,32,50,59,32,100,101,115,116,32,120,32,97,116,32,97,32,98,59,32,99,104,101,99,107,32,101,113,117,97,108,32,97,32,98,32,120,59] w3 (hG.ext hE9)
 rw [awp2] at h2
 refine Zl 5 E27 (h2) ?_
 rintro _ w4 ⟨q2,rfl,hx4,hP2⟩
 obtain ⟨hE11,hM12⟩ := Xt hE9 hM10 hx4
 have hF4 := Ext.refl w4
 refine Z0 4 (.alloc 29) (runs_alloc (z := .agg #[iv 0,iv 0,iv 0,.slice none 0 0,.slice none 0 0,.slice none 0 0,.slice none 0 0]) (by kernel_rfl)) ?_
 rintro _ w5 ⟨b2,rfl,hN13⟩
 have hl16 := Nat.le_trans hF4.le (Nat.le_of_eq hN13.lo.symm)
 have hE14 := hE11.trans hN13.ext
 have hM15 := hM12.new hN13
 have hv17 := Ext.trans hF4 hN13.ext
 refine Z0 0 (.store 29 (pt b2 0) (pv awPar q2)) (runs_st (hM15.blk 0 rfl) (by kernel_rfl)) ?_
 rintro _ w6 hC18
 have hE19 := hM15.toExt hE14 hC18 0 rfl
 have hM20 := hM15.set 0 rfl hC18
 have hv21 := hC18.ext hv17 hl16
 refine Zh 6 [.a 0 0 7] hM20 trivial ?_
 have h3 := rPrint_any awPar q2 w6 (hP2.ext hv21)
 rw [awp3] at h3
 refine Zl 0 E16 (h3) ?_
 rintro _ w7 ⟨rfl,hx7⟩
 obtain ⟨hE22,hM23⟩ := Xt hE19 hM20 hx7
 have hv24 := Ext.trans hv21 hx7
 refine Zi 28 [.xt,.xt,.xt,.xt,.xt,.xt,.xt,.xt] [] trivial [] trivial ?_
 exact Z1 0 (.bool true) (⟨rfl,hE22⟩)

end Go.Proofs.YtjhgghpeapmgdaaGreatDoor
