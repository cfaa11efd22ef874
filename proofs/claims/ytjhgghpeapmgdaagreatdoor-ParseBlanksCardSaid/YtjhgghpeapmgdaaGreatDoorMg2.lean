/-
  Texts that belong together: Fns, PlanA, PlanB.
-/
import Derived.Test.YtjhgghpeapmgdaaGreatDoorRows
import Derived.Test.YtjhgghpeapmgdaaGreatDoorRun
import Derived.Test.YtjhgghpeapmgdaaGreatDoorOwn
import Derived.Test.YtjhgghpeapmgdaaGreatDoorPlanSpec
import Derived.Test.YtjhgghpeapmgdaaGreatDoorLz
/-
  Short names for the functions' bodies.
-/
namespace Go.Proofs.YtjhgghpeapmgdaaGreatDoor
open Go.Bk Go.Proofs
noncomputable abbrev Y11 := bodyOf Tryz.f11
noncomputable abbrev Y14 := bodyOf Tryz.f14
noncomputable abbrev Y15 := bodyOf Tryz.f15
noncomputable abbrev Y16 := bodyOf Tryz.f16
noncomputable abbrev Y17 := bodyOf Tryz.f17
noncomputable abbrev Y18 := bodyOf Tryz.f18
noncomputable abbrev Y19 := bodyOf Tryz.f19
noncomputable abbrev Y21 := bodyOf Tryz.f21
noncomputable abbrev Y23 := bodyOf Tryz.f23
noncomputable abbrev Y25 := bodyOf Tryz.f25
noncomputable abbrev Y26 := bodyOf Tryz.f26
noncomputable abbrev Y27 := bodyOf Tryz.f27
noncomputable abbrev Y28 := bodyOf Tryz.f28
noncomputable abbrev Y29 := bodyOf Tryz.f29
noncomputable abbrev Y30 := bodyOf Tryz.f30
noncomputable abbrev Y31 := bodyOf Tryz.f31
noncomputable abbrev Y32 := bodyOf Tryz.f32
noncomputable abbrev Y33 := bodyOf Tryz.f33
noncomputable abbrev Y34 := bodyOf Tryz.f34
noncomputable abbrev Y35 := bodyOf Tryz.f35
noncomputable abbrev Y36 := bodyOf Tryz.f36
noncomputable abbrev Y37 := bodyOf Tryz.f37
noncomputable abbrev Y38 := bodyOf Tryz.f38
noncomputable abbrev Y39 := bodyOf Tryz.f39
noncomputable abbrev Y40 := bodyOf Tryz.f40
noncomputable abbrev Y41 := bodyOf Tryz.f41
noncomputable abbrev Y42 := bodyOf Tryz.f42
noncomputable abbrev Y43 := bodyOf Tryz.f43
noncomputable abbrev Y44 := bodyOf Tryz.f44
noncomputable abbrev Y45 := bodyOf Tryz.f45
noncomputable abbrev Y46 := bodyOf Tryz.f46
noncomputable abbrev Y47 := bodyOf Tryz.f47
noncomputable abbrev Y48 := bodyOf Tryz.f48
noncomputable abbrev Y49 := bodyOf Tryz.f49
noncomputable abbrev Y50 := bodyOf Tryz.f50
noncomputable abbrev Y51 := bodyOf Tryz.f51
noncomputable abbrev Y52 := bodyOf Tryz.f52
noncomputable abbrev Y53 := bodyOf Tryz.f53
noncomputable abbrev Y54 := bodyOf Tryz.f54
noncomputable abbrev Y55 := bodyOf Tryz.f55
noncomputable abbrev Y56 := bodyOf Tryz.f56
noncomputable abbrev Y57 := bodyOf Tryz.f57
noncomputable abbrev Y58 := bodyOf Tryz.f58
noncomputable abbrev Y59 := bodyOf Tryz.f59
noncomputable abbrev Y60 := bodyOf Tryz.f60
noncomputable abbrev Y61 := bodyOf Tryz.f61
noncomputable abbrev Y62 := bodyOf Tryz.f62
noncomputable abbrev Y63 := bodyOf Tryz.f63
noncomputable abbrev Y64 := bodyOf Tryz.f64
noncomputable abbrev Y65 := bodyOf Tryz.f65
noncomputable abbrev Y66 := bodyOf Tryz.f66
noncomputable abbrev Y67 := bodyOf Tryz.f67
noncomputable abbrev Y68 := bodyOf Tryz.f68
noncomputable abbrev Y69 := bodyOf Tryz.f69
noncomputable abbrev Y70 := bodyOf Tryz.f70
noncomputable abbrev Y71 := bodyOf Tryz.f71
noncomputable abbrev Y74 := bodyOf Tryz.f74
noncomputable abbrev Y75 := bodyOf Tryz.f75
noncomputable abbrev Y76 := bodyOf Tryz.f76
noncomputable abbrev Y77 := bodyOf Tryz.f77
noncomputable abbrev Y79 := bodyOf Tryz.f79
noncomputable abbrev Y80 := bodyOf Tryz.f80
noncomputable abbrev Y81 := bodyOf Tryz.f81
noncomputable abbrev Y83 := bodyOf Tryz.f83
noncomputable abbrev Y84 := bodyOf Tryz.f84
noncomputable abbrev Y85 := bodyOf Tryz.f85
noncomputable abbrev Y86 := bodyOf Tryz.f86
noncomputable abbrev Y87 := bodyOf Tryz.f87
noncomputable abbrev Y88 := bodyOf Tryz.f88
noncomputable abbrev Y89 := bodyOf Tryz.f89
noncomputable abbrev Y90 := bodyOf Tryz.f90
noncomputable abbrev Y91 := bodyOf Tryz.f91
noncomputable abbrev Y92 := bodyOf Tryz.f92
noncomputable abbrev Y93 := bodyOf Tryz.f93
noncomputable abbrev Y94 := bodyOf Tryz.f94
noncomputable abbrev Y95 := bodyOf Tryz.f95
noncomputable abbrev Y97 := bodyOf Tryz.f97
noncomputable abbrev Y98 := bodyOf Tryz.f98
noncomputable abbrev Y99 := bodyOf Tryz.f99
noncomputable abbrev Y100 := bodyOf Tryz.f100
noncomputable abbrev Y101 := bodyOf Tryz.f101
noncomputable abbrev Y102 := bodyOf Tryz.f102
noncomputable abbrev Y103 := bodyOf Tryz.f103
noncomputable abbrev Y108 := bodyOf Tryz.f108
noncomputable abbrev Y109 := bodyOf Tryz.f109
noncomputable abbrev Y110 := bodyOf Tryz.f110
noncomputable abbrev Y111 := bodyOf Tryz.f111
noncomputable abbrev Y112 := bodyOf Tryz.f112
noncomputable abbrev Y113 := bodyOf Tryz.f113
noncomputable abbrev Y114 := bodyOf Tryz.f114
noncomputable abbrev Y115 := bodyOf Tryz.f115
noncomputable abbrev Y116 := bodyOf Tryz.f116
noncomputable abbrev Y117 := bodyOf Tryz.f117
noncomputable abbrev Y118 := bodyOf Tryz.f118
noncomputable abbrev Y119 := bodyOf Tryz.f119
noncomputable abbrev Y121 := bodyOf Tryz.f121
noncomputable abbrev Y122 := bodyOf Tryz.f122
noncomputable abbrev Y126 := bodyOf Tryz.f126
noncomputable abbrev Y141 := bodyOf Tryz.f141
noncomputable abbrev Y142 := bodyOf Tryz.f142
end Go.Proofs.YtjhgghpeapmgdaaGreatDoor
/-
  PLAN: contracts of the statements' helpers.
-/
namespace Go.Proofs.YtjhgghpeapmgdaaGreatDoor
open Go.Bk Go.Proofs

theorem E70 : Proofs.Enters Tryz.prog 70 := Proofs.enters_of Tryz.func70 (by kernel_rfl) rfl

theorem E30 : Proofs.Enters Tryz.prog 30 := Proofs.enters_of Tryz.func30 (by kernel_rfl) rfl

theorem E14 : Proofs.Enters Tryz.prog 14 := Proofs.enters_of Tryz.func14 (by kernel_rfl) rfl

set_option maxRecDepth 20000 in
theorem pick_any (c : Int) (n : Nat) (w : World) (h0 : -9223372036854775808 ≤ c) (h1 : c ≤ 9223372036854775807) (hn : 0 < n) :
    Does Tryz.prog 70 [iv c,iv (n:Int)] w (fun v w' => v = .int .i64 ((pickN c n:Nat):Int) ∧ w = w') := by
 refine startZ (c := Y70) Tryz.func70 rfl (by kernel_rfl) ?_
 show H _ 13 [] _ (kAt Y70 [] []) (stz [(0,iv c),(1,iv (n:Int))]) w
 refine Zq 10 ((c : Int) < (0 : Int)) (fun h => ?_) (fun h => ?_)
 ·refine Zs 13 [] [I64 (c + (1 : Int)),I64 (-(c + (1 : Int))),(0 ≤ (-(c + (1 : Int))) ∧ 0 < (n:Int))] (AC (i64 (by omega)) (AC (i64 (by omega)) (A1 (by omega)))) ?_
  exact Z1 0 (iv ((-(c + (1 : Int))) % (n:Int))) (⟨by rw [pickN_neg hn h],rfl⟩)
 refine Zs 8 [] [(0 ≤ c ∧ 0 < (n:Int))] (A1 (by omega)) ?_
 exact Z1 0 (iv (c % (n:Int))) (⟨by rw [pickN_nat hn h],rfl⟩)

set_option maxRecDepth 20000 in
theorem next_any (w0 : World) (b : Nat) (L : List Int) (a : Option Addr) (c n : Nat) (w : World) (hE : Ext w0 w) (hc : Cells w0 a (L.flatMap intCells)) (hs : Small L) (hn : 0 < n) (hcap : L.length ≤ c) (hb : w.heap[b]? = some (.cells #[.slice a L.length c] 64 (0,0))) :
    Does Tryz.prog 30 [pt b 0,iv (n:Int)] w (fun v w' => v = .int .i64 ((nextV L n:Nat):Int) ∧ ∃ a' c',Chg w w' b (.cells #[.slice a' (L.drop 1).length c'] 64 (0,0)) ∧ Cells w0 a' ((L.drop 1).flatMap intCells) ∧ (L.drop 1).length ≤ c') := by
 refine startZ (c := Y30) Tryz.func30 rfl (by kernel_rfl) ?_
 show H _ 29 [] _ (kAt Y30 [] []) (stz [(0,pt b 0),(1,iv (n:Int))]) w
 refine Zs 14 [.ld (.slice a L.length c)] [cl w b 0 (.slice a L.length c)] (A1 (cell_of hb rfl)) ?_
 refine Zq 0 ((L.length:Int) = (0 : Int)) (fun h => ?_) (fun h => ?_)
 ·have hl : L = [] := List.length_eq_zero_iff.1 (by omega)
  exact Z1 4 (iv 0) (⟨by subst hl; rfl,a,c,by subst hl; exact Chg.same hb,by subst hl; exact .inl rfl,by subst hl; exact Nat.zero_le _⟩)
 have hne : L ≠ [] := fun e => h (by rw [e]; rfl)
 have hpos : 0 < L.length := List.length_pos_iff.2 hne
 have ha := hc.addrE intCells_len (by decide) hpos
 have hsi := hs.at 0
 refine Zs 10 [.ld (.slice a L.length c),.ld (iv (L.getD 0 0))] [cl w b 0 (.slice a L.length c),(0 ≤ (0 : Int) ∧ (0 : Int) < (L.length:Int)),(a : Option Addr) = some ⟨(slB a),slO a,none⟩,cl w (slB a) (slO a + 0) (iv (L.getD 0 0))] (AC (cell_of hb rfl) (AC (by omega) (AC (by assumption) (A1 (hE.cell (int_cell hc hpos)))))) ?_
 obtain ⟨x0,hx0⟩ : ∃ x,L.getD 0 0 = x := ⟨_,rfl⟩
 refine Zw 0 17 (iv (L.getD 0 0)) (iv x0) (by rw [hx0]) ?_
 rw [hx0] at hsi
 refine Zl 0 E70 (pick_any x0 n w hsi.1 hsi.2 hn) ?_
 rintro _ _ ⟨rfl,rfl⟩
 refine Zs 9 [.ld (.slice a L.length c)] [cl w b 0 (.slice a L.length c)] (A1 (cell_of hb rfl)) ?_
 refine Z0 0 (.slc 22 (.slice a L.length c) (some (iv 1)) none none) (runs_slc_lo (l := 1) intCells_len Tryz.underlying22 (by kernel_rfl) hc (by omega) hcap) ?_
 rintro _ _ ⟨rfl,a1,rfl,hc1⟩
 refine Z0 2 (.store 22 (pt b 0) (.slice a1 ((L.drop 1).length) (c - 1))) ((runs_store (s := 1) (cs := [.slice a L.length c]) (by kernel_rfl) hb rfl (Nat.le_of_ble_eq_true rfl) (by simp [Value.cells,Value.oneCell'])).mono (Ψ := fun _ w' => Chg w w' b (.cells #[.slice a1 (L.drop 1).length (c - 1)] 64 (0,0))) fun _ _ h => h) ?_
 rintro _ w1 hC
 exact Z1 6 (iv ((pickN x0 n:Nat):Int)) (⟨by unfold nextV; rw [if_neg hne,hx0],a1,c - 1,hC,hc1,by rw [List.length_drop]; omega⟩)

end Go.Proofs.YtjhgghpeapmgdaaGreatDoor
/-
  PLAN: contracts of the small functions of plan.
-/
namespace Go.Proofs.YtjhgghpeapmgdaaGreatDoor
open Go.Bk Go.Proofs

theorem E42 : Proofs.Enters Tryz.prog 42 := Proofs.enters_of Tryz.func42 (by kernel_rfl) rfl

theorem E74 : Proofs.Enters Tryz.prog 74 := Proofs.enters_of Tryz.func74 (by kernel_rfl) rfl

theorem E41 : Proofs.Enters Tryz.prog 41 := Proofs.enters_of Tryz.func41 (by kernel_rfl) rfl

set_option maxRecDepth 20000 in
theorem within_any (n l m : Int) (w : World)  :
    Does Tryz.prog 42 [iv n,iv l,iv m] w (fun v w' => v = .bool (withinB n l m) ∧ w = w') := by
 refine startZ (c := Y42) Tryz.func42 rfl (by kernel_rfl) ?_
 show H _ 15 [] _ (kAt Y42 [] []) (stz [(0,iv n),(1,iv l),(2,iv m)]) w
 refine Zi 16 [.gn 0,.gn 0,.gn 0,.y,.y,.y] [] trivial [decide ((l : Int) ≤ n)] trivial ?_
 exact Z1 0 (.bool ((decide ((l : Int) ≤ n)) && (decide ((n : Int) ≤ m)))) (⟨rfl,rfl⟩)

set_option maxRecDepth 20000 in
theorem place_any (k m : Int) (w : World)  :
    Does Tryz.prog 74 [iv k,iv m] w (fun v w' => v = .bool (placeB k m) ∧ w = w') := by
 refine startZ (c := Y74) Tryz.func74 rfl (by kernel_rfl) ?_
 show H _ 12 [] _ (kAt Y74 [] []) (stz [(0,iv k),(1,iv m)]) w
 refine Zi 15 [.gn 0,.gn 0,.gn 0,.y,.y,.y] [] trivial [decide ((0 : Int) ≤ k)] trivial ?_
 exact Z1 0 (.bool ((decide ((0 : Int) ≤ k)) && (decide ((k : Int) < m)))) (⟨rfl,rfl⟩)

set_option maxRecDepth 20000 in
theorem routing_any (p : PPlan) (q : PAd) (w : World)  :
    Does Tryz.prog 41 [(pv p q)] w (fun v w' => v = .bool (routingB p) ∧ Ext w w') := by
 refine startZ (c := Y41) Tryz.func41 rfl (by kernel_rfl) ?_
 show H _ 15 [] _ (kAt Y41 [] []) (stz [(0,(pv p q))]) w
 have hE1 : Ext w w := Ext.refl w
 have hM2 : Hold w w.heap.size [] := Hold.nil hE1.le
 refine Zb 2 29 (pv p q) (pc p q) hE1 hM2 ?_
 intro b1 w1 hE4 hM5
 refine Zh 14 [.c 0 0] hM5 trivial ?_
 refine Zq 0 ((p.proto : Int) = (1 : Int)) (fun h1 => ?_) (fun h1 => ?_)
 ·refine Zh 7 [.c 0 1] hM5 trivial ?_
  exact Z1 0 (.bool (decide ((p.cap : Int) = (0 : Int)))) (⟨by unfold routingB; rw [if_pos h1],hE4⟩)
 refine Zq 5 ((p.proto : Int) = (2 : Int)) (fun h2 => ?_) (fun h2 => ?_)
 ·refine Zh 4 [.c 0 1] hM5 trivial ?_
  refine Zl 0 E42 (within_any p.cap 1 12 w1) ?_
  rintro _ _ ⟨rfl,rfl⟩
  exact Z1 2 (.bool (withinB p.cap 1 12)) (⟨by unfold routingB; rw [if_neg h1,if_pos h2],hE4⟩)
 exact Z1 6 (.bool false) (⟨by unfold routingB; rw [if_neg h1,if_neg h2],hE4⟩)

theorem E38 : Proofs.Enters Tryz.prog 38 := Proofs.enters_of Tryz.func38 (by kernel_rfl) rfl

def destLp (d : PDest) (a : Option Addr) (c : Nat) (m : Int) (b1 : Nat) (w : World) : Lp Nat where
  S := fun k => [(1,none,iv m),(2,none,pt b1 0),(8,none,.slice a d.origins.length c),(9,none,iv (d.origins.length:Int)),(10,none,iv (k:Int))]
  J := fun k w' => Ext w w' ∧ Hold w' w.heap.size [.blk b1 ([sv d.name,.slice a d.origins.length c]) 54] ∧ k ≤ d.origins.length ∧ OrigOk d.origins m k
  M := fun k => d.origins.length - k
set_option maxRecDepth 20000 in
theorem dest_any (d : PDest) (a : Option Addr) (c : Nat) (m : Int) (w : World) (hc : Cells w a (d.origins.flatMap intCells)) (hl : d.origins.length ≤ 140737488355328) :
    Does Tryz.prog 38 [.agg #[sv d.name,.slice a d.origins.length c],iv m] w (fun v w' => v = .bool (destB d m) ∧ Ext w w') := by
 refine startZ (c := Y38) Tryz.func38 rfl (by kernel_rfl) ?_
 show H _ 38 [] _ (kAt Y38 [] []) (stz [(0,.agg #[sv d.name,.slice a d.origins.length c]),(1,iv m)]) w
 have hE1 : Ext w w := Ext.refl w
 have hM2 : Hold w w.heap.size [] := Hold.nil hE1.le
 refine Zb 2 54 (.agg #[sv d.name,.slice a d.origins.length c]) [sv d.name,.slice a d.origins.length c] hE1 hM2 ?_
 intro b1 w1 hE4 hM5
 refine Zh 11 [.c 0 1] hM5 trivial ?_
 refine ZLoop (destLp d a c m b1 w) (k' := (kEnd Y38 [1,0,1,0] [])) (body := (cAt Y38 [1,0,1,0,0])) (by kernel_rfl) 0 [1,2,8,9,10] (by kernel_rfl) (⟨hE4,hM5,by omega,fun i h => by omega⟩) ?_
 rintro k w0 ⟨K1,KM,hk,ho⟩
 refine Zq 5 ((k:Int) < (d.origins.length:Int)) (fun h1 => ?_) (fun h1 => ?_)
 ·have hk2 : k < d.origins.length := by omega
  have ha := hc.addrE intCells_len (by decide) hk2
  refine Zs 15 [.ld (iv (d.origins.getD k 0))] [(0 ≤ (k:Int) ∧ (k:Int) < (d.origins.length:Int)),(a : Option Addr) = some ⟨(slB a),slO a,none⟩,cl w0 (slB a) (slO a + k * 1) (iv (d.origins.getD k 0))] (AC (by omega) (AC (by assumption) (A1 (K1.cell (int_cell hc hk2))))) ?_
  refine Zl 0 E74 (place_any (d.origins.getD k 0) m w0) ?_
  rintro _ _ ⟨rfl,rfl⟩
  by_cases hpl : (placeB (d.origins.getD k 0) m) = true
  ·refine Zw 0 17 (.bool (placeB (d.origins.getD k 0) m)) (.bool true) (by rw [show (placeB (d.origins.getD k 0) m) = true from hpl] <;> rfl) ?_
   by_cases hk0 : (0 : Int) < (k:Int)
   ·refine Zf 16 [.xf,.xf,.xf,.xg 0,.xg 0,.c 0 1,.xg 0,.xg 0,.p (fun _ => I64 ((k:Int) - (1 : Int))),.xg 0,.p (fun _ => (0 ≤ ((k:Int) - (1 : Int)) ∧ ((k:Int) - (1 : Int)) < (d.origins.length:Int))),.p (fun _ => (a : Option Addr) = some ⟨(slB a),slO a,none⟩),.xg 0,.p (fun _ => w0.cell? ⟨(slB a),slO a + ((((k:Int) - (1 : Int))).toNat) * 1,none⟩ = some (iv (d.origins.getD (k - 1) 0))),.v (iv (d.origins.getD (k - 1) 0)),.xg 0,.xg 0,.xf] KM [(decide ((0 : Int) < (k:Int))) = true] (A1 (decide_eq_true hk0)) [] (AC (i64 (by omega)) (AC (by omega) (AC (by assumption) (A1 (by rw [show ((k:Int) - (1 : Int)).toNat = k - 1 by omega]; exact K1.cell (int_cell hc (by omega))))))) ?_
    refine Zr 0 _ (((0 : Int) < (k:Int)) ∧ ((d.origins.getD k 0 : Int) ≤ d.origins.getD (k - 1) 0)) ((iffAnd iffDec iffDec)) (fun h2 => ?_) (fun h2 => ?_)
    ·exact Z1 4 (.bool false) (⟨by unfold destB; rw [decide_eq_false (OrigOk.not hk2 (fun e => by have h3 := h2.2; have := e.2 (by omega); omega))]; rfl,K1⟩)
    refine Zs 6 [] [I64 ((k + 1:Nat):Int)] (A1 (i64 (by omega))) ?_
    exact ZA 0 (destLp d a c m b1 w) k (k + 1) [1,2,8,9,10] (⟨K1,KM,by omega,ho.step hpl (by intro _; apply Classical.byContradiction; intro hn; exact h2 ⟨by omega,by omega⟩)⟩) (show d.origins.length - (k + 1) < d.origins.length - k by omega)
   refine Zi 23 [.xf,.xf,.xf,.sg 0,.sg 0,.sg 0,.sg 0,.sg 0,.sg 0,.sg 0,.sg 0,.xf,.p (fun _ => (decide ((0 : Int) < (k:Int))) = false),.sf,.p (fun _ => I64 ((k + 1:Nat):Int))] [(decide ((0 : Int) < (k:Int))) = (!true)] (A1 (decide_eq_false hk0)) [] (AC (decide_eq_false hk0) (A1 (i64 (by omega)))) ?_
   exact ZA 0 (destLp d a c m b1 w) k (k + 1) [1,2,8,9,10] (⟨K1,KM,by omega,ho.step hpl (by intro h; omega)⟩) (show d.origins.length - (k + 1) < d.origins.length - k by omega)
  refine Zw 0 17 (.bool (placeB (d.origins.getD k 0) m)) (.bool false) (by rw [show (placeB (d.origins.getD k 0) m) = false from Bool.eq_false_iff.2 hpl] <;> rfl) ?_
  refine Zi 21 [.st,.st,.st,.st,.st,.st,.s,.s,.s,.s,.s,.s,.x] [] trivial [] trivial ?_
  exact Z1 0 (.bool false) (⟨by unfold destB; rw [decide_eq_false (OrigOk.not hk2 (fun e => hpl e.1))]; rfl,K1⟩)
 have hkl : k = d.origins.length := by omega
 have ho2 : OrigOk d.origins m d.origins.length := by rw [← hkl]; exact ho
 refine Zh 9 [.c 0 1] KM trivial ?_
 exact Z1 0 (.bool (decide ((0 : Int) < (d.origins.length:Int)))) (⟨by unfold destB; rw [decide_eq_true ho2,Bool.true_and]; congr 1; exact decide_eq_decide.2 (by omega),K1⟩)

end Go.Proofs.YtjhgghpeapmgdaaGreatDoor
