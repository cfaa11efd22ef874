/-
  PARSE: contracts of the library's short loops and of link.
-/
import Derived.Test.YtjhgghpeapmgdaaGreatDoorParB
import Derived.Test.YtjhgghpeapmgdaaGreatDoorParSort
import Derived.Test.YtjhgghpeapmgdaaGreatDoorLz
import Derived.Test.YtjhgghpeapmgdaaGreatDoorMg2
namespace Go.Proofs.YtjhgghpeapmgdaaGreatDoor
open Go.Bk Go.Proofs

theorem E141 : Proofs.Enters Tryz.prog 141 := Proofs.enters_of Tryz.func141 (by kernel_rfl) rfl

theorem E117 : Proofs.Enters Tryz.prog 117 := Proofs.enters_of Tryz.func117 (by kernel_rfl) rfl

theorem E118 : Proofs.Enters Tryz.prog 118 := Proofs.enters_of Tryz.func118 (by kernel_rfl) rfl

theorem E121 : Proofs.Enters Tryz.prog 121 := Proofs.enters_of Tryz.func121 (by kernel_rfl) rfl

theorem E142 : Proofs.Enters Tryz.prog 142 := Proofs.enters_of Tryz.func142 (by kernel_rfl) rfl

theorem E119 : Proofs.Enters Tryz.prog 119 := Proofs.enters_of Tryz.func119 (by kernel_rfl) rfl

theorem E120 : Proofs.Enters Tryz.prog 120 := Proofs.enters_of Tryz.func120 (by kernel_rfl) rfl

def idxLinkL (xs : List PLink) (a : Option Addr) (c : Nat) (F : FuncId) (b0 : Nat) (pr : PLink → Bool) (w : World) : Lp Nat where
  S := fun k => [(0,none,.slice a xs.length c),(1,none,.func (.func F) #[] #[pt b0 0]),(7,none,iv (xs.length:Int)),(8,none,iv (k:Int))]
  J := fun k w' => Ext w w' ∧ k ≤ xs.length ∧ ∀ j,j < k → pr (xs.getD j d0L) = false
  M := fun k => xs.length - k
set_option maxRecDepth 20000 in
theorem idxLink (xs : List PLink) (a : Option Addr) (c : Nat) (F : FuncId) (b0 : Nat) (pr : PLink → Bool) (w : World) (hE : Enters Tryz.prog F) (hF : ∀ k,k < xs.length → ∀ w',Ext w w' → Does Tryz.prog F [(vL (xs.getD k d0L)),pt b0 0] w' fun v w2 => v = .bool (pr (xs.getD k d0L)) ∧ Ext w' w2) (hc : Cells w a (xs.flatMap linkC)) (hl : xs.length ≤ 140737488355328) :
    Does Tryz.prog 141 [.slice a xs.length c,.func (.func F) #[] #[pt b0 0]] w (fun v w' => v = .int .i64 (idxI pr xs) ∧ Ext w w') := by
 refine startZ (c := Y141) Tryz.func141 rfl (by kernel_rfl) ?_
 show H _ 19 [] _ (kAt Y141 [] []) (stz [(0,.slice a xs.length c),(1,.func (.func F) #[] #[pt b0 0])]) w
 have hE1 : Ext w w := Ext.refl w
 refine Zs 12 [] [] trivial ?_
 refine ZLoop (idxLinkL xs a c F b0 pr w) (k' := (kEnd Y141 [1,0,1,0] [])) (body := (cAt Y141 [1,0,1,0,0])) (by kernel_rfl) 0 [0,1,7,8] (by kernel_rfl) (⟨hE1,by omega,fun j h => by omega⟩) ?_
 rintro k w0 ⟨K1,hk,hp⟩
 refine Zq 5 ((k:Int) < (xs.length:Int)) (fun h1 => ?_) (fun h1 => ?_)
 ·have hk2 : k < xs.length := by omega
  have ha := hc.addrE linkC_len (by decide) hk2
  refine Zs 15 [.ld (vL (xs.getD k d0L))] [(0 ≤ (k:Int) ∧ (k:Int) < (xs.length:Int)),(a : Option Addr) = some ⟨(slB a),slO a,none⟩,cl w0 (slB a) (slO a + k * 3) (iv ((xs.getD k d0L).a)),cl w0 (slB a) (slO a + k * 3 + 1) (iv ((xs.getD k d0L).b)),cl w0 (slB a) (slO a + k * 3 + 2) (iv ((xs.getD k d0L).cost))] (AC (by omega) (AC (by assumption) (AC (K1.cell (cellAt linkC_len d0L hc hk2 (j := 0) rfl)) (AC (K1.cell (cellAt linkC_len d0L hc hk2 (j := 1) rfl)) (A1 (K1.cell (cellAt linkC_len d0L hc hk2 (j := 2) rfl))))))) ?_
  refine Z0 0 (.call F [(vL (xs.getD k d0L)),pt b0 0]) (runs_call hE (hF k hk2 w0 K1)) ?_
  rintro _ w1 ⟨rfl,hx⟩
  have hE2 := K1.trans hx
  refine Zr 1 _ ((pr (xs.getD k d0L)) = true) (Iff.rfl) (fun h2 => ?_) (fun h2 => ?_)
  ·exact Z1 5 (iv (k:Int)) (⟨by rw [idxI_hit d0L hk2 hp h2],hE2⟩)
  refine Zs 6 [] [I64 ((k + 1:Nat):Int)] (A1 (i64 (by omega))) ?_
  exact ZA 0 (idxLinkL xs a c F b0 pr w) k (k + 1) [0,1,7,8] (⟨hE2,by omega,fun j hj => by by_cases e : j = k; (subst e; simpa using h2); exact hp j (by omega)⟩) (show xs.length - (k + 1) < xs.length - k by omega)
 exact Z1 5 (iv (-1)) (⟨by rw [idxI_miss d0L (fun j hj => hp j (by omega))],K1⟩)

set_option maxRecDepth 20000 in
theorem anyLink (xs : List PLink) (a : Option Addr) (c : Nat) (F : FuncId) (b0 : Nat) (pr : PLink → Bool) (w : World) (hE : Enters Tryz.prog F) (hF : ∀ k,k < xs.length → ∀ w',Ext w w' → Does Tryz.prog F [(vL (xs.getD k d0L)),pt b0 0] w' fun v w2 => v = .bool (pr (xs.getD k d0L)) ∧ Ext w' w2) (hc : Cells w a (xs.flatMap linkC)) (hl : xs.length ≤ 140737488355328) :
    Does Tryz.prog 117 [.slice a xs.length c,.func (.func F) #[] #[pt b0 0]] w (fun v w' => v = .bool (xs.any pr) ∧ Ext w w') := by
 refine startZ (c := Y117) Tryz.func117 rfl (by kernel_rfl) ?_
 show H _ 9 [] _ (kAt Y117 [] []) (stz [(0,.slice a xs.length c),(1,.func (.func F) #[] #[pt b0 0])]) w
 have hE1 : Ext w w := Ext.refl w
 refine Zl 8 E141 (idxLink xs a c F b0 pr w hE hF hc hl) ?_
 rintro _ w1 ⟨rfl,hx⟩
 have hE2 := hE1.trans hx
 exact Z1 3 (.bool (decide ((0 : Int) ≤ idxI pr xs))) (⟨by rw [idxI_any],hE2⟩)

set_option maxRecDepth 20000 in
theorem link1_any (y : PLink) (x1 x2 x3 : Int) (b0 : Nat) (w : World) (hb : w.heap[b0]? = some (.cells #[iv x1,iv x2,iv x3] 61 (0,0))) :
    Does Tryz.prog 118 [(vL y),pt b0 0] w (fun v w' => v = .bool (decide (x1 = y.a) && decide (x2 = y.b)) ∧ Ext w w') := by
 refine startZ (c := Y118) Tryz.func118 rfl (by kernel_rfl) ?_
 show H _ 16 [] _ (kAt Y118 [] []) (stz [(0,(vL y)),(1,pt b0 0)]) w
 have hE1 : Ext w w := Ext.refl w
 have hM2 : Hold w w.heap.size [] := Hold.nil hE1.le
 refine Zb 2 61 (vL y) [iv y.a,iv y.b,iv y.cost] hE1 hM2 ?_
 intro b2 w1 hE4 hM5
 refine Zf 18 [.p (fun _ => w1.cell? ⟨b0,0,none⟩ = some (iv x1)),.v (iv x1),.c 0 0,.gn 0,.p (fun _ => (decide ((x1 : Int) = y.a)) = true → cl w1 b0 1 (iv x2)),.gn 0,.y,.y,.v (iv x2),.y,.y,.gc 0 0 1,.gn 0,.gn 0,.gn 0,.y] hM5 [] trivial [decide ((x1 : Int) = y.a)] (AC (hE4.cell (cell_of hb rfl)) (A1 (fun _ => hE4.cell (cell_of hb rfl)))) ?_
 exact Z1 0 (.bool ((decide ((x1 : Int) = y.a)) && (decide ((x2 : Int) = y.b)))) (⟨rfl,hE4⟩)

def idxStrL (xs : List Bytes) (a : Option Addr) (c : Nat) (x : Bytes) (w : World) : Lp Nat where
  S := fun k => [(0,none,.slice a xs.length c),(1,none,sv x),(7,none,iv (xs.length:Int)),(8,none,iv (k:Int))]
  J := fun k w' => Ext w w' ∧ k ≤ xs.length ∧ ∀ j,j < k → decide (x = xs.getD j []) = false
  M := fun k => xs.length - k
set_option maxRecDepth 20000 in
theorem idxStr (xs : List Bytes) (a : Option Addr) (c : Nat) (x : Bytes) (w : World) (hc : Cells w a (xs.flatMap strC)) (hl : xs.length ≤ 140737488355328) :
    Does Tryz.prog 121 [.slice a xs.length c,sv x] w (fun v w' => v = .int .i64 (idxI (fun y => decide (x = y)) xs) ∧ Ext w w') := by
 refine startZ (c := Y121) Tryz.func121 rfl (by kernel_rfl) ?_
 show H _ 19 [] _ (kAt Y121 [] []) (stz [(0,.slice a xs.length c),(1,sv x)]) w
 have hE1 : Ext w w := Ext.refl w
 refine Zs 12 [] [] trivial ?_
 refine ZLoop (idxStrL xs a c x w) (k' := (kEnd Y121 [1,0,1,0] [])) (body := (cAt Y121 [1,0,1,0,0])) (by kernel_rfl) 0 [0,1,7,8] (by kernel_rfl) (⟨hE1,by omega,fun j h => by omega⟩) ?_
 rintro k w0 ⟨K1,hk,hp⟩
 refine Zq 5 ((k:Int) < (xs.length:Int)) (fun h1 => ?_) (fun h1 => ?_)
 ·have hk2 : k < xs.length := by omega
  have ha := hc.addrE strC_len (by decide) hk2
  refine Zs 17 [.ld (sv (xs.getD k []))] [(0 ≤ (k:Int) ∧ (k:Int) < (xs.length:Int)),(a : Option Addr) = some ⟨(slB a),slO a,none⟩,cl w0 (slB a) (slO a + k * 1) (sv (xs.getD k []))] (AC (by omega) (AC (by assumption) (A1 (K1.cell (cellAt strC_len [] hc hk2 (j := 0) rfl))))) ?_
  refine Zq 0 (x = (xs.getD k [])) (fun h2 => ?_) (fun h2 => ?_)
  ·exact Z1 5 (iv (k:Int)) (⟨by rw [idxI_hit [] hk2 hp (decide_eq_true h2)],K1⟩)
  refine Zs 6 [] [I64 ((k + 1:Nat):Int)] (A1 (i64 (by omega))) ?_
  exact ZA 0 (idxStrL xs a c x w) k (k + 1) [0,1,7,8] (⟨K1,by omega,fun j hj => by by_cases e : j = k; (subst e; exact decide_eq_false h2); exact hp j (by omega)⟩) (show xs.length - (k + 1) < xs.length - k by omega)
 exact Z1 5 (iv (-1)) (⟨by rw [idxI_miss [] (fun j hj => hp j (by omega))],K1⟩)

def idxIntL (xs : List Int) (a : Option Addr) (c : Nat) (x : Int) (w : World) : Lp Nat where
  S := fun k => [(0,none,.slice a xs.length c),(1,none,iv x),(7,none,iv (xs.length:Int)),(8,none,iv (k:Int))]
  J := fun k w' => Ext w w' ∧ k ≤ xs.length ∧ ∀ j,j < k → decide (x = xs.getD j 0) = false
  M := fun k => xs.length - k
set_option maxRecDepth 20000 in
theorem idxInt (xs : List Int) (a : Option Addr) (c : Nat) (x : Int) (w : World) (hc : Cells w a (xs.flatMap intCells)) (hl : xs.length ≤ 140737488355328) :
    Does Tryz.prog 142 [.slice a xs.length c,iv x] w (fun v w' => v = .int .i64 (idxI (fun y => decide (x = y)) xs) ∧ Ext w w') := by
 refine startZ (c := Y142) Tryz.func142 rfl (by kernel_rfl) ?_
 show H _ 19 [] _ (kAt Y142 [] []) (stz [(0,.slice a xs.length c),(1,iv x)]) w
 have hE1 : Ext w w := Ext.refl w
 refine Zs 12 [] [] trivial ?_
 refine ZLoop (idxIntL xs a c x w) (k' := (kEnd Y142 [1,0,1,0] [])) (body := (cAt Y142 [1,0,1,0,0])) (by kernel_rfl) 0 [0,1,7,8] (by kernel_rfl) (⟨hE1,by omega,fun j h => by omega⟩) ?_
 rintro k w0 ⟨K1,hk,hp⟩
 refine Zq 5 ((k:Int) < (xs.length:Int)) (fun h1 => ?_) (fun h1 => ?_)
 ·have hk2 : k < xs.length := by omega
  have ha := hc.addrE intCells_len (by decide) hk2
  refine Zs 17 [.ld (iv (xs.getD k 0))] [(0 ≤ (k:Int) ∧ (k:Int) < (xs.length:Int)),(a : Option Addr) = some ⟨(slB a),slO a,none⟩,cl w0 (slB a) (slO a + k * 1) (iv (xs.getD k 0))] (AC (by omega) (AC (by assumption) (A1 (K1.cell (cellAt intCells_len 0 hc hk2 (j := 0) rfl))))) ?_
  refine Zq 0 ((x : Int) = (xs.getD k 0)) (fun h2 => ?_) (fun h2 => ?_)
  ·exact Z1 5 (iv (k:Int)) (⟨by rw [idxI_hit 0 hk2 hp (decide_eq_true h2)],K1⟩)
  refine Zs 6 [] [I64 ((k + 1:Nat):Int)] (A1 (i64 (by omega))) ?_
  exact ZA 0 (idxIntL xs a c x w) k (k + 1) [0,1,7,8] (⟨K1,by omega,fun j hj => by by_cases e : j = k; (subst e; exact decide_eq_false h2); exact hp j (by omega)⟩) (show xs.length - (k + 1) < xs.length - k by omega)
 exact Z1 5 (iv (-1)) (⟨by rw [idxI_miss 0 (fun j hj => hp j (by omega))],K1⟩)

theorem any_mem (x : Int) (xs : List Int) : (xs.any fun y => decide (x = y)) = decide (x ∈ xs) := by
  rw [Bool.eq_iff_iff,List.any_eq_true,decide_eq_true_eq]
  constructor
  · rintro ⟨y,hy,h⟩
    rw [decide_eq_true_eq] at h
    exact h ▸ hy
  · intro h
    exact ⟨x,h,decide_eq_true rfl⟩

set_option maxRecDepth 20000 in
theorem contInt (xs : List Int) (a : Option Addr) (c : Nat) (x : Int) (w : World) (hc : Cells w a (xs.flatMap intCells)) (hl : xs.length ≤ 140737488355328) :
    Does Tryz.prog 119 [.slice a xs.length c,iv x] w (fun v w' => v = .bool (decide (x ∈ xs)) ∧ Ext w w') := by
 refine startZ (c := Y119) Tryz.func119 rfl (by kernel_rfl) ?_
 show H _ 9 [] _ (kAt Y119 [] []) (stz [(0,.slice a xs.length c),(1,iv x)]) w
 have hE1 : Ext w w := Ext.refl w
 refine Zl 8 E142 (idxInt xs a c x w hc hl) ?_
 rintro _ w1 ⟨rfl,hx⟩
 have hE2 := hE1.trans hx
 exact Z1 3 (.bool (decide ((0 : Int) ≤ idxI (fun y => decide (x = y)) xs))) (⟨by rw [idxI_any,any_mem],hE2⟩)

theorem intC_enc (xs : List Int) : xs.flatMap intCells = xs.map (Value.int .i64) := by
  induction xs with
  | nil => rfl
  | cons x r ih => rw [List.flatMap_cons,ih]; rfl
theorem grown_sorted {w : World} {g n : Nat} {os : Array Obj} (d : Array Int) : w.grownBy (Sort.grow (Sort.putRow (Value.int .i64) (Sort.ahead w n) g 0 d) os) (some g) := by
  refine ⟨rfl,rfl,rfl,by simp,fun k hk hne => ?_⟩
  rw [Sort.heap_grow_old _ _ (by simpa using hk)]
  have : g ≠ k := fun e => hne (by rw [e])
  simp [Sort.putRow,Sort.mapBlock,Sort.ahead,Array.getElem?_modify,this]
theorem sortI_any (B g cap : Nat) (xs : List Int) (w : World) (hl : xs.length ≤ 10001) (h : w.ownsRow B 3 1 (.slice (some ⟨g,0,none⟩) xs.length cap) xs.length (xs.flatMap intCells)) :
    Does Tryz.prog 120 [.slice (some ⟨g,0,none⟩) xs.length cap] w fun v w' => v = .tuple #[] ∧ w'.ownsRow B 3 1 (.slice (some ⟨g,0,none⟩) (sortI xs).length cap) (sortI xs).length ((sortI xs).flatMap intCells) ∧ w.grownBy w' (some g) := by
  rw [intC_enc] at h
  obtain ⟨g',cap',hv,hg,hlt,_,_,_,hH⟩ := Lib.holds_of_ownsRow h (by simp)
  simp only [Value.slice.injEq,Option.some.injEq,Addr.mk.injEq,and_true,true_and] at hv
  obtain ⟨rfl,rfl⟩ := hv
  refine Does.of_calls (Tryz.slices_Sort_int g 0 cap xs w hH hlt (by omega)) fun _ _ ⟨he,n,os,hw⟩ => ⟨_,he,rfl,?_,?_⟩
  · rw [sortI_merge] at hw
    have h2 := Lib.ownsRow_putRow (q := n) (k := xs.length) h (sortI_len xs) (Nat.le_refl _)
    rw [sortI_len,intC_enc]
    rw [show (sortI xs).take xs.length = sortI xs from by rw [← sortI_len xs,List.take_length]] at h2
    subst hw
    exact ownsRow_ext h2 (grow_ext _ 0 os)
  · subst hw
    exact grown_sorted _

set_option maxRecDepth 20000 in
theorem link_any (w0 : World) (bp : Nat) (X : List Res) (s : PSt) (m : PM) (w : World) (hA : ParAt w0 w bp X s m) :
    DoesP Tryz.prog 89 [pt bp 0] w (fun v w' => ∃ s' m',linkS s = .ok s' ∧ v = .tuple #[] ∧ ParAt w0 w' bp X s' m') (PanP (linkS s) w0) := by
 refine startZP (c := Y89) Tryz.func89 rfl (by kernel_rfl) ?_
 show H _ 59 [] _ (kAt Y89 [] []) (stz [(0,pt bp 0)]) w
 have hE1 : Ext w0 w := hA.ext
 have hM2 := hA.hold
 have hp3 := hA.inv.pos
 have ha4 := hA.toks.addrE tokCells_len (by decide) hp3
 have hnn := hA.inv.nl
 refine Zh 9 [.c 0 4] hM2 trivial ?_
 have hA5 : ParAt w0 w bp X s m := ⟨hE1,hM2,hA.deq,hA.toks,hA.cap,hA.inv⟩
 refine ZlP 0 E113 (head_any w0 bp X s m wdLink 16 (s.p.links.length : Int) w hA5) (fun x w' ⟨e,a,he,hx,hE⟩ => ⟨e,a,by simp only [linkS,he,andE_error],hx,hE⟩) ?_
 rintro _ w6 ⟨s7,m8,hs9,rfl,hA10⟩
 have hE11 : Ext w0 w6 := hA10.ext
 have hM12 := hA10.hold
 have hp13 := hA10.inv.pos
 have ha14 := hA10.toks.addrE tokCells_len (by decide) hp13
 have hp1 : s7.p = s.p ∧ s.p.links.length < 16 := headS_plan hs9
 have hA15 : ParAt w0 w6 bp X s7 m8 := ⟨hE11,hM12,hA10.deq,hA10.toks,hA10.cap,hA10.inv⟩
 refine ZlP 4 E115 (aNode_anyK w0 bp X s7 m8 w6 hA15) (fun x w' ⟨e,a,he,hx,hE⟩ => ⟨e,a,by simp only [linkS,hs9,he,andE_ok,andE_error],hx,hE⟩) ?_
 rintro _ w16 ⟨ra,ta,s17,m18,hs19,rfl,hA20⟩
 have hE21 : Ext w0 w16 := hA20.ext
 have hM22 := hA20.hold
 have hp23 := hA20.inv.pos
 have ha24 := hA20.toks.addrE tokCells_len (by decide) hp23
 have hA25 : ParAt w0 w16 bp X s17 m18 := ⟨hE21,hM22,hA20.deq,hA20.toks,hA20.cap,hA20.inv⟩
 refine ZlP 5 E116 (known_any w0 bp X s17 m18 21 nodeIx w16 hA25 E21 nodeIx_any) (fun x w' ⟨e,a,he,hx,hE⟩ => ⟨e,a,by simp only [linkS,hs9,hs19,he,andE_ok,andE_error],hx,hE⟩) ?_
 rintro _ w26 ⟨rb,tb,s27,m28,hs29,rfl,hA30⟩
 have hE31 : Ext w0 w26 := hA30.ext
 have hM32 := hA30.hold
 have hp33 := hA30.inv.pos
 have ha34 := hA30.toks.addrE tokCells_len (by decide) hp33
 refine Za 3 49 [iv 0,sv ([]),iv 0,iv 0] hE31 hM32 ?_
 intro b4 w35 hE37 hM38
 refine Zt 1 0 0 (vT tb) rfl hE37 hM38 ?_
 intro w39 hE41 hM42
 refine Za 10 61 [iv 0,iv 0,iv 0] hE41 hM42 ?_
 intro b5 w43 hE45 hM46
 refine Zt 0 0 0 (.agg #[iv (min ra rb),iv (max ra rb),iv 0]) rfl hE45 hM46 ?_
 intro w47 hE49 hM50
 by_cases h1 : (ra : Int) = rb
 ·refine Zw 8 31 (.bool (decide ((ra : Int) = rb))) (.bool true) (by rw [show (decide ((ra : Int) = rb)) = true from decide_eq_true h1] <;> rfl) ?_
  refine Zf 12 [.st,.st,.st,.st,.st,.st,.st,.xt,.g 0,.a 1 0 4] hM50 [true = true] (A1 rfl) [] trivial ?_
  refine ZlP 0 E93 (fail_any tb 43 w47) (fun x w' ⟨hx,hE⟩ => ⟨43,tb.at',by simp only [linkS,hs9,hs19,hs29,andE_ok]; exact if_pos (.inl h1),hx,hE49.trans hE⟩) ?_
  rintro _ _ ⟨⟩
 refine Zw 8 31 (.bool (decide ((ra : Int) = rb))) (.bool false) (by rw [show (decide ((ra : Int) = rb)) = false from decide_eq_false h1] <;> rfl) ?_
 refine Zh 6 [.xf,.xf,.xf,.xf,.xf,.c 2 4,.xf] hM50 trivial ?_
 have hA51 : ParAt w0 w47 bp ([.blk b5 ([iv (min ra rb),iv (max ra rb),iv 0]) 61,.blk b4 ([iv tb.kind,sv tb.text,iv tb.n,iv (tb.at')]) 49] ++ X) s27 m28 := ⟨hE49,(hM50.pick 7 [2,3,4,5,6,0,1] (by kernel_rfl) (by kernel_rfl)),hA30.deq,hA30.toks,hA30.cap,hA30.inv⟩
 have hnl3 := hA51.inv.nl
 have hb5 := (hA51.hold.blk 5 rfl)
 refine Zo 0 [.exec] _ [false = false] (A1 rfl) (runs_call E117 (anyLink s27.p.links m28.q.a2 m28.q.c2 118 b5 (fun y : PLink => decide (min ra rb = y.a) && decide (max ra rb = y.b)) w47 E118 (fun k _ w9 hE9 => (link1_any (s27.p.links.getD k d0L) (min ra rb) (max ra rb) 0 b5 w9 (hE9.heap hb5))) hA51.plan.links (by omega))) ?_
 rintro _ w52 ⟨rfl,hxl⟩
 obtain ⟨hE53,hM54⟩ := Xt hE49 hA51.hold hxl
 refine Zr 2 _ ((s27.p.links.any (fun y : PLink => decide (min ra rb = y.a) && decide (max ra rb = y.b))) = true) (Iff.rfl) (fun h2 => ?_) (fun h2 => ?_)
 ·refine Zh 2 [.a 6 0 4] hM54 trivial ?_
  refine ZlP 0 E93 (fail_any tb 43 w52) (fun x w' ⟨hx,hE⟩ => ⟨43,tb.at',by simp only [linkS,hs9,hs19,hs29,andE_ok]; exact if_pos (.inr h2),hx,hE53.trans hE⟩) ?_
  rintro _ _ ⟨⟩
 have hnot : ¬ (ra = rb ∨ hasLink s27.p (min ra rb) (max ra rb) = true) := fun h => h.elim h1 h2
 have hA55 : ParAt w0 w52 bp ([.blk b5 ([iv (min ra rb),iv (max ra rb),iv 0]) 61,.blk b4 ([iv tb.kind,sv tb.text,iv tb.n,iv (tb.at')]) 49] ++ X) s27 m28 := ⟨hE53,hM54,hA30.deq,hA30.toks,hA30.cap,hA30.inv⟩
 refine ZlP 4 E111 (number_anyP w0 bp ([.blk b5 ([iv (min ra rb),iv (max ra rb),iv 0]) 61,.blk b4 ([iv tb.kind,sv tb.text,iv tb.n,iv (tb.at')]) 49] ++ X) s27 m28 1 15 w52 hA55) (fun x w' ⟨e,a,he,hx,hE⟩ => ⟨e,a,by simp only [linkS,hs9,hs19,hs29,if_neg hnot,he,andE_ok,andE_error],hx,hE⟩) ?_
 rintro _ w56 ⟨n,s57,m58,hs59,rfl,hA60⟩
 have hE61 : Ext w0 w56 := hA60.ext
 have hM62 := hA60.hold
 have hp63 := hA60.inv.pos
 have ha64 := hA60.toks.addrE tokCells_len (by decide) hp63
 refine Zt 1 5 2 (iv n) rfl hE61 hM62 ?_
 intro w65 hE67 hM68
 have hA69 : ParAt w0 w65 bp ([.blk b5 ([iv (min ra rb),iv (max ra rb),iv n]) 61,.blk b4 ([iv tb.kind,sv tb.text,iv tb.n,iv (tb.at')]) 49] ++ X) s57 m58 := ⟨hE67,hM68,hA60.deq,hA60.toks,hA60.cap,hA60.inv⟩
 refine ZlP 4 E112 (stop_any w0 bp ([.blk b5 ([iv (min ra rb),iv (max ra rb),iv n]) 61,.blk b4 ([iv tb.kind,sv tb.text,iv tb.n,iv (tb.at')]) 49] ++ X) s57 m58  w65 hA69) (fun x w' ⟨e,a,he,hx,hE⟩ => ⟨e,a,by simp only [linkS,hs9,hs19,hs29,if_neg hnot,hs59,he,andE_ok,andE_error],hx,hE⟩) ?_
 rintro _ w70 ⟨s71,m72,hs73,rfl,hA74⟩
 have hE75 : Ext w0 w70 := hA74.ext
 have hM76 := hA74.hold
 have hp77 := hA74.inv.pos
 have ha78 := hA74.toks.addrE tokCells_len (by decide) hp77
 have hp5 : s71.p.links.length < 16 := by rw [stopS_plan hs73,numberS_plan hs59,knownS_plan hs29,knownS_plan hs19,hp1.1]; exact hp1.2
 refine Zs 1 [] [] trivial ?_
 refine ZB 13 [] 8 (opsAt (cAt Y89 (ro1 7 []))) (fun _ w' => w'.heap[b5]? = some (.cells #[iv (min ra rb),iv (max ra rb),iv n] 61 (0,0))) ?_
 intro w79 hx80
 obtain ⟨hE81,hM82⟩ := Xt hE75 hM76 hx80
 refine dx [0,1,2,3,4,6] [.ld (.agg #[iv (min ra rb),iv (max ra rb),iv n])] 7 (lb 13 95) (fun w' => [cl w' b5 0 (iv (min ra rb)),cl w' b5 1 (iv (max ra rb)),cl w' b5 2 (iv n)]) (fun w' hS => (AC (cell_of hS rfl) (AC (cell_of hS rfl) (A1 (cell_of hS rfl))))) ((hM82.blk 5 rfl)) ?_
 refine dAll 5 [7] (by kernel_rfl) ?_
 refine ⟨?_,?_⟩
 ·refine Wo [] (.load 25 (pt bp 4)) [] trivial (runs_load (v := .slice m72.q.a2 s71.p.links.length m72.q.c2) (ps := [cl w79 bp 4 (.slice m72.q.a2 s71.p.links.length m72.q.c2)]) (by kernel_rfl) (A1 (cell_of (hM82.blk 0 rfl) rfl))) ?_
  rintro _ _ ⟨rfl,rfl⟩
  refine ⟨(hM82.blk 5 rfl),?_⟩
  refine d1 7 ?_
  refine Wd 1 [iv (min ra rb),iv (max ra rb),iv n] 61 hE81 hM82 ?_
  intro be w83 hx87 hE85 hM86
  refine ⟨(hM86.blk 6 rfl),?_⟩
  refine d1 8 ?_
  refine Wp 3 0 1 24 ((s71.p.links ++ [(⟨min ra rb,max ra rb,n⟩ : PLink)]).length) ((s71.p.links ++ [(⟨min ra rb,max ra rb,n⟩ : PLink)]).flatMap linkC) rfl rfl ⟨by omega,by omega⟩ (fun _ _ h => by simpa [linkC] using h) hE85 hM86 ?_
  intro av ac w88 hE89 hM90
  refine ⟨(hM90.blk 6 rfl),?_⟩
  refine dx0 [9,10,11] [] 1 (lb 13 4095) ((hM90.blk 6 rfl)) ?_
  refine d1 12 ?_
  refine Wt 1 4 (.slice av ((s71.p.links ++ [(⟨min ra rb,max ra rb,n⟩ : PLink)]).length) ac) rfl hE89 hM90 ?_
  intro w91 hE93 hM94
  refine ⟨(hM94.blk 6 rfl),?_⟩
  refine ZD ?_
  exact ZeP 0 [] [] [] trivial (v := .tuple #[]) rfl (⟨⟨addLink s71.p ⟨min ra rb,max ra rb,n⟩,s71.ts⟩,⟨{ m72.q with a2 := av,c2 := ac },m72.ta,m72.tc⟩,by simp only [linkS,hs9,hs19,hs29,hs59,hs73,andE_ok,if_neg hnot],rfl,⟨hE93,(hM94.pick 8 [1,2,3,4,5] (by kernel_rfl) (by kernel_rfl)),hA74.deq,hA74.toks,hA74.cap,(hA74.inv.link hp5)⟩⟩)
 refine Wd 1 [iv (min ra rb),iv (max ra rb),iv n] 61 hE81 hM82 ?_
 intro be w95 hx99 hE97 hM98
 refine ⟨(hM98.blk 6 rfl),?_⟩
 refine d1 5 ?_
 refine Wo [] (.load 25 (pt bp 4)) [] trivial (runs_load (v := .slice m72.q.a2 s71.p.links.length m72.q.c2) (ps := [cl w95 bp 4 (.slice m72.q.a2 s71.p.links.length m72.q.c2)]) (by kernel_rfl) (A1 (cell_of (hM98.blk 1 rfl) rfl))) ?_
 rintro _ _ ⟨rfl,rfl⟩
 refine ⟨(hM98.blk 6 rfl),?_⟩
 refine d1 8 ?_
 refine Wp 3 0 1 24 ((s71.p.links ++ [(⟨min ra rb,max ra rb,n⟩ : PLink)]).length) ((s71.p.links ++ [(⟨min ra rb,max ra rb,n⟩ : PLink)]).flatMap linkC) rfl rfl ⟨by omega,by omega⟩ (fun _ _ h => by simpa [linkC] using h) hE97 hM98 ?_
 intro av ac w100 hE101 hM102
 refine ⟨(hM102.blk 6 rfl),?_⟩
 refine dx0 [9,10,11] [] 1 (lb 13 4095) ((hM102.blk 6 rfl)) ?_
 refine d1 12 ?_
 refine Wt 1 4 (.slice av ((s71.p.links ++ [(⟨min ra rb,max ra rb,n⟩ : PLink)]).length) ac) rfl hE101 hM102 ?_
 intro w103 hE105 hM106
 refine ⟨(hM106.blk 6 rfl),?_⟩
 refine ZD ?_
 exact ZeP 0 [] [] [] trivial (v := .tuple #[]) rfl (⟨⟨addLink s71.p ⟨min ra rb,max ra rb,n⟩,s71.ts⟩,⟨{ m72.q with a2 := av,c2 := ac },m72.ta,m72.tc⟩,by simp only [linkS,hs9,hs19,hs29,hs59,hs73,andE_ok,if_neg hnot],rfl,⟨hE105,(hM106.pick 8 [1,2,3,4,5] (by kernel_rfl) (by kernel_rfl)),hA74.deq,hA74.toks,hA74.cap,(hA74.inv.link hp5)⟩⟩)

end Go.Proofs.YtjhgghpeapmgdaaGreatDoor
