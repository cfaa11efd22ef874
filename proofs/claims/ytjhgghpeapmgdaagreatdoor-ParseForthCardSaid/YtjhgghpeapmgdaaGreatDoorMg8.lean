/-
  Texts that belong together: ParH, ParPlace.
-/
import Derived.Test.YtjhgghpeapmgdaaGreatDoorParG
import Derived.Test.YtjhgghpeapmgdaaGreatDoorMg7
import Derived.Test.YtjhgghpeapmgdaaGreatDoorPlanR3
import Derived.Test.YtjhgghpeapmgdaaGreatDoorLz
import Derived.Test.YtjhgghpeapmgdaaGreatDoorMg2
import Derived.Test.YtjhgghpeapmgdaaGreatDoorParSpec
import Derived.Test.YtjhgghpeapmgdaaGreatDoorMg5
/-
  PARSE: contracts of the statements' pick and awake.
-/
namespace Go.Proofs.YtjhgghpeapmgdaaGreatDoor
open Go.Bk Go.Proofs

theorem E26 : Proofs.Enters Tryz.prog 26 := Proofs.enters_of Tryz.func26 (by kernel_rfl) rfl

theorem E25 : Proofs.Enters Tryz.prog 25 := Proofs.enters_of Tryz.func25 (by kernel_rfl) rfl

set_option maxRecDepth 20000 in
theorem pick4 (c : Int) (n : Nat) (w : World) (h0 : -9223372036854775808 ≤ c) (h1 : c ≤ 9223372036854775807) (hn : 0 < n) :
    Does Tryz.prog 26 [iv c,iv (n:Int)] w (fun v w' => v = .int .i64 ((pickN c n:Nat):Int) ∧ w = w') := by
 refine startZ (c := Y26) Tryz.func26 rfl (by kernel_rfl) ?_
 show H _ 13 [] _ (kAt Y26 [] []) (stz [(0,iv c),(1,iv (n:Int))]) w
 refine Zq 10 ((c : Int) < (0 : Int)) (fun h => ?_) (fun h => ?_)
 ·refine Zs 13 [] [I64 (c + (1 : Int)),I64 (-(c + (1 : Int))),(0 ≤ (-(c + (1 : Int))) ∧ 0 < (n:Int))] (AC (i64 (by omega)) (AC (i64 (by omega)) (A1 (by omega)))) ?_
  exact Z1 0 (iv ((-(c + (1 : Int))) % (n:Int))) (⟨by rw [pickN_neg hn h],rfl⟩)
 refine Zs 8 [] [(0 ≤ c ∧ 0 < (n:Int))] (A1 (by omega)) ?_
 exact Z1 0 (iv (c % (n:Int))) (⟨by rw [pickN_nat hn h],rfl⟩)

set_option maxRecDepth 20000 in
theorem awake4  (w : World) (hG : Glob w) :
    Does Tryz.prog 25 [] w (fun v w' => v = .bool true ∧ Ext w w') := by
 refine startZ (c := Y25) Tryz.func25 rfl (by kernel_rfl) ?_
 show H _ 42 [] _ (kAt Y25 [] []) [] w
 have hE1 : Ext w w := Ext.refl w
 have hM2 : Hold w w.heap.size [] := Hold.nil hE1.le
 have h1 := Parse_any [112,114,111,116,111,99,111,108,32,118,101,99,116,111,114,59,32,102,97,105,108,117,114,101,115,32,48,59,32,110,111,100,101,32,97,32,49,59,32,108,105,110,107,32,97,32,97,32,49,59] w hG
 rw [awp1] at h1
 refine Zl 6 E27 (h1) ?_
 rintro _ w1 ⟨q1,rfl,hx1,hP1⟩
 obtain ⟨hE3,hM4⟩ := Xt hE1 hM2 hx1
 refine Za 4 29 [iv 0,iv 0,iv 0,.slice none 0 0,.slice none 0 0,.slice none 0 0,.slice none 0 0] hE3 hM4 ?_
 intro b1 w2 hE6 hM7
 refine Zt 0 0 0 (pv noPlan q1) rfl hE6 hM7 ?_
 intro w3 hE9 hM10
 have h2 := Parse_any [112,114,111,116,111,99,111,108,32,112,97,116,104,32,51,59,32,102,97,105,108,117,114,101,115,32,49,59,32,110,111,100,101,32,98,32,55,59,32,110,111,100,101,32,97,32,57,59,32,108,105,110,107,32,97,32,98,32,50,59,32,100,101,115,116,32,120,32,97,116,32,97,32,98,59,32,99,104,101,99,107,32,101,113,117,97,108,32,97,32,98,32,120,59] w3 (hG.ext hE9)
 rw [awp2] at h2
 refine Zl 5 E27 (h2) ?_
 rintro _ w4 ⟨q2,rfl,hx4,hP2⟩
 obtain ⟨hE11,hM12⟩ := Xt hE9 hM10 hx4
 have hF4 := Ext.refl w4
 refine Z0 4 (.alloc 29) (runs_alloc (z := .agg #[iv 0,iv 0,iv 0,.slice none 0 0,.slice none 0 0,.slice none 0 0,.slice none 0 0]) (by kernel_rfl)) ?_
 rintro _ w5 ⟨b2,rfl,hN13⟩
 have hl16 := Nat.le_trans hF4.le (Nat.le_of_eq hN13.lo.symm)
 have hE14 := hE11.trans hN13.ext
 have hM15 := hM12.new hN13
 have hv17 := Ext.trans hF4 hN13.ext
 refine Z0 0 (.store 29 (pt b2 0) (pv awPar q2)) (runs_st (hM15.blk 0 rfl) (by kernel_rfl)) ?_
 rintro _ w6 hC18
 have hE19 := hM15.toExt hE14 hC18 0 rfl
 have hM20 := hM15.set 0 rfl hC18
 have hv21 := hC18.ext hv17 hl16
 refine Zh 6 [.a 0 0 7] hM20 trivial ?_
 have h3 := rPrint_any awPar q2 w6 (hP2.ext hv21)
 rw [awp3] at h3
 refine Zl 0 E16 (h3) ?_
 rintro _ w7 ⟨rfl,hx7⟩
 obtain ⟨hE22,hM23⟩ := Xt hE19 hM20 hx7
 have hv24 := Ext.trans hv21 hx7
 refine Zi 28 [.xt,.xt,.xt,.xt,.xt,.xt,.xt,.xt] [] trivial [] trivial ?_
 exact Z1 0 (.bool true) (⟨rfl,hE22⟩)

end Go.Proofs.YtjhgghpeapmgdaaGreatDoor
/-
  PARSE: no place lies beyond the text.
-/
namespace Go.Proofs.YtjhgghpeapmgdaaGreatDoor
open Go.Bk Go.Proofs
theorem lexT_place (s : Bytes) : (∀ t ∈ (lexT s).1,(0 : Int) ≤ t.at' ∧ t.at' ≤ ((s.length : Nat) : Int)) ∧ 0 ≤ (lexT s).2.2 ∧ (lexT s).2.2 ≤ ((s.length : Nat) : Int) := by
 unfold lexT
 split
 ·rename_i h
  exact ⟨fun t h => by simp at h,by simp,by simp only; omega⟩
 ·obtain ⟨h1,h2,h3⟩ := lexR_bounds (s.length + 1) s 0
  exact ⟨fun t h => by have := h1 t h; omega,h2,by omega⟩
def Pl (m : Int) (s : PSt) : Prop := ∀ t ∈ s.ts,0 ≤ t.at' ∧ t.at' ≤ m
def Kp {α : Type} (m : Int) (g : α → PSt) (x : PE α) : Prop := (∀ e,x = .error e → 40 ≤ e.1 ∧ 0 ≤ e.2 ∧ e.2 ≤ m) ∧ ∀ a,x = .ok a → Pl m (g a)
theorem Pl.hd {m : Int} (hm : 0 ≤ m) {s : PSt} (h : Pl m s) : 0 ≤ s.hd.at' ∧ s.hd.at' ≤ m := by
 unfold PSt.hd
 cases hs : s.ts with
 | nil => exact ⟨Int.le_refl _,hm⟩
 | cons t r => exact h t (by rw [hs]; simp)
theorem Pl.drop {m : Int} {s : PSt} (h : Pl m s) (p : PPlan) (k : Nat) : Pl m ⟨p,s.ts.drop k⟩ := fun t ht => h t (List.mem_of_mem_drop ht)
theorem Pl.same {m : Int} {s : PSt} (h : Pl m s) (p : PPlan) : Pl m ⟨p,s.ts⟩ := h
theorem Kp.err {α : Type} {m : Int} {g : α → PSt} {c a : Int} (h0 : 0 ≤ a) (h1 : a ≤ m) (hc : 40 ≤ c := by decide) : Kp m g (.error (c,a) : PE α) := ⟨fun e h => by cases h; exact ⟨hc,h0,h1⟩,fun a h => by cases h⟩
theorem Kp.ok {α : Type} {m : Int} {g : α → PSt} {a : α} (h : Pl m (g a)) : Kp m g (.ok a : PE α) := ⟨fun e h => (by cases h),fun b hb => by cases hb; exact h⟩
theorem Kp.and {α β : Type} {m : Int} {g : α → PSt} {g' : β → PSt} {x : PE α} {f : α → PE β} (h : Kp m g x) (hf : ∀ a,x = .ok a → Pl m (g a) → Kp m g' (f a)) : Kp m g' (andE x f) := by
 cases hx : x with
 | ok a => exact hf a hx (h.2 a hx)
 | error e => exact ⟨fun e' he => by cases he; exact h.1 e hx,fun b hb => by cases hb⟩
section
variable {m : Int} (hm : 0 ≤ m) {s : PSt} (h : Pl m s)
include hm h
theorem Kp.take (k : Int) : Kp m Prod.snd (takeS k s) := by
 unfold takeS
 split
 ·refine Kp.ok ?_
  simp only
  split
  ·exact h
  ·exact h.drop _ _
 ·exact Kp.err (h.hd hm).1 (h.hd hm).2
theorem Kp.takeAt (k : Int) {r : Tok × PSt} (hr : takeS k s = .ok r) : 0 ≤ r.1.at' ∧ r.1.at' ≤ m := by
 obtain ⟨_,rfl⟩ := takeS_ok hr
 exact h.hd hm
theorem Kp.word (wd : Bytes) : Kp m Prod.snd (wordS wd s) := by
 unfold wordS
 split
 ·exact Kp.take hm h 1
 ·exact Kp.err (h.hd hm).1 (h.hd hm).2
theorem Kp.head (wd : Bytes) (a b : Int) : Kp m id (headS wd a b s) := by
 unfold headS
 refine (Kp.word hm h wd).and fun r hr hp => ?_
 have hat := Kp.takeAt hm h 1 (wordS_ok hr).2
 split
 ·exact Kp.err hat.1 hat.2
 ·exact Kp.ok hp
theorem Kp.number (l u : Int) : Kp m Prod.snd (numberS l u s) := by
 unfold numberS
 refine (Kp.take hm h 2).and fun r hr hp => ?_
 have hat := Kp.takeAt hm h 2 hr
 split
 ·exact Kp.err hat.1 hat.2
 ·exact Kp.ok hp
theorem Kp.fresh : Kp m Prod.snd (freshS s) := by
 unfold freshS
 refine (Kp.take hm h 1).and fun r hr hp => ?_
 have hat := Kp.takeAt hm h 1 hr
 split
 ·exact Kp.err hat.1 hat.2
 ·exact Kp.ok hp
theorem Kp.known (f : PPlan → Bytes → Int) : Kp m Prod.snd (knownS f s) := by
 unfold knownS
 refine (Kp.take hm h 1).and fun r hr hp => ?_
 have hat := Kp.takeAt hm h 1 hr
 split
 ·exact Kp.err hat.1 hat.2
 ·exact Kp.ok hp
theorem Kp.knownAt (f : PPlan → Bytes → Int) {r : (Int × Tok) × PSt} (hr : knownS f s = .ok r) : 0 ≤ r.1.2.at' ∧ r.1.2.at' ≤ m := by
 unfold knownS at hr
 obtain ⟨a,ha,h2⟩ := andE_some hr
 have hat := Kp.takeAt hm h 1 ha
 split at h2
 ·cases h2
 ·cases h2
  exact hat
theorem Kp.kind : Kp m Prod.snd (kindS s) := by
 unfold kindS
 refine (Kp.take hm h 1).and fun r hr hp => ?_
 have hat := Kp.takeAt hm h 1 hr
 split
 ·exact Kp.err hat.1 hat.2
 ·exact Kp.ok hp
theorem Kp.stop : Kp m id (stopS s) := by
 unfold stopS
 exact (Kp.take hm h 3).and fun r hr hp => Kp.ok hp
theorem Kp.protocol : Kp m id (protocolS s) := by
 unfold protocolS
 refine (Kp.word hm h _).and fun r _ hp => ?_
 split
 ·exact (Kp.word hm hp _).and fun r _ hp => (Kp.number hm hp _ _).and fun r _ hp => Kp.stop hm (s := { r.2 with p := { r.2.p with proto := 2,cap := r.1 } }) hp
 ·exact (Kp.word hm hp _).and fun r _ hp => Kp.stop hm (s := { r.2 with p := { r.2.p with proto := 1 } }) hp
theorem Kp.failures : Kp m Prod.snd (failuresS s) ∧ ∀ r,failuresS s = .ok r → 0 ≤ r.1.at' ∧ r.1.at' ≤ m := by
 unfold failuresS
 constructor
 ·exact (Kp.word hm h _).and fun r _ hp => (Kp.number hm hp _ _).and fun q _ hp => (Kp.stop hm (s := { q.2 with p := { q.2.p with k := q.1 } }) hp).and fun z _ hz => Kp.ok hz
 ·intro r hr
  obtain ⟨x,hx,hr⟩ := andE_some hr
  obtain ⟨y,hy,hr⟩ := andE_some hr
  obtain ⟨z,hz,hr⟩ := andE_some hr
  cases hr
  exact ((Kp.word hm h _).2 x hx).hd hm
theorem Kp.node : Kp m id (nodeS s) := by
 unfold nodeS
 exact (Kp.head hm h _ _ _).and fun s _ hp => (Kp.fresh hm hp).and fun x _ hp => (Kp.number hm hp _ _).and fun n _ hp => (Kp.stop hm hp).and fun s _ hp => Kp.ok (hp.same _)
theorem Kp.link : Kp m id (linkS s) := by
 unfold linkS
 refine (Kp.head hm h _ _ _).and fun s _ hp => (Kp.known hm hp _).and fun a _ hp => (Kp.known hm hp _).and fun b hb hp2 => ?_
 have hat := Kp.knownAt hm hp _ hb
 split
 ·exact Kp.err hat.1 hat.2
 ·exact (Kp.number hm hp2 _ _).and fun n _ hp => (Kp.stop hm hp).and fun s _ hp => Kp.ok (hp.same _)
end
theorem Kp.loop {m : Int} {σ : Type} {g : σ → PSt} {c : σ → Bool} {f : σ → PE σ} (hf : ∀ s,Pl m (g s) → Kp m g (f s)) : ∀ (n : Nat) (s : σ),Pl m (g s) → Kp m g (loopS c f n s)
 | 0,s,h => Kp.ok h
 | n + 1,s,h => by
  rw [loopS]
  split
  ·exact (hf s h).and fun a _ ha => Kp.loop hf n a ha
  ·exact Kp.ok h
theorem Kp.many {m : Int} {wd : Bytes} {f : PSt → PE PSt} (hf : ∀ s,Pl m s → Kp m id (f s)) {s : PSt} (h : Pl m s) : Kp m id (manyS wd f s) := Kp.loop (g := id) hf _ _ h
section
variable {m : Int} (hm : 0 ≤ m)
include hm
theorem Kp.origins {x : List Int × PSt} (h : Pl m x.2) : Kp m Prod.snd (originsS x) := by
 unfold originsS whileS
 refine Kp.loop (g := Prod.snd) (fun s hs => ?_) _ _ h
 unfold origS
 refine (Kp.known hm hs _).and fun r hr hp => ?_
 have hat := Kp.knownAt hm hs _ hr
 split
 ·exact Kp.err hat.1 hat.2
 ·exact Kp.ok hp
theorem Kp.dest {s : PSt} (h : Pl m s) : Kp m id (destS s) := by
 unfold destS
 exact (Kp.head hm h _ _ _).and fun s _ hp => (Kp.fresh hm hp).and fun x _ hp => (Kp.word hm hp _).and fun r _ hp => (Kp.origins hm (x := ([],r.2)) hp).and fun o _ hp => (Kp.stop hm hp).and fun s _ hp => Kp.ok (hp.same _)
theorem Kp.aNode {s : PSt} (h : Pl m s) : Kp m Prod.snd (aNodeS s) := (Kp.known hm h _).and fun _ _ hp => Kp.ok hp
theorem Kp.aDest {s : PSt} (h : Pl m s) : Kp m Prod.snd (aDestS s) := (Kp.known hm h _).and fun _ _ hp => Kp.ok hp
theorem Kp.other {s : PSt} (h : Pl m s) (k : Int) : Kp m Prod.snd (otherS k s) := by
 unfold otherS
 split
 ·exact Kp.aNode hm h
 ·exact Kp.ok h
theorem Kp.rest {s : PSt} (h : Pl m s) (k o : Int) : Kp m Prod.snd (restS k o s) := by
 unfold restS
 split
 ·exact (Kp.number hm h _ _).and fun _ _ hp => Kp.ok hp
 ·split
  ·exact (Kp.aNode hm h).and fun _ _ hp => Kp.ok hp
  ·exact Kp.ok h
theorem Kp.check {s : PSt} (h : Pl m s) : Kp m id (checkS s) := by
 unfold checkS
 exact (Kp.head hm h _ _ _).and fun s _ hp => (Kp.kind hm hp).and fun k _ hp => (Kp.aNode hm hp).and fun a _ hp => (Kp.other hm hp _).and fun o _ hp => (Kp.aDest hm hp).and fun d _ hp => (Kp.rest hm hp _ _).and fun r _ hp => (Kp.stop hm hp).and fun s _ hp => Kp.ok (hp.same _)
theorem Kp.all {s : PSt} (h : Pl m s) : Kp m id (allS s) := by
 unfold allS
 refine (Kp.protocol hm h).and fun s _ hp => ?_
 have hp : Pl m s := hp
 refine (Kp.failures hm hp).1.and fun k hk hp1 => ?_
 have hat := (Kp.failures hm hp).2 k hk
 exact (Kp.node hm hp1).and fun s _ hp => (Kp.many (fun _ h => Kp.node hm h) hp).and fun s _ hp => (Kp.many (fun _ h => Kp.link hm h) hp).and fun s _ hp => (Kp.many (fun _ h => Kp.dest hm h) hp).and fun s _ hp => (Kp.many (fun _ h => Kp.check hm h) hp).and fun s _ hp => (Kp.take hm hp 4).and fun r _ hp => by
  split
  ·exact Kp.err hat.1 hat.2
  ·exact Kp.ok hp
end
theorem parse_place (l : Bytes) : 0 ≤ (parseT l).2.2 ∧ (parseT l).2.2 ≤ ((l.length : Nat) : Int) := by
 obtain ⟨h1,h2,h3⟩ := lexT_place l
 unfold parseT parseToks
 split
 ·have hk := Kp.all (m := ((l.length : Nat) : Int)) (by omega) (s := ⟨noPlan,(lexT l).1⟩) h1
  cases he : allS ⟨noPlan,(lexT l).1⟩ with
  | ok s => exact ⟨Int.le_refl _,by simp only; omega⟩
  | error e => exact (hk.1 e he).2
 ·exact ⟨h2,h3⟩
theorem parse_code {l : Bytes} {e : Int × Int} (h : allS ⟨noPlan,(lexT l).1⟩ = .error e) : e.1 ≠ 0 := by
 obtain ⟨h1,_,_⟩ := lexT_place l
 have hk := Kp.all (m := ((l.length : Nat) : Int)) (by omega) (s := ⟨noPlan,(lexT l).1⟩) h1
 have := (hk.1 e h).1
 omega
end Go.Proofs.YtjhgghpeapmgdaaGreatDoor
