/-
  PLAN, PLAIN: the statements' network of raw numbers, as a function; it is a right one. No program here.
-/
import Derived.Test.YtcbclephakfemaaGreatRRRDoorPlanRight
namespace Go.Bk
open Go

def nodeNames : List Bytes := [[97],[98],[99],[100],[101],[102],[103]]
def destNames : List Bytes := [[120],[121]]
def netNodes : Nat → Nat → List Int → List PNode × List Int
 | 0,_,l => ([],l)
 | f + 1,i,l =>
  (⟨nodeNames.getD i [],if 0 < nextV (l.drop 1) 3 then ((10 + i : Nat) : Int) else ((1 + nextV l 9 : Nat) : Int)⟩ :: (netNodes f (i + 1) ((l.drop 1).drop 1)).1,(netNodes f (i + 1) ((l.drop 1).drop 1)).2)
def usedB (acc : List PLink) (a b : Nat) : Bool := acc.any fun x => decide (x.a = (a : Int) ∧ x.b = (b : Int))
def linkPair (n i : Nat) (l : List Int) : Nat × Nat × List Int :=
 if n ≤ i + 1 then (nextV l n,nextV (l.drop 1) n,(l.drop 1).drop 1)
 else if nextV l 4 = 0 then (nextV (l.drop 1) n,nextV ((l.drop 1).drop 1) n,((l.drop 1).drop 1).drop 1)
 else (i,i + 1,l.drop 1)
def netLink1 (n i : Nat) (l : List Int) (acc : List PLink) : List PLink × List Int :=
 let q := linkPair n i l
 let a := if q.2.1 < q.1 then q.2.1 else q.1
 let b := if q.2.1 < q.1 then q.1 else q.2.1
 if a ≠ b ∧ usedB acc a b = false then (acc ++ [⟨(a : Int),(b : Int),((1 + nextV q.2.2 15 % (1 + nextV (q.2.2.drop 1) 15) : Nat) : Int)⟩],(q.2.2.drop 1).drop 1) else (acc,q.2.2)
def netLinks : Nat → Nat → Nat → List Int → List PLink → List PLink × List Int
 | 0,_,_,l,acc => (acc,l)
 | f + 1,i,n,l,acc => netLinks f (i + 1) n (netLink1 n i l acc).2 (netLink1 n i l acc).1
def netDests : Nat → Nat → Nat → List Int → List PDest × List Int
 | 0,_,_,l => ([],l)
 | f + 1,j,n,l =>
  let o := nextV l n
  let l2 := (l.drop 1).drop 1
  let two : Bool := decide (nextV (l.drop 1) 3 = 0) && decide (o + 1 < n)
  let d : PDest := ⟨destNames.getD j [],if two then [(o : Int),((o + 1 + nextV l2 (n - o - 1) : Nat) : Int)] else [(o : Int)]⟩
  let r := netDests f (j + 1) n (if two then l2.drop 1 else l2)
  (d :: r.1,r.2)
def netCheck1 (n m : Nat) (l : List Int) : PCheck × List Int :=
 let k := 1 + nextV l 4
 let l1 := l.drop 1
 let l2 := l1.drop 1
 let l3 := l2.drop 1
 if k = 2 then (⟨(k : Int),(nextV l1 n : Nat),(nextV l2 m : Nat),(nextV l3 20 : Nat),0⟩,l3.drop 1)
 else if k = 3 ∨ k = 4 then (⟨(k : Int),(nextV l1 n : Nat),(nextV l2 m : Nat),0,(nextV l3 n : Nat)⟩,l3.drop 1)
 else (⟨(k : Int),(nextV l1 n : Nat),(nextV l2 m : Nat),0,0⟩,l3)
def netChecks : Nat → Nat → Nat → List Int → List PCheck × List Int
 | 0,_,_,l => ([],l)
 | f + 1,n,m,l => ((netCheck1 n m l).1 :: (netChecks f n m (netCheck1 n m l).2).1,(netChecks f n m (netCheck1 n m l).2).2)
structure NetS where
 path : Bool
 cap : Nat
 k : Nat
 n : Nat
 nodes : List PNode
 links : List PLink
 dests : List PDest
 checks : List PCheck
def netPath (raw : List Int) : Bool := decide (nextV (raw.take 200) 2 = 1)
def netSrc2 (raw : List Int) : List Int := if netPath raw then ((raw.take 200).drop 1).drop 1 else (raw.take 200).drop 1
def netCap (raw : List Int) : Nat := if netPath raw then 1 + nextV ((raw.take 200).drop 1) 6 else 0
def netN (raw : List Int) : Nat := 2 + nextV ((netSrc2 raw).drop 1) 6
def netA (raw : List Int) : List PNode × List Int := netNodes (netN raw) 0 (((netSrc2 raw).drop 1).drop 1)
def netB (raw : List Int) : List PLink × List Int := netLinks (nextV (netA raw).2 10) 0 (netN raw) ((netA raw).2.drop 1) []
def netC (raw : List Int) : List PDest × List Int := netDests (nextV (netB raw).2 2 + 1) 0 (netN raw) ((netB raw).2.drop 1)
def netD (raw : List Int) : List PCheck × List Int := netChecks (nextV (netC raw).2 7) (netN raw) (netC raw).1.length ((netC raw).2.drop 1)
def netP (raw : List Int) : PPlan :=
 ⟨if netPath raw then 2 else 1,(netCap raw : Int),min ((nextV (netSrc2 raw) 4 : Nat) : Int) ((netB raw).1.length : Int),(netA raw).1,(netB raw).1,(netC raw).1,(netD raw).1⟩

theorem netNodes_len : ∀ (f i : Nat) (l : List Int),(netNodes f i l).1.length = f
 | 0,_,_ => rfl
 | f + 1,i,l => by simp [netNodes,netNodes_len f]
theorem netNodes_name : ∀ (f i : Nat) (l : List Int),(netNodes f i l).1.map (·.name) = (List.range f).map fun j => nodeNames.getD (i + j) []
 | 0,_,_ => rfl
 | f + 1,i,l => by
  rw [List.range_succ_eq_map]
  simp only [netNodes,List.map_cons,List.map_map,netNodes_name f (i + 1),Nat.add_zero]
  congr 1
  apply List.map_congr_left
  intro j _
  simp only [Function.comp]
  congr 1
  omega
theorem netNodes_as : ∀ (f i : Nat) (l : List Int),f + i ≤ 60000 → ∀ x ∈ (netNodes f i l).1,1 ≤ x.asn ∧ x.asn ≤ 65535
 | 0,_,_,_,x,hx => by simp [netNodes] at hx
 | f + 1,i,l,h,x,hx => by
  simp only [netNodes,List.mem_cons] at hx
  rcases hx with rfl | hx
  ·have := nextV_lt l (n := 9) (by omega)
   simp only
   split <;> omega
  ·exact netNodes_as f (i + 1) _ (by omega) x hx
theorem linkPair_lt {n : Nat} (hn : 0 < n) (i : Nat) (l : List Int) : (linkPair n i l).1 < n ∧ (linkPair n i l).2.1 < n := by
 unfold linkPair
 split
 ·exact ⟨nextV_lt _ hn,nextV_lt _ hn⟩
 ·split
  ·exact ⟨nextV_lt _ hn,nextV_lt _ hn⟩
  ·simp only
   omega
def LinksOk (n : Nat) (acc : List PLink) : Prop := (∀ x ∈ acc,0 ≤ x.a ∧ x.a < x.b ∧ x.b < (n : Int) ∧ 1 ≤ x.cost ∧ x.cost ≤ 15) ∧ (linkKeys acc).Nodup
theorem netLink1_ok {n : Nat} (hn : 0 < n) (i : Nat) (l : List Int) {acc : List PLink} (h : LinksOk n acc) : LinksOk n (netLink1 n i l acc).1 := by
 have hp := linkPair_lt hn i l
 unfold netLink1
 simp only
 generalize linkPair n i l = q at hp ⊢
 generalize ha : (if q.2.1 < q.1 then q.2.1 else q.1) = a
 generalize hb : (if q.2.1 < q.1 then q.1 else q.2.1) = b
 have hab : a ≤ b ∧ b < n := by
  subst ha; subst hb
  split <;> omega
 split
 ·rename_i hc
  obtain ⟨hne,hu⟩ := hc
  refine ⟨fun x hx => ?_,?_⟩
  ·rcases List.mem_append.1 hx with hx | hx
   ·exact h.1 x hx
   ·rw [List.mem_singleton] at hx
    subst hx
    have h1 := nextV_lt q.2.2 (n := 15) (by omega)
    have h2 := Nat.mod_le (nextV q.2.2 15) (1 + nextV (q.2.2.drop 1) 15)
    simp only
    omega
  ·unfold linkKeys
   rw [List.map_append,List.nodup_append]
   refine ⟨h.2,by simp,fun y hy z hz e => ?_⟩
   rw [List.map_singleton,List.mem_singleton] at hz
   subst hz
   subst e
   obtain ⟨x,hx,hxe⟩ := List.mem_map.1 hy
   simp only [Prod.mk.injEq] at hxe
   unfold usedB at hu
   rw [List.any_eq_false] at hu
   exact hu x hx (by simpa using hxe)
 ·exact h
theorem netLink1_len (n i : Nat) (l : List Int) (acc : List PLink) : (netLink1 n i l acc).1.length ≤ acc.length + 1 := by
 unfold netLink1
 simp only
 generalize linkPair n i l = q
 generalize (if q.2.1 < q.1 then q.2.1 else q.1) = a
 generalize (if q.2.1 < q.1 then q.1 else q.2.1) = b
 split
 ·rw [List.length_append]; exact Nat.le_refl _
 ·exact Nat.le_succ _
theorem netLinks_ok {n : Nat} (hn : 0 < n) : ∀ (f i : Nat) (l : List Int) (acc : List PLink),LinksOk n acc → LinksOk n (netLinks f i n l acc).1
 | 0,_,_,_,h => h
 | f + 1,i,l,_,h => netLinks_ok hn f (i + 1) _ _ (netLink1_ok hn i l h)
theorem netLinks_len (n : Nat) : ∀ (f i : Nat) (l : List Int) (acc : List PLink),(netLinks f i n l acc).1.length ≤ acc.length + f
 | 0,_,_,_ => Nat.le_refl _
 | f + 1,i,l,acc => by
  have := netLinks_len n f (i + 1) (netLink1 n i l acc).2 (netLink1 n i l acc).1
  have := netLink1_len n i l acc
  simp only [netLinks]
  omega
theorem netDests_len : ∀ (f j n : Nat) (l : List Int),(netDests f j n l).1.length = f
 | 0,_,_,_ => rfl
 | f + 1,j,n,l => by simp [netDests,netDests_len f]
theorem netDests_name : ∀ (f j n : Nat) (l : List Int),(netDests f j n l).1.map (·.name) = (List.range f).map fun i => destNames.getD (j + i) []
 | 0,_,_,_ => rfl
 | f + 1,j,n,l => by
  rw [List.range_succ_eq_map]
  simp only [netDests,List.map_cons,List.map_map,netDests_name f (j + 1),Nat.add_zero]
  congr 1
  apply List.map_congr_left
  intro i _
  simp only [Function.comp]
  congr 1
  omega
theorem orig1 {n o : Nat} (h : o < n) : OrigOk [(o : Int)] (n : Int) 1 := by
 intro i hi
 have : i = 0 := by omega
 subst this
 refine ⟨placeB_iff.2 ?_,fun h => by omega⟩
 simp only [List.getD_cons_zero]
 omega
theorem orig2 {n o q : Nat} (h : o < q) (h2 : q < n) : OrigOk [(o : Int),(q : Int)] (n : Int) 2 := by
 intro i hi
 rcases Nat.lt_or_ge i 1 with h1 | h1
 ·have : i = 0 := by omega
  subst this
  refine ⟨placeB_iff.2 ?_,fun h => by omega⟩
  simp only [List.getD_cons_zero]
  omega
 ·have : i = 1 := by omega
  subst this
  refine ⟨placeB_iff.2 ?_,fun _ => ?_⟩
  ·simp only [List.getD_cons_succ,List.getD_cons_zero]
   omega
  ·simp only [Nat.sub_self,List.getD_cons_succ,List.getD_cons_zero]
   omega
theorem netDests_ok {n : Nat} (hn : 0 < n) : ∀ (f j : Nat) (l : List Int),∀ d ∈ (netDests f j n l).1,OrigOk d.origins n d.origins.length ∧ 0 < d.origins.length
 | 0,_,_,d,hd => by simp [netDests] at hd
 | f + 1,j,l,d,hd => by
  simp only [netDests,List.mem_cons] at hd
  rcases hd with rfl | hd
  ·have h1 := nextV_lt l hn
   simp only
   by_cases h : (decide (nextV (l.drop 1) 3 = 0) && decide (nextV l n + 1 < n)) = true
   ·rw [if_pos h]
    have h2 : nextV l n + 1 < n := by simp at h; exact h.2
    have h3 := nextV_lt ((l.drop 1).drop 1) (n := n - nextV l n - 1) (by omega)
    exact ⟨orig2 (by omega) (by omega),by simp⟩
   ·rw [if_neg h]
    exact ⟨orig1 h1,by simp⟩
  ·exact netDests_ok hn f (j + 1) _ d hd
theorem netCheck1_ok {n m : Nat} (hn : 0 < n) (hm : 0 < m) (l : List Int) : checkN n m (netCheck1 n m l).1 = true := by
 unfold netCheck1
 simp only
 have h0 := nextV_lt l (n := 4) (by omega)
 have h1 := nextV_lt (l.drop 1) hn
 have h2 := nextV_lt ((l.drop 1).drop 1) hm
 have h3 := nextV_lt (((l.drop 1).drop 1).drop 1) (n := 20) (by omega)
 have h4 := nextV_lt (((l.drop 1).drop 1).drop 1) hn
 split
 ·rename_i h
  unfold checkN
  rw [if_neg (by simp only; omega),if_pos (by simp only; omega)]
  exact checkR_iff.2 (by simp only; omega)
 ·split
  ·rename_i h
   unfold checkN
   rw [if_neg (by simp only; omega),if_neg (by simp only; omega),if_pos (by simp only; omega)]
   exact checkR_iff.2 (by simp only; omega)
  ·unfold checkN
   rw [if_pos (by simp only; omega)]
   exact checkR_iff.2 (by simp only; omega)
theorem netChecks_ok {n m : Nat} (hn : 0 < n) (hm : 0 < m) : ∀ (f : Nat) (l : List Int),∀ c ∈ (netChecks f n m l).1,checkN n m c = true
 | 0,_,c,hc => by simp [netChecks] at hc
 | f + 1,l,c,hc => by
  simp only [netChecks,List.mem_cons] at hc
  rcases hc with rfl | hc
  ·exact netCheck1_ok hn hm l
  ·exact netChecks_ok hn hm f _ c hc
theorem netChecks_len : ∀ (f n m : Nat) (l : List Int),(netChecks f n m l).1.length = f
 | 0,_,_,_ => rfl
 | f + 1,n,m,l => by simp [netChecks,netChecks_len f]
def namesOf (n f : Nat) : List Bytes := (List.range n).map (fun j => nodeNames.getD (0 + j) []) ++ (List.range f).map fun j => destNames.getD (0 + j) []
theorem names_ok : ∀ n ∈ List.range 8,∀ f ∈ List.range 3,(namesOf n f).all nameB = true ∧ (namesOf n f).Nodup := by decide +kernel
theorem netN_le (raw : List Int) : 2 ≤ netN raw ∧ netN raw ≤ 7 := by
 have := nextV_lt ((netSrc2 raw).drop 1) (n := 6) (by omega)
 unfold netN
 omega
theorem netP_nodes (raw : List Int) : (netP raw).nodes.length = netN raw := netNodes_len _ _ _
theorem netP_names (raw : List Int) : namesL (netP raw) = namesOf (netN raw) (netP raw).dests.length := by
 unfold namesL namesOf netP netA netC
 simp only
 rw [netNodes_name,netDests_name,netDests_len]
theorem netP_dests (raw : List Int) : 1 ≤ (netP raw).dests.length ∧ (netP raw).dests.length ≤ 2 := by
 have := nextV_lt (netB raw).2 (n := 2) (by omega)
 show 1 ≤ (netC raw).1.length ∧ (netC raw).1.length ≤ 2
 unfold netC
 rw [netDests_len]
 omega
theorem netP_checks (raw : List Int) : (netP raw).checks.length ≤ 6 := by
 have := nextV_lt (netC raw).2 (n := 7) (by omega)
 show (netD raw).1.length ≤ 6
 unfold netD
 rw [netChecks_len]
 omega
theorem netP_links (raw : List Int) : (netP raw).links.length ≤ 9 := by
 have := nextV_lt (netA raw).2 (n := 10) (by omega)
 show (netB raw).1.length ≤ 9
 unfold netB
 have := netLinks_len (netN raw) (nextV (netA raw).2 10) 0 ((netA raw).2.drop 1) []
 simp only [List.length_nil] at this
 omega
theorem netP_right (raw : List Int) : RightP (netP raw) := by
 have hn := netN_le raw
 have hl := netP_nodes raw
 have hd := netP_dests raw
 have hc := netP_checks raw
 have hk := netP_links raw
 have hL : LinksOk (netN raw) (netB raw).1 := netLinks_ok (by omega) _ _ _ _ ⟨by simp,by simp [linkKeys]⟩
 have hN := names_ok (netN raw) (by simp; omega) (netP raw).dests.length (by simp; omega)
 refine ⟨?_,?_,?_,?_,by omega,by omega,netNodes_as _ _ _ (by omega),fun x hx => ?_,by omega,hL.2,by omega,by omega,fun x hx => ?_,?_,fun d hd => ?_,fun c hc => ?_⟩
 ·unfold routingB
  have := nextV_lt ((raw.take 200).drop 1) (n := 6) (by omega)
  cases h : netPath raw
  ·have e1 : (netP raw).proto = 1 := by show (if netPath raw = true then (2 : Int) else 1) = 1; rw [h]; rfl
   have e2 : (netP raw).cap = 0 := by show ((netCap raw : Nat) : Int) = 0; unfold netCap; rw [h]; rfl
   rw [if_pos e1,e2]; rfl
  ·have e1 : (netP raw).proto = 2 := by show (if netPath raw = true then (2 : Int) else 1) = 2; rw [h]; rfl
   have e2 : (netP raw).cap = ((1 + nextV ((raw.take 200).drop 1) 6 : Nat) : Int) := by show ((netCap raw : Nat) : Int) = _; unfold netCap; rw [h]; rfl
   rw [if_neg (by omega),if_pos e1,e2]
   exact withinB_iff.2 (by omega)
 ·show 0 ≤ min _ _
  omega
 ·have := nextV_lt (netSrc2 raw) (n := 4) (by omega)
  show min _ _ ≤ (4 : Int)
  omega
 ·show min _ ((netB raw).1.length : Int) ≤ ((netB raw).1.length : Int)
  omega
 ·have := hL.1 x hx
  rw [hl]; exact this
 ·rw [netP_names] at hx
  exact List.all_eq_true.1 hN.1 x hx
 ·rw [netP_names]; exact hN.2
 ·rw [hl]
  exact netDests_ok (by omega) _ _ _ d hd
 ·unfold checkB
  rw [hl]
  exact netChecks_ok (by omega) (by have : (netC raw).1.length = (netP raw).dests.length := rfl; omega) _ _ c hc
end Go.Bk
