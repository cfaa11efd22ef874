/-
  PARSE: a network that is parsed is one that may be.
-/
import Derived.Test.YtjhgghpeapmgdaaGreatDoorMg8
import Derived.Test.YtjhgghpeapmgdaaGreatDoorPlanRight
import Derived.Test.YtjhgghpeapmgdaaGreatDoorMg4
namespace Go.Proofs.YtjhgghpeapmgdaaGreatDoor
open Go.Bk Go.Proofs
def Tw (t : Tok) : Prop := t.kind = 1 → kwB t.text = true ∨ nameB t.text = true
theorem firstT_word {l : Bytes} (h : ¬ (firstT l).2 = false) : Tw (firstT l).1 := by
 intro hk
 unfold firstT at h hk ⊢
 split at h
 ·rename_i h1
  rw [if_pos h1] at hk
  cases hk
 ·rename_i h1
  rw [if_neg h1] at hk ⊢
  split at h
  ·rename_i h2
   rw [if_pos h2] at hk
   cases hk
  ·rename_i h2
   rw [if_neg h2] at hk ⊢
   simp only at h hk ⊢
   split at h
   ·rename_i h3
    rw [if_pos h3] at hk
    cases hk
   ·rename_i h3
    rw [if_neg h3]
    rcases Bool.eq_false_or_eq_true (kwB (l.takeWhile partB)) with e | e
    ·exact .inl e
    ·exact .inr (by simp [e] at h; exact h)
theorem lexR_words : ∀ (f : Nat) (r : Bytes) (a : Nat),∀ t ∈ (lexR f r a).1,Tw t
 | 0,r,a,t,h => by simp [lexR] at h
 | f + 1,r,a,t,h => by
  simp only [lexR] at h
  split at h
  ·simp at h
  ·rename_i h1
   have hw := firstT_word h1
   split at h
   ·simp only [List.mem_singleton] at h
    subst h
    exact hw
   ·split at h
    ·rcases List.mem_cons.1 h with h | h
     ·subst h
      exact hw
     ·exact lexR_words f _ _ t h
    ·simp at h
theorem lexT_words (s : Bytes) : ∀ t ∈ (lexT s).1,Tw t := by
 unfold lexT
 split
 ·exact fun t h => by simp at h
 ·exact lexR_words _ _ _
def Ws (ts : List Tok) : Prop := ∀ t ∈ ts,Tw t
theorem take_ws {k : Int} {s : PSt} {r : Tok × PSt} (h : Ws s.ts) (hr : takeS k s = .ok r) : Ws r.2.ts ∧ r.2.p = s.p ∧ r.1.kind = k ∧ Tw r.1 := by
 obtain ⟨h1,rfl⟩ := takeS_ok hr
 refine ⟨?_,by simp only; split <;> rfl,h1,?_⟩
 ·simp only
  split
  ·exact h
  ·exact fun t ht => h t (List.mem_of_mem_drop ht)
 ·unfold PSt.hd
  cases hs : s.ts with
  | nil => exact fun hk => by cases hk
  | cons t r => exact h t (by rw [hs]; simp)
theorem word_ws {wd : Bytes} {s : PSt} {r : Tok × PSt} (h : Ws s.ts) (hr : wordS wd s = .ok r) : Ws r.2.ts ∧ r.2.p = s.p := by
 have := take_ws h (wordS_ok hr).2
 exact ⟨this.1,this.2.1⟩
theorem head_ws {wd : Bytes} {a b : Int} {s s' : PSt} (h : Ws s.ts) (hr : headS wd a b s = .ok s') : Ws s'.ts ∧ s'.p = s.p ∧ b < a := by
 obtain ⟨t,h1,h2⟩ := headS_ok hr
 have := word_ws h h1
 exact ⟨this.1,this.2,h2⟩
theorem number_ws {l u : Int} {s : PSt} {r : Int × PSt} (h : Ws s.ts) (hr : numberS l u s = .ok r) : Ws r.2.ts ∧ r.2.p = s.p ∧ l ≤ r.1 ∧ r.1 ≤ u := by
 unfold numberS at hr
 obtain ⟨t,h1,h2⟩ := andE_some hr
 have := take_ws h h1
 split at h2
 ·cases h2
 ·cases h2
  exact ⟨this.1,this.2.1,by omega,by omega⟩
theorem stop_ws {s s' : PSt} (h : Ws s.ts) (hr : stopS s = .ok s') : Ws s'.ts ∧ s'.p = s.p := by
 unfold stopS at hr
 obtain ⟨t,h1,h2⟩ := andE_some hr
 cases h2
 have := take_ws h h1
 exact ⟨this.1,this.2.1⟩
theorem fresh_ws {s : PSt} {r : Bytes × PSt} (h : Ws s.ts) (hr : freshS s = .ok r) : Ws r.2.ts ∧ r.2.p = s.p ∧ nameB r.1 = true ∧ nodeIx s.p r.1 < 0 ∧ destIx s.p r.1 < 0 := by
 unfold freshS at hr
 obtain ⟨t,h1,h2⟩ := andE_some hr
 obtain ⟨w1,w2,w3,w4⟩ := take_ws h h1
 split at h2
 ·cases h2
 ·rename_i hn
  cases h2
  have hk : ¬ kwB t.1.text = true := fun e => hn (.inl e)
  refine ⟨w1,w2,(w4 w3).resolve_left hk,?_,?_⟩
  ·have : ¬ 0 ≤ nodeIx t.2.p t.1.text := fun e => hn (.inr (.inl e))
   rw [w2] at this
   simp only
   omega
  ·have : ¬ 0 ≤ destIx t.2.p t.1.text := fun e => hn (.inr (.inr e))
   rw [w2] at this
   simp only
   omega
theorem known_ws {f : PPlan → Bytes → Int} {s : PSt} {r : (Int × Tok) × PSt} (h : Ws s.ts) (hr : knownS f s = .ok r) : Ws r.2.ts ∧ r.2.p = s.p ∧ 0 ≤ r.1.1 ∧ r.1.1 = f s.p r.1.2.text := by
 unfold knownS at hr
 obtain ⟨t,h1,h2⟩ := andE_some hr
 obtain ⟨w1,w2,_,_⟩ := take_ws h h1
 split at h2
 ·cases h2
 ·cases h2
  exact ⟨w1,w2,by simp only; omega,by simp only; rw [w2]⟩
theorem idxI_lt {α : Type} (f : α → Bool) (l : List α) (h : 0 ≤ idxI f l) : idxI f l < l.length := by
 unfold idxI at h ⊢
 split at h
 ·rename_i i hi
  have := (List.findIdx?_eq_some_iff_getElem.1 hi).1
  omega
 ·omega
theorem kind_ws {s : PSt} {r : Int × PSt} (h : Ws s.ts) (hr : kindS s = .ok r) : Ws r.2.ts ∧ r.2.p = s.p ∧ 0 ≤ r.1 ∧ r.1 < 5 := by
 unfold kindS at hr
 obtain ⟨t,h1,h2⟩ := andE_some hr
 obtain ⟨w1,w2,_,_⟩ := take_ws h h1
 split at h2
 ·cases h2
 ·cases h2
  refine ⟨w1,w2,by simp only; omega,?_⟩
  exact idxI_lt _ kindWords (by unfold kindIx at *; omega)
structure Rx (p : PPlan) : Prop where
 routing : routingB p = true
 k0 : 0 ≤ p.k
 k1 : p.k ≤ 4
 n1 : p.nodes.length ≤ 12
 asn : ∀ x ∈ p.nodes,1 ≤ x.asn ∧ x.asn ≤ 65535
 link : ∀ x ∈ p.links,0 ≤ x.a ∧ x.a < x.b ∧ x.b < p.nodes.length ∧ 1 ≤ x.cost ∧ x.cost ≤ 15
 l1 : p.links.length ≤ 16
 lnd : (linkKeys p.links).Nodup
 d1 : p.dests.length ≤ 4
 c1 : p.checks.length ≤ 16
 names : ∀ x ∈ namesL p,nameB x = true
 nnd : (namesL p).Nodup
 dest : ∀ d ∈ p.dests,OrigOk d.origins p.nodes.length d.origins.length ∧ 0 < d.origins.length
 check : ∀ c ∈ p.checks,checkB p c = true
theorem Rx.right {p : PPlan} (h : Rx p) (n0 : 1 ≤ p.nodes.length) (k2 : p.k ≤ p.links.length) : RightP p :=
 ⟨h.routing,h.k0,h.k1,k2,n0,h.n1,h.asn,h.link,h.l1,h.lnd,h.d1,h.c1,h.names,h.nnd,h.dest,h.check⟩
theorem idx_none {α : Type} {f : α → Bool} {l : List α} (h : idxI f l < 0) : ∀ x ∈ l,f x = false := by
 have := idxI_any f l
 rw [decide_eq_false (by omega)] at this
 intro x hx
 cases hf : f x with
 | false => rfl
 | true =>
  have h2 := List.any_eq_true.2 ⟨x,hx,hf⟩
  rw [← this] at h2
  cases h2
theorem node_rx {s s' : PSt} (h : Ws s.ts) (hR : Rx s.p) (e1 : s.p.links = []) (e2 : s.p.dests = []) (e3 : s.p.checks = []) (hr : nodeS s = .ok s') :
  Ws s'.ts ∧ Rx s'.p ∧ s'.p.links = [] ∧ s'.p.dests = [] ∧ s'.p.checks = [] ∧ 1 ≤ s'.p.nodes.length := by
 unfold nodeS at hr
 obtain ⟨s1,h1,hr⟩ := andE_some hr
 obtain ⟨x,h2,hr⟩ := andE_some hr
 obtain ⟨n,h3,hr⟩ := andE_some hr
 obtain ⟨s2,h4,hr⟩ := andE_some hr
 cases hr
 obtain ⟨a1,a2,a3⟩ := head_ws h h1
 obtain ⟨b1,b2,b3,b4,b5⟩ := fresh_ws a1 h2
 obtain ⟨c1,c2,c3,c4⟩ := number_ws b1 h3
 obtain ⟨d1,d2⟩ := stop_ws c1 h4
 have hp : s2.p = s.p := by rw [d2,c2,b2,a2]
 rw [a2] at b4 b5
 have hn : namesL (addNode s.p ⟨x.1,n.1⟩) = s.p.nodes.map (·.name) ++ [x.1] := by simp [namesL,addNode,e2]
 have hn0 : namesL s.p = s.p.nodes.map (·.name) := by simp [namesL,e2]
 refine ⟨d1,?_,?_⟩
 ·rw [hp]
  refine ⟨hR.routing,hR.k0,hR.k1,?_,?_,?_,hR.l1,hR.lnd,hR.d1,hR.c1,?_,?_,?_,?_⟩
  ·simp only [addNode,List.length_append,List.length_singleton]; omega
  ·intro y hy
   simp only [addNode,List.mem_append,List.mem_singleton] at hy
   rcases hy with hy | rfl
   ·exact hR.asn y hy
   ·exact ⟨c3,c4⟩
  ·intro y hy
   simp only [addNode,e1] at hy
   cases hy
  ·intro y hy
   rw [hn,List.mem_append,List.mem_singleton] at hy
   rcases hy with hy | rfl
   ·exact hR.names y (by rw [hn0]; exact hy)
   ·exact b3
  ·rw [hn,List.nodup_append]
   refine ⟨hn0 ▸ hR.nnd,by simp,fun y hy z hz e => ?_⟩
   rw [List.mem_singleton] at hz
   obtain ⟨v,hv,rfl⟩ := List.mem_map.1 hy
   have := idx_none b4 v hv
   rw [e,hz] at this
   simp at this
  ·intro y hy
   simp only [addNode,e2] at hy
   cases hy
  ·intro y hy
   simp only [addNode,e3] at hy
   cases hy
 ·rw [hp]
  exact ⟨e1,e2,e3,by simp only [addNode,List.length_append,List.length_singleton]; omega⟩
theorem link_rx {s s' : PSt} (h : Ws s.ts) (hR : Rx s.p) (e2 : s.p.dests = []) (e3 : s.p.checks = []) (hr : linkS s = .ok s') :
  Ws s'.ts ∧ Rx s'.p ∧ s'.p.dests = [] ∧ s'.p.checks = [] ∧ s'.p.nodes = s.p.nodes := by
 unfold linkS at hr
 obtain ⟨s1,h1,hr⟩ := andE_some hr
 obtain ⟨x,h2,hr⟩ := andE_some hr
 obtain ⟨y,h3,hr⟩ := andE_some hr
 split at hr
 ·cases hr
 ·rename_i hno
  obtain ⟨n,h4,hr⟩ := andE_some hr
  obtain ⟨s2,h5,hr⟩ := andE_some hr
  cases hr
  obtain ⟨a1,a2,a3⟩ := head_ws h h1
  obtain ⟨b1,b2,b3,b4⟩ := known_ws a1 h2
  obtain ⟨c1,c2,c3,c4⟩ := known_ws b1 h3
  obtain ⟨d1,d2,d3,d4⟩ := number_ws c1 h4
  obtain ⟨f1,f2⟩ := stop_ws d1 h5
  have hy : y.2.p = s.p := by rw [c2,b2,a2]
  have hp : s2.p = s.p := by rw [f2,d2,hy]
  rw [a2] at b4
  rw [b2,a2] at c4
  have lx : x.1.1 < s.p.nodes.length := by rw [b4]; exact idxI_lt _ _ (by rw [b4] at b3; exact b3)
  have ly : y.1.1 < s.p.nodes.length := by rw [c4]; exact idxI_lt _ _ (by rw [c4] at c3; exact c3)
  rw [hy] at hno
  have hne : x.1.1 ≠ y.1.1 := fun e => hno (.inl e)
  have hli : hasLink s.p (min x.1.1 y.1.1) (max x.1.1 y.1.1) = false := by
   cases e : hasLink s.p (min x.1.1 y.1.1) (max x.1.1 y.1.1) with
   | false => rfl
   | true => exact absurd (.inr e) hno
  rw [hp]
  refine ⟨f1,⟨hR.routing,hR.k0,hR.k1,hR.n1,hR.asn,?_,?_,?_,hR.d1,hR.c1,hR.names,hR.nnd,?_,?_⟩,e2,e3,rfl⟩
  ·intro z hz
   simp only [addLink,List.mem_append,List.mem_singleton] at hz
   rcases hz with hz | rfl
   ·exact hR.link z hz
   ·refine ⟨by simp only; omega,by simp only; omega,by simp only [addLink]; omega,d3,d4⟩
  ·simp only [addLink,List.length_append,List.length_singleton]; omega
  ·have hk : linkKeys (addLink s.p ⟨min x.1.1 y.1.1,max x.1.1 y.1.1,n.1⟩).links = linkKeys s.p.links ++ [(min x.1.1 y.1.1,max x.1.1 y.1.1)] := by simp [addLink,linkKeys]
   rw [hk,List.nodup_append]
   refine ⟨hR.lnd,by simp,fun u hu v hv e => ?_⟩
   rw [List.mem_singleton] at hv
   unfold linkKeys at hu
   obtain ⟨t,ht,rfl⟩ := List.mem_map.1 hu
   unfold hasLink at hli
   rw [List.any_eq_false] at hli
   have := hli t ht
   rw [hv] at e
   simp only [Prod.mk.injEq] at e
   simp only [Bool.and_eq_true,decide_eq_true_eq,not_and] at this
   exact this e.1.symm e.2.symm
  ·intro z hz
   simp only [addLink,e2] at hz
   cases hz
  ·intro z hz
   simp only [addLink,e3] at hz
   cases hz
theorem loop_inv {σ : Type} {c : σ → Bool} {f : σ → PE σ} {m : σ → Nat} (hf : ∀ s s',f s = .ok s' → m s' < m s) (I : σ → Prop) (hI : ∀ s s',I s → c s = true → f s = .ok s' → I s') :
  ∀ (n : Nat) (s s' : σ),m s < n → I s → loopS c f n s = .ok s' → I s' ∧ c s' = false
 | 0,s,s',h,_,_ => absurd h (Nat.not_lt_zero _)
 | n + 1,s,s',h,hs,hr => by
  rw [loopS] at hr
  split at hr
  ·rename_i hc
   obtain ⟨s1,h1,h2⟩ := andE_some hr
   have := hf s s1 h1
   exact loop_inv hf I hI n s1 s' (by omega) (hI s s1 hs hc h1) h2
  ·rename_i hc
   cases hr
   exact ⟨hs,by simpa using hc⟩
theorem while_inv {σ : Type} {c : σ → Bool} {f : σ → PE σ} {m : σ → Nat} (hf : ∀ s s',f s = .ok s' → m s' < m s) (I : σ → Prop) (hI : ∀ s s',I s → c s = true → f s = .ok s' → I s') {s s' : σ} (hs : I s) (hr : whileS c f m s = .ok s') : I s' ∧ c s' = false :=
 loop_inv hf I hI _ s s' (Nat.lt_succ_self _) hs hr
theorem origins_ws {s : PSt} {o : List Int × PSt} (h : Ws s.ts) (hr : originsS ([],s) = .ok o) : Ws o.2.ts ∧ o.2.p = s.p ∧ (∀ i ∈ o.1,0 ≤ i ∧ i < s.p.nodes.length) ∧ o.1.Nodup ∧ o.1 ≠ [] := by
 obtain ⟨⟨h1,h2,h3,h4⟩,h5⟩ := while_inv (m := fun y : List Int × PSt => y.2.ts.length) origS_lt (fun x => Ws x.2.ts ∧ x.2.p = s.p ∧ (∀ i ∈ x.1,0 ≤ i ∧ i < s.p.nodes.length) ∧ x.1.Nodup) (fun x y hx _ hy => by
  obtain ⟨i1,i2,i3,i4⟩ := hx
  unfold origS at hy
  obtain ⟨r,k1,hy⟩ := andE_some hy
  obtain ⟨b1,b2,b3,b4⟩ := known_ws i1 k1
  split at hy
  ·cases hy
  ·rename_i hn
   cases hy
   rw [decide_eq_true_eq] at hn
   rw [i2] at b4
   refine ⟨b1,b2.trans i2,fun i hi => ?_,?_⟩
   ·rcases List.mem_append.1 hi with hi | hi
    ·exact i3 i hi
    ·rw [List.mem_singleton] at hi
     subst hi
     exact ⟨b3,by rw [b4]; exact idxI_lt _ _ (by rw [b4] at b3; exact b3)⟩
   ·rw [List.nodup_append]
    refine ⟨i4,by simp,fun u hu v hv e => ?_⟩
    rw [List.mem_singleton] at hv
    rw [hv] at e
    exact hn (e ▸ hu)) ⟨h,rfl,(fun i hi => by cases hi),List.nodup_nil⟩ hr
 refine ⟨h1,h2,h3,h4,fun e => ?_⟩
 unfold origC at h5
 rw [e] at h5
 simp at h5
theorem origOk_sort {l : List Int} {m : Int} (h : ∀ i ∈ l,0 ≤ i ∧ i < m) (hn : l.Nodup) : OrigOk (sortI l) m (sortI l).length := by
 have hp := sortI_perm l
 have hs := sortI_sorted l
 have hd : (sortI l).Nodup := hp.nodup_iff.2 hn
 rw [List.pairwise_iff_getElem] at hs
 intro i hi
 have hm : (sortI l).getD i 0 ∈ l := hp.mem_iff.1 (getD_mem' 0 hi)
 refine ⟨?_,fun h0 => ?_⟩
 ·have := h _ hm
  unfold placeB
  simp only [Bool.and_eq_true,decide_eq_true_eq]
  exact this
 ·have h1 := hs (i - 1) i (by omega) hi (by omega)
  have h2 : (sortI l)[i - 1] ≠ (sortI l)[i] := fun e => by
   have := (List.getElem_inj hd).1 e
   omega
  rw [List.getD_eq_getElem?_getD,List.getD_eq_getElem?_getD,List.getElem?_eq_getElem hi,List.getElem?_eq_getElem (show i - 1 < (sortI l).length by omega)]
  simp only [Option.getD_some]
  omega
theorem dest_rx {s s' : PSt} (h : Ws s.ts) (hR : Rx s.p) (e3 : s.p.checks = []) (hr : destS s = .ok s') : Ws s'.ts ∧ Rx s'.p ∧ s'.p.checks = [] ∧ s'.p.nodes = s.p.nodes ∧ s'.p.links = s.p.links := by
 unfold destS at hr
 obtain ⟨s1,h1,hr⟩ := andE_some hr
 obtain ⟨x,h2,hr⟩ := andE_some hr
 obtain ⟨r,h3,hr⟩ := andE_some hr
 obtain ⟨o,h4,hr⟩ := andE_some hr
 obtain ⟨s2,h5,hr⟩ := andE_some hr
 cases hr
 obtain ⟨a1,a2,a3⟩ := head_ws h h1
 obtain ⟨b1,b2,b3,b4,b5⟩ := fresh_ws a1 h2
 obtain ⟨c1,c2⟩ := word_ws b1 h3
 obtain ⟨d1,d2,d3,d4,d5⟩ := origins_ws c1 h4
 obtain ⟨f1,f2⟩ := stop_ws d1 h5
 have hrp : r.2.p = s.p := by rw [c2,b2,a2]
 have hp : s2.p = s.p := by rw [f2,d2,hrp]
 rw [a2] at b4 b5
 rw [hrp] at d3
 have hn : namesL (addDest s.p ⟨x.1,sortI o.1⟩) = namesL s.p ++ [x.1] := by simp [namesL,addDest]
 rw [hp]
 refine ⟨f1,⟨hR.routing,hR.k0,hR.k1,hR.n1,hR.asn,hR.link,hR.l1,hR.lnd,?_,hR.c1,?_,?_,?_,?_⟩,e3,rfl,rfl⟩
 ·simp only [addDest,List.length_append,List.length_singleton]; omega
 ·intro y hy
  rw [hn,List.mem_append,List.mem_singleton] at hy
  rcases hy with hy | rfl
  ·exact hR.names y hy
  ·exact b3
 ·rw [hn,List.nodup_append]
  refine ⟨hR.nnd,by simp,fun y hy z hz e => ?_⟩
  rw [List.mem_singleton] at hz
  rw [hz] at e
  unfold namesL at hy
  rcases List.mem_append.1 hy with hy | hy
  ·obtain ⟨v,hv,rfl⟩ := List.mem_map.1 hy
   have := idx_none b4 v hv
   rw [e] at this
   simp at this
  ·obtain ⟨v,hv,rfl⟩ := List.mem_map.1 hy
   have := idx_none b5 v hv
   rw [e] at this
   simp at this
 ·intro y hy
  simp only [addDest,List.mem_append,List.mem_singleton] at hy
  rcases hy with hy | rfl
  ·exact hR.dest y hy
  ·refine ⟨origOk_sort d3 d4,?_⟩
   simp only
   rw [sortI_len]
   exact List.length_pos_iff.2 d5
 ·intro y hy
  simp only [addDest,e3] at hy
  cases hy
theorem kind_pos {s : PSt} {r : Int × PSt} (h : Ws s.ts) (hr : kindS s = .ok r) : 1 ≤ r.1 := by
 unfold kindS at hr
 obtain ⟨t,h1,h2⟩ := andE_some hr
 obtain ⟨w1,w2,w3,w4⟩ := take_ws h h1
 split at h2
 ·cases h2
 ·rename_i hn
  cases h2
  have ht : t.1.text ≠ [] := fun e => by
   rcases w4 w3 with e1 | e1
   ·rw [e,kwB_nil] at e1; cases e1
   ·rw [e,nameB_nil] at e1; cases e1
  simp only
  have h0 : kindIx t.1.text ≠ 0 := fun e => by
   unfold kindIx idxI kindWords at e
   rw [List.findIdx?_cons,decide_eq_false ht] at e
   simp only [Bool.false_eq_true,if_false] at e
   split at e
   ·rename_i i hi
    simp only [Option.map_eq_some_iff] at hi
    obtain ⟨j,_,hj⟩ := hi
    omega
   ·omega
  omega
theorem check_rx {s s' : PSt} (h : Ws s.ts) (hR : Rx s.p) (hr : checkS s = .ok s') : Ws s'.ts ∧ Rx s'.p ∧ s'.p.nodes = s.p.nodes ∧ s'.p.links = s.p.links := by
 unfold checkS at hr
 obtain ⟨s1,h1,hr⟩ := andE_some hr
 obtain ⟨k,h2,hr⟩ := andE_some hr
 obtain ⟨n,h3,hr⟩ := andE_some hr
 obtain ⟨o,h4,hr⟩ := andE_some hr
 obtain ⟨d,h5,hr⟩ := andE_some hr
 obtain ⟨e,h6,hr⟩ := andE_some hr
 obtain ⟨s2,h7,hr⟩ := andE_some hr
 cases hr
 have aN : ∀ {s : PSt} {r : Int × PSt},Ws s.ts → aNodeS s = .ok r → Ws r.2.ts ∧ r.2.p = s.p ∧ 0 ≤ r.1 ∧ r.1 < s.p.nodes.length := fun {s r} h hr => by
  unfold aNodeS at hr
  obtain ⟨t,h1,h2⟩ := andE_some hr
  cases h2
  obtain ⟨b1,b2,b3,b4⟩ := known_ws h h1
  exact ⟨b1,b2,b3,by simp only; rw [b4]; exact idxI_lt _ _ (by rw [b4] at b3; exact b3)⟩
 have aD : ∀ {s : PSt} {r : Int × PSt},Ws s.ts → aDestS s = .ok r → Ws r.2.ts ∧ r.2.p = s.p ∧ 0 ≤ r.1 ∧ r.1 < s.p.dests.length := fun {s r} h hr => by
  unfold aDestS at hr
  obtain ⟨t,h1,h2⟩ := andE_some hr
  cases h2
  obtain ⟨b1,b2,b3,b4⟩ := known_ws h h1
  exact ⟨b1,b2,b3,by simp only; rw [b4]; exact idxI_lt _ _ (by rw [b4] at b3; exact b3)⟩
 obtain ⟨a1,a2,a3⟩ := head_ws h h1
 obtain ⟨b1,b2,b3,b4⟩ := kind_ws a1 h2
 have b5 := kind_pos a1 h2
 obtain ⟨c1,c2,c3,c4⟩ := aN b1 h3
 have ho : Ws o.2.ts ∧ o.2.p = s.p ∧ (k.1 = 4 → 0 ≤ o.1 ∧ o.1 < s.p.nodes.length) ∧ (k.1 ≠ 4 → o.1 = 0) := by
  unfold otherS at h4
  split at h4
  ·rename_i h44
   obtain ⟨x1,x2,x3,x4⟩ := aN c1 h4
   rw [c2,b2,a2] at x2 x4
   exact ⟨x1,x2,fun _ => ⟨x3,x4⟩,fun hn => absurd h44 hn⟩
  ·rename_i h44
   cases h4
   exact ⟨c1,by simp only; rw [c2,b2,a2],fun h => absurd h h44,fun _ => rfl⟩
 obtain ⟨o1,o2,o3,o4⟩ := ho
 obtain ⟨d1,d2,d3,d4⟩ := aD o1 h5
 have he : Ws e.2.ts ∧ e.2.p = s.p ∧ (k.1 = 2 → 0 ≤ e.1.1 ∧ e.1.1 ≤ 65535) ∧ (k.1 ≠ 2 → e.1.1 = 0) ∧ (k.1 = 3 → 0 ≤ e.1.2 ∧ e.1.2 < s.p.nodes.length) ∧ (k.1 ≠ 3 → e.1.2 = o.1) := by
  unfold restS at h6
  split at h6
  ·rename_i hk
   obtain ⟨t,t1,t2⟩ := andE_some h6
   cases t2
   obtain ⟨x1,x2,x3,x4⟩ := number_ws d1 t1
   exact ⟨x1,by simp only; rw [x2,d2,o2],fun _ => ⟨x3,x4⟩,fun hn => absurd hk hn,fun h => by omega,fun _ => rfl⟩
  ·rename_i hk
   split at h6
   ·rename_i hk3
    obtain ⟨t,t1,t2⟩ := andE_some h6
    cases t2
    obtain ⟨x1,x2,x3,x4⟩ := aN d1 t1
    rw [d2,o2] at x2 x4
    exact ⟨x1,x2,fun h => absurd h hk,fun _ => rfl,fun _ => ⟨x3,x4⟩,fun hn => absurd hk3 hn⟩
   ·rename_i hk3
    cases h6
    exact ⟨d1,by simp only; rw [d2,o2],fun h => absurd h hk,fun _ => rfl,fun h => absurd h hk3,fun _ => rfl⟩
 obtain ⟨e1,e2,e3,e4,e5,e6⟩ := he
 obtain ⟨f1,f2⟩ := stop_ws e1 h7
 have hp : s2.p = s.p := by rw [f2,e2]
 rw [b2,a2] at c4
 rw [o2] at d4
 rw [hp]
 refine ⟨f1,⟨hR.routing,hR.k0,hR.k1,hR.n1,hR.asn,hR.link,hR.l1,hR.lnd,hR.d1,?_,hR.names,hR.nnd,hR.dest,?_⟩,rfl,rfl⟩
 ·simp only [addCheck,List.length_append,List.length_singleton]; omega
 ·intro y hy
  simp only [addCheck,List.mem_append,List.mem_singleton] at hy
  rcases hy with hy | rfl
  ·exact hR.check y hy
  ·show checkN s.p.nodes.length s.p.dests.length _ = true
   unfold checkN
   simp only
   split
   ·exact checkR_iff.2 (by simp only; have := e4 (by omega); have := e6 (by omega); have := o4 (by omega); omega)
   ·split
    ·exact checkR_iff.2 (by simp only; have := e3 (by omega); have := e6 (by omega); have := o4 (by omega); omega)
    ·rw [if_pos (by omega)]
     rcases (show k.1 = 3 ∨ k.1 = 4 by omega) with hk | hk
     ·exact checkR_iff.2 (by simp only; have := e4 (by omega); have := e5 hk; omega)
     ·exact checkR_iff.2 (by simp only; have := e4 (by omega); have := e6 (by omega); have := o3 hk; omega)
theorem many_inv {wd : Bytes} {f : PSt → PE PSt} (hf : ∀ s s' : PSt,f s = .ok s' → s'.ts.length < s.ts.length) (I : PSt → Prop) (hI : ∀ s s',I s → f s = .ok s' → I s') {s s' : PSt} (hs : I s) (hr : manyS wd f s = .ok s') : I s' :=
 (while_inv (m := fun y : PSt => y.ts.length) hf I (fun s s' hs _ hr => hI s s' hs hr) hs hr).1
theorem start_rx {s z : PSt} {r : Tok × PSt} (h : Ws s.ts) (h0 : s.p = noPlan) (hr : protocolS s = .ok z) (hk : failuresS z = .ok r) : Ws r.2.ts ∧ Rx r.2.p ∧ r.2.p.nodes = [] ∧ r.2.p.links = [] ∧ r.2.p.dests = [] ∧ r.2.p.checks = [] := by
 have hz : Ws z.ts ∧ ∃ pr cp : Int,z.p = ⟨pr,cp,0,[],[],[],[]⟩ ∧ routingB z.p = true := by
  unfold protocolS at hr
  obtain ⟨a,h1,hr⟩ := andE_some hr
  obtain ⟨w1,w2⟩ := word_ws h h1
  split at hr
  ·obtain ⟨b,h2,hr⟩ := andE_some hr
   obtain ⟨c,h3,hr⟩ := andE_some hr
   obtain ⟨x1,x2⟩ := word_ws w1 h2
   obtain ⟨y1,y2,y3,y4⟩ := number_ws x1 h3
   obtain ⟨v1,v2⟩ := stop_ws (s := { c.2 with p := { c.2.p with proto := 2,cap := c.1 } }) y1 hr
   have hp : c.2.p = noPlan := by rw [y2,x2,w2,h0]
   rw [hp] at v2
   refine ⟨v1,2,c.1,v2,?_⟩
   rw [v2]
   simp [routingB,withinB]
   omega
  ·obtain ⟨b,h2,hr⟩ := andE_some hr
   obtain ⟨x1,x2⟩ := word_ws w1 h2
   obtain ⟨v1,v2⟩ := stop_ws (s := { b.2 with p := { b.2.p with proto := 1 } }) x1 hr
   have hp : b.2.p = noPlan := by rw [x2,w2,h0]
   rw [hp] at v2
   refine ⟨v1,1,0,v2,?_⟩
   rw [v2]; rfl
 obtain ⟨z1,pr,cp,z2,z3⟩ := hz
 unfold failuresS at hk
 obtain ⟨a,h1,hk⟩ := andE_some hk
 obtain ⟨b,h2,hk⟩ := andE_some hk
 obtain ⟨c,h3,hk⟩ := andE_some hk
 cases hk
 obtain ⟨w1,w2⟩ := word_ws z1 h1
 obtain ⟨y1,y2,y3,y4⟩ := number_ws w1 h2
 obtain ⟨v1,v2⟩ := stop_ws (s := { b.2 with p := { b.2.p with k := b.1 } }) y1 h3
 have hp : b.2.p = ⟨pr,cp,0,[],[],[],[]⟩ := by rw [y2,w2,z2]
 rw [hp] at v2
 rw [z2] at z3
 simp only at v2 ⊢
 rw [v2]
 exact ⟨v1,⟨z3,y3,y4,Nat.zero_le _,(fun x hx => by cases hx),(fun x hx => by cases hx),Nat.zero_le _,List.nodup_nil,Nat.zero_le _,Nat.zero_le _,(fun x hx => by cases hx),List.nodup_nil,(fun x hx => by cases hx),(fun x hx => by cases hx)⟩,rfl,rfl,rfl,rfl⟩
theorem all_right {s s' : PSt} (h : Ws s.ts) (h0 : s.p = noPlan) (hr : allS s = .ok s') : RightP s'.p := by
 unfold allS at hr
 obtain ⟨z,h1,hr⟩ := andE_some hr
 obtain ⟨k,h2,hr⟩ := andE_some hr
 obtain ⟨s1,h3,hr⟩ := andE_some hr
 obtain ⟨s2,h4,hr⟩ := andE_some hr
 obtain ⟨s3,h5,hr⟩ := andE_some hr
 obtain ⟨s4,h6,hr⟩ := andE_some hr
 obtain ⟨s5,h7,hr⟩ := andE_some hr
 obtain ⟨t,h8,hr⟩ := andE_some hr
 obtain ⟨a1,a2,a3,a4,a5,a6⟩ := start_rx h h0 h1 h2
 obtain ⟨b1,b2,b3,b4,b5,b6⟩ := node_rx a1 a2 a4 a5 a6 h3
 obtain ⟨c1,c2,c3,c4,c5,c6⟩ := many_inv nodeS_lt (fun s => Ws s.ts ∧ Rx s.p ∧ s.p.links = [] ∧ s.p.dests = [] ∧ s.p.checks = [] ∧ 1 ≤ s.p.nodes.length) (fun s s' hs hf => node_rx hs.1 hs.2.1 hs.2.2.1 hs.2.2.2.1 hs.2.2.2.2.1 hf) ⟨b1,b2,b3,b4,b5,b6⟩ h4
 obtain ⟨d1,d2,d3,d4,d5⟩ := many_inv linkS_lt (fun s => Ws s.ts ∧ Rx s.p ∧ s.p.dests = [] ∧ s.p.checks = [] ∧ 1 ≤ s.p.nodes.length) (fun s s' hs hf => by
  obtain ⟨x1,x2,x3,x4,x5⟩ := link_rx hs.1 hs.2.1 hs.2.2.1 hs.2.2.2.1 hf
  exact ⟨x1,x2,x3,x4,by rw [x5]; exact hs.2.2.2.2⟩) ⟨c1,c2,c4,c5,c6⟩ h5
 obtain ⟨e1,e2,e3,e4⟩ := many_inv destS_lt (fun s => Ws s.ts ∧ Rx s.p ∧ s.p.checks = [] ∧ 1 ≤ s.p.nodes.length) (fun s s' hs hf => by
  obtain ⟨x1,x2,x3,x4,_⟩ := dest_rx hs.1 hs.2.1 hs.2.2.1 hf
  exact ⟨x1,x2,x3,by rw [x4]; exact hs.2.2.2⟩) ⟨d1,d2,d4,d5⟩ h6
 obtain ⟨f1,f2,f3⟩ := many_inv checkS_lt (fun s => Ws s.ts ∧ Rx s.p ∧ 1 ≤ s.p.nodes.length) (fun s s' hs hf => by
  obtain ⟨x1,x2,x3,_⟩ := check_rx hs.1 hs.2.1 hf
  exact ⟨x1,x2,by rw [x3]; exact hs.2.2⟩) ⟨e1,e2,e4⟩ h7
 obtain ⟨g1,g2,_,_⟩ := take_ws f1 h8
 split at hr
 ·cases hr
 ·rename_i hn
  cases hr
  rw [g2] at hn ⊢
  exact f2.right f3 (by omega)
theorem parse_right {l : Bytes} (h : (parseT l).2.1 = 0) (hne : ∀ e,allS ⟨noPlan,(lexT l).1⟩ = .error e → e.1 ≠ 0) : RightP (parseT l).1 ∧ (parseT l).2.2 = 0 := by
 unfold parseT parseToks at h ⊢
 split at h
 ·rename_i hl
  rw [if_pos hl]
  cases he : allS ⟨noPlan,(lexT l).1⟩ with
  | ok s => exact ⟨all_right (s := ⟨noPlan,(lexT l).1⟩) (lexT_words l) rfl he,rfl⟩
  | error e =>
   rw [he] at h
   exact absurd h (hne e he)
 ·rename_i hl
  exact absurd h hl
end Go.Proofs.YtjhgghpeapmgdaaGreatDoor
