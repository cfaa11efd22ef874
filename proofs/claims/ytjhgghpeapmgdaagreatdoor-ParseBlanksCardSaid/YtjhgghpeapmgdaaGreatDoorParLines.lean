/-
  PARSE, PLAIN: what the parser makes of a network's own lines: that very network. No program here.
-/
import Derived.Test.YtjhgghpeapmgdaaGreatDoorMg5
namespace Go.Bk
open Go

theorem idxI_neg {α : Type} {f : α → Bool} {l : List α} (h : ∀ x ∈ l,f x = false) : idxI f l < 0 := by
 have := idxI_any f l
 rw [List.any_eq_false.2 (fun x hx => by rw [h x hx]; simp)] at this
 simpa using this
theorem idxI_at {α : Type} {f : α → Bool} {l : List α} (d : α) {k : Nat} (hk : k < l.length) (h : f (l.getD k d) = true) (hn : ∀ j,j < l.length → f (l.getD j d) = true → j = k) : idxI f l = ((k : Nat) : Int) :=
 idxI_hit d hk (fun j hj => by
  cases hb : f (l.getD j d) with
  | false => rfl
  | true => have := hn j (by omega) hb; omega) h
section
variable {q p : PPlan} {r : List Tok} {a : Nat}
theorem protocolS_line (hR : RightP p) : protocolS ⟨noPlan,lineToks a (protoW p) ++ r⟩ = .ok ⟨⟨p.proto,p.cap,0,[],[],[],[]⟩,r⟩ := by
 have hc := cap_is hR
 unfold protoW protocolS
 by_cases h : p.proto = 2
 ·simp only [if_pos h,lineToks,List.cons_append,List.nil_append,wt_kw k_protocol,wt_kw k_path,wordS_hit,andE_ok,isS_hit,if_true]
  rw [wt_num (by omega) (by omega),numberS_hit,if_neg (by omega)]
  simp only [andE_ok,stopS_hit,noPlan,h]
 ·have e : isS wdPath ⟨noPlan,wt wdVector (a + wdProtocol.length + 1) :: stopT (a + wdProtocol.length + 1 + wdVector.length) :: r⟩ = false := by
   rw [wt_kw k_vector]; exact isS_other (by decide)
  simp only [if_neg h,lineToks,List.cons_append,List.nil_append,wt_kw k_protocol,wordS_hit,andE_ok]
  rw [e]
  simp only [Bool.false_eq_true,if_false,wt_kw k_vector,wordS_hit,andE_ok,stopS_hit,noPlan]
  have h1 : p.proto = 1 := by omega
  have h2 : p.cap = 0 := by omega
  rw [h1,h2]
theorem failuresS_line {k : Int} (h0 : 0 ≤ k) (h1 : k ≤ 4) : failuresS ⟨q,lineToks a [wdFailures,Lib.itoa k] ++ r⟩ = .ok (⟨2,Lib.itoa k,k,((a + 9 : Nat) : Int)⟩,⟨{ q with k := k },r⟩) := by
 unfold failuresS
 simp only [lineToks,List.cons_append,List.nil_append,wt_kw k_failures,wordS_hit,andE_ok]
 rw [wt_num h0 (by omega),numberS_hit,if_neg (by omega)]
 simp only [andE_ok,stopS_hit]
 rfl
theorem nodeS_line {x : PNode} (h1 : q.nodes.length < 12) (h2 : nameB x.name = true) (h3 : nodeIx q x.name < 0) (h4 : destIx q x.name < 0) (h5 : 1 ≤ x.asn ∧ x.asn ≤ 65535) : nodeS ⟨q,lineToks a (nodeW x) ++ r⟩ = .ok ⟨addNode q x,r⟩ := by
 unfold nodeS nodeW
 simp only [lineToks,List.cons_append,List.nil_append,wt_kw k_node]
 rw [headS_hit,if_neg (by omega)]
 simp only [andE_ok,wt_name h2]
 rw [freshS_hit,if_neg (by rw [name_kw h2]; simp only [Bool.false_eq_true,false_or]; omega)]
 simp only [andE_ok]
 rw [wt_num (by omega) h5.2,numberS_hit,if_neg (by omega)]
 simp only [andE_ok,stopS_hit]
theorem linkS_line {x : PLink} {na nb : Bytes} (h1 : q.links.length < 16) (ha : nameB na = true) (hb : nameB nb = true) (ia : nodeIx q na = x.a) (ib : nodeIx q nb = x.b) (h0 : 0 ≤ x.a) (hab : x.a < x.b) (hn : hasLink q x.a x.b = false) (h5 : 1 ≤ x.cost ∧ x.cost ≤ 15) :
  linkS ⟨q,lineToks a [wdLink,na,nb,Lib.itoa x.cost] ++ r⟩ = .ok ⟨addLink q x,r⟩ := by
 unfold linkS
 simp only [lineToks,List.cons_append,List.nil_append,wt_kw k_link]
 rw [headS_hit,if_neg (by omega)]
 simp only [andE_ok,wt_name ha,wt_name hb]
 rw [knownS_hit,if_neg (by rw [ia]; omega)]
 simp only [andE_ok]
 rw [knownS_hit,if_neg (by rw [ib]; omega)]
 simp only [andE_ok,ia,ib,show min x.a x.b = x.a by omega,show max x.a x.b = x.b by omega,hn]
 rw [if_neg (by simp only [Bool.false_eq_true,or_false]; omega)]
 rw [wt_num (by omega) (by omega),numberS_hit,if_neg (by omega)]
 simp only [andE_ok,stopS_hit]
theorem originsS_line : ∀ (ns : List Bytes) (is o : List Int) (a : Nat),ns.length = is.length → (∀ i,i < ns.length → nameB (ns.getD i []) = true ∧ nodeIx q (ns.getD i []) = is.getD i 0 ∧ 0 ≤ is.getD i 0) → (o ++ is).Nodup → (o ≠ [] ∨ ns ≠ []) →
  originsS (o,⟨q,(match ns with | [] => [stopT a] | _ => lineToks a ns) ++ r⟩) = .ok (o ++ is,⟨q,stopT (match ns with | [] => a | _ => a + (joinW ns).length) :: r⟩)
 | [],is,o,a,hl,_,_,ho => by
  have hi : is = [] := List.length_eq_zero_iff.1 (by simpa using hl.symm)
  subst hi
  have ho : o ≠ [] := ho.resolve_right (by simp)
  rw [originsS_step,if_neg,List.append_nil]
  ·rfl
  ·have : (stopT a :: r).getD 0 d0T = stopT a := rfl
   simp only [origC,PSt.hd,List.singleton_append,this,Bool.or_eq_true,decide_eq_true_eq,List.length_eq_zero_iff]
   simp [ho,stopT]
 | n :: ns,is,o,a,hl,hns,hnd,_ => by
  cases is with
  | nil => simp at hl
  | cons i is =>
   have h0 := hns 0 (by simp)
   simp only [List.getD_cons_zero] at h0
   have h02 := h0.2.2
   have htail : ∃ rest,(lineToks a (n :: ns) : List Tok) = wt n a :: rest ∧ rest = (match ns with | [] => [stopT (a + n.length)] | _ => lineToks (a + n.length + 1) ns) := by
    cases ns with
    | nil => exact ⟨_,rfl,rfl⟩
    | cons v ns => exact ⟨_,rfl,rfl⟩
   obtain ⟨rest,e1,e2⟩ := htail
   simp only [e1,List.cons_append,wt_name h0.1]
   rw [originsS_step,if_pos]
   ·have hk : origS (o,⟨q,⟨1,n,0,((a : Nat) : Int)⟩ :: (rest ++ r)⟩) = .ok (o ++ [i],⟨q,rest ++ r⟩) := by
     unfold origS
     simp only
     rw [knownS_hit,if_neg (by rw [h0.2.1]; omega)]
     simp only [andE_ok,h0.2.1]
     rw [if_neg]
     rw [decide_eq_true_eq]
     intro hm
     rw [List.nodup_append] at hnd
     exact hnd.2.2 i hm i (by simp) rfl
    rw [hk,andE_ok,e2]
    cases ns with
    | nil =>
     have hi : is = [] := List.length_eq_zero_iff.1 (by simpa using hl.symm)
     subst hi
     have := originsS_line [] [] (o ++ [i]) (a + n.length) rfl (fun j hj => by simp at hj) (by simpa using hnd) (.inl (by simp))
     simpa [joinW] using this
    | cons v ns =>
     have := originsS_line (v :: ns) is (o ++ [i]) (a + n.length + 1) (by simpa using hl) (fun j hj => by
      have := hns (j + 1) (by simpa using hj)
      simpa using this) (by simpa using hnd) (.inl (by simp))
     have el : a + n.length + 1 + (joinW (v :: ns)).length = a + (joinW (n :: v :: ns)).length := by
      rw [show joinW (n :: v :: ns) = n ++ 32 :: joinW (v :: ns) from rfl,List.length_append,List.length_cons]; omega
     simp only at this
     rw [this,el,List.append_assoc,List.singleton_append]
   ·simp only [origC,PSt.hd,List.getD_cons_zero,Bool.or_eq_true]
    right
    simp
theorem destS_line {x : PDest} {ns : List Bytes} (h1 : q.dests.length < 4) (h2 : nameB x.name = true) (h3 : nodeIx q x.name < 0) (h4 : destIx q x.name < 0) (hl : ns.length = x.origins.length) (hns : ∀ i,i < ns.length → nameB (ns.getD i []) = true ∧ nodeIx q (ns.getD i []) = x.origins.getD i 0 ∧ 0 ≤ x.origins.getD i 0)
  (hnd : x.origins.Nodup) (hs : x.origins.Pairwise (· ≤ ·)) (hne : ns ≠ []) : destS ⟨q,lineToks a ([wdDest,x.name,wdAt] ++ ns) ++ r⟩ = .ok ⟨addDest q x,r⟩ := by
 obtain ⟨n,ms,rfl⟩ : ∃ n ms,ns = n :: ms := by
  cases ns with
  | nil => exact absurd rfl hne
  | cons n ms => exact ⟨n,ms,rfl⟩
 unfold destS
 simp only [lineToks,List.cons_append,List.nil_append,wt_kw k_dest]
 rw [headS_hit,if_neg (by omega)]
 simp only [andE_ok,wt_name h2]
 rw [freshS_hit,if_neg (by rw [name_kw h2]; simp only [Bool.false_eq_true,false_or]; omega)]
 simp only [andE_ok,wt_kw k_at]
 rw [wordS_hit]
 simp only [andE_ok]
 have := originsS_line (q := q) (r := r) (n :: ms) x.origins [] (a + wdDest.length + 1 + x.name.length + 1 + wdAt.length + 1) hl hns (by simpa using hnd) (.inr (by simp))
 simp only at this
 rw [this]
 simp only [andE_ok,stopS_hit,List.nil_append,sortI_self hs]
theorem kind_reach : kindIx wdReach = 1 := by decide
theorem kind_within : kindIx wdWithin = 2 := by decide
theorem kind_waypoint : kindIx wdWaypoint = 3 := by decide
theorem kind_equal : kindIx wdEqual = 4 := by decide
theorem aNodeS_hit {n : Bytes} {i a : Int} (h : nodeIx q n = i) (h0 : 0 ≤ i) : aNodeS ⟨q,⟨1,n,0,a⟩ :: r⟩ = .ok (i,⟨q,r⟩) := by
 unfold aNodeS
 rw [knownS_hit,if_neg (by omega)]
 simp only [andE_ok,h]
theorem aDestS_hit {n : Bytes} {i a : Int} (h : destIx q n = i) (h0 : 0 ≤ i) : aDestS ⟨q,⟨1,n,0,a⟩ :: r⟩ = .ok (i,⟨q,r⟩) := by
 unfold aDestS
 rw [knownS_hit,if_neg (by omega)]
 simp only [andE_ok,h]
theorem checkS_line {c : PCheck} {n d o : Bytes} (h1 : q.checks.length < 16) (hn : nameB n = true) (hd : nameB d = true) (ho : nameB o = true) (in_ : nodeIx q n = c.node) (id_ : destIx q d = c.dest) (io : nodeIx q o = c.other) (n0 : 0 ≤ c.node) (d0 : 0 ≤ c.dest) (o0 : 0 ≤ c.other)
  (hl : 0 ≤ c.limit ∧ c.limit ≤ 65535) (hk : 1 ≤ c.kind ∧ c.kind ≤ 4) (hlz : c.kind ≠ 2 → c.limit = 0) (hoz : c.kind ≠ 3 → c.kind ≠ 4 → c.other = 0) :
  checkS ⟨q,lineToks a (if c.kind = 1 then [wdCheck,wdReach,n,d] else if c.kind = 2 then [wdCheck,wdWithin,n,d,Lib.itoa c.limit] else if c.kind = 3 then [wdCheck,wdWaypoint,n,d,o] else [wdCheck,wdEqual,n,o,d]) ++ r⟩ = .ok ⟨addCheck q c,r⟩ := by
 have ec : c = ⟨c.kind,c.node,c.dest,c.limit,c.other⟩ := rfl
 unfold checkS
 rcases (show c.kind = 1 ∨ c.kind = 2 ∨ c.kind = 3 ∨ c.kind = 4 by omega) with h | h | h | h
 ·have e1 := hlz (by omega); have e2 := hoz (by omega) (by omega)
  simp only [h,if_true,lineToks,List.cons_append,List.nil_append,wt_kw k_check,wt_kw k_reach,wt_name hn,wt_name hd]
  rw [headS_hit,if_neg (by omega),andE_ok,kindS_hit,if_neg (by decide),andE_ok]
  simp only [kind_reach,aNodeS_hit in_ n0,andE_ok,otherS,show ¬ ((1 : Int) = 4) by decide,if_false,aDestS_hit id_ d0,restS,show ¬ ((1 : Int) = 2) by decide,show ¬ ((1 : Int) = 3) by decide,stopS_hit]
  rw [ec,h,e1,e2]
 ·have e2 := hoz (by omega) (by omega)
  simp only [h,if_neg (show ¬ ((2 : Int) = 1) by decide),if_true,lineToks,List.cons_append,List.nil_append,wt_kw k_check,wt_kw k_within,wt_name hn,wt_name hd]
  rw [headS_hit,if_neg (by omega),andE_ok,kindS_hit,if_neg (by decide),andE_ok]
  simp only [kind_within,aNodeS_hit in_ n0,andE_ok,otherS,show ¬ ((2 : Int) = 4) by decide,if_false,aDestS_hit id_ d0,restS,if_true]
  rw [wt_num hl.1 hl.2,numberS_hit,if_neg (by omega)]
  simp only [andE_ok,stopS_hit]
  rw [ec,h,e2]
 ·have e1 := hlz (by omega)
  simp only [h,if_neg (show ¬ ((3 : Int) = 1) by decide),if_neg (show ¬ ((3 : Int) = 2) by decide),if_true,lineToks,List.cons_append,List.nil_append,wt_kw k_check,wt_kw k_waypoint,wt_name hn,wt_name hd,wt_name ho]
  rw [headS_hit,if_neg (by omega),andE_ok,kindS_hit,if_neg (by decide),andE_ok]
  simp only [kind_waypoint,aNodeS_hit in_ n0,andE_ok,otherS,show ¬ ((3 : Int) = 4) by decide,if_false,aDestS_hit id_ d0,restS,show ¬ ((3 : Int) = 2) by decide,if_true,aNodeS_hit io o0,stopS_hit]
  rw [ec,h,e1]
 ·have e1 := hlz (by omega)
  simp only [h,if_neg (show ¬ ((4 : Int) = 1) by decide),if_neg (show ¬ ((4 : Int) = 2) by decide),if_neg (show ¬ ((4 : Int) = 3) by decide),lineToks,List.cons_append,List.nil_append,wt_kw k_check,wt_kw k_equal,wt_name hn,wt_name hd,wt_name ho]
  rw [headS_hit,if_neg (by omega),andE_ok,kindS_hit,if_neg (by decide),andE_ok]
  simp only [kind_equal,aNodeS_hit in_ n0,andE_ok,otherS,if_true,aNodeS_hit io o0,aDestS_hit id_ d0,restS,show ¬ ((4 : Int) = 2) by decide,show ¬ ((4 : Int) = 3) by decide,if_false,stopS_hit]
  rw [ec,h,e1]
end
theorem manyS_lines {α : Type} {wd : Bytes} {f : PSt → PE PSt} (hf : ∀ s s' : PSt,f s = .ok s' → s'.ts.length < s.ts.length) (enc : α → List Bytes) (add : PPlan → α → PPlan) (Ok : PPlan → List α → Prop)
  (hstep : ∀ q x xs a r,Ok q (x :: xs) → f ⟨q,lineToks a (enc x) ++ r⟩ = .ok ⟨add q x,r⟩ ∧ Ok (add q x) xs) (hwd : ∀ q x a r,isS wd ⟨q,lineToks a (enc x) ++ r⟩ = true) :
  ∀ (xs : List α) (q : PPlan) (a : Nat) (r : List Tok),Ok q xs → manyS wd f ⟨q,linesToks a (xs.map enc) ++ r⟩ = manyS wd f ⟨xs.foldl add q,r⟩
 | [],q,a,r,_ => by simp [linesToks]
 | x :: xs,q,a,r,h => by
  obtain ⟨h1,h2⟩ := hstep q x xs a (linesToks (a + (lineW (enc x)).length) (xs.map enc) ++ r) h
  rw [List.map_cons,linesToks,List.append_assoc,manyS_step hf,if_pos (hwd _ _ _ _),h1,andE_ok,manyS_lines hf enc add Ok hstep hwd xs _ _ _ h2]
  rfl
def NotAt (wd : Bytes) (ts : List Tok) : Prop := ∀ q,isS wd ⟨q,ts⟩ = false
theorem manyS_stop {wd : Bytes} {f : PSt → PE PSt} (hf : ∀ s s' : PSt,f s = .ok s' → s'.ts.length < s.ts.length) {q : PPlan} {ts : List Tok} (h : NotAt wd ts) : manyS wd f ⟨q,ts⟩ = .ok ⟨q,ts⟩ := by
 rw [manyS_step hf,if_neg (by rw [h q]; simp)]
theorem NotAt.end {wd : Bytes} (a : Nat) (r : List Tok) : NotAt wd (endT a :: r) := fun _ => isS_kind (by simp [endT])
theorem lineToks_head (v : Bytes) (l : List Bytes) (a : Nat) (r : List Tok) : ∃ r',lineToks a (v :: l) ++ r = wt v a :: r' := by
 cases l with
 | nil => exact ⟨_,rfl⟩
 | cons u l => exact ⟨_,rfl⟩
theorem isS_line {wd : Bytes} (h : kwB wd = true) (q : PPlan) (l : List Bytes) (a : Nat) (r : List Tok) : isS wd ⟨q,lineToks a (wd :: l) ++ r⟩ = true := by
 obtain ⟨r',e⟩ := lineToks_head wd l a r
 rw [e,wt_kw h]; exact isS_hit
theorem NotAt.line {wd v : Bytes} (h : kwB v = true) (hne : v ≠ wd) (l : List Bytes) (a : Nat) (r : List Tok) : NotAt wd (lineToks a (v :: l) ++ r) := by
 intro q
 obtain ⟨r',e⟩ := lineToks_head v l a r
 rw [e,wt_kw h]; exact isS_other hne
theorem NotAt.lines {wd v : Bytes} (h : kwB v = true) (hne : v ≠ wd) {ls : List (List Bytes)} (hl : ∀ l ∈ ls,∃ l',l = v :: l') (a : Nat) {r : List Tok} (hr : NotAt wd r) : NotAt wd (linesToks a ls ++ r) := by
 cases ls with
 | nil => exact hr
 | cons l ls =>
  obtain ⟨l',rfl⟩ := hl l (by simp)
  rw [linesToks,List.append_assoc]
  exact NotAt.line h hne l' a _
theorem foldl_node : ∀ (xs : List PNode) (q : PPlan),xs.foldl addNode q = { q with nodes := q.nodes ++ xs }
 | [],q => by simp
 | x :: xs,q => by rw [List.foldl_cons,foldl_node xs]; simp [addNode]
theorem foldl_link : ∀ (xs : List PLink) (q : PPlan),xs.foldl addLink q = { q with links := q.links ++ xs }
 | [],q => by simp
 | x :: xs,q => by rw [List.foldl_cons,foldl_link xs]; simp [addLink]
theorem foldl_dest : ∀ (xs : List PDest) (q : PPlan),xs.foldl addDest q = { q with dests := q.dests ++ xs }
 | [],q => by simp
 | x :: xs,q => by rw [List.foldl_cons,foldl_dest xs]; simp [addDest]
theorem foldl_check : ∀ (xs : List PCheck) (q : PPlan),xs.foldl addCheck q = { q with checks := q.checks ++ xs }
 | [],q => by simp
 | x :: xs,q => by rw [List.foldl_cons,foldl_check xs]; simp [addCheck]
structure NodesOk (q : PPlan) (xs : List PNode) : Prop where
 len : q.nodes.length + xs.length ≤ 12
 none : q.dests = []
 name : ∀ x ∈ xs,nameB x.name = true
 nd : ((q.nodes ++ xs).map (·.name)).Nodup
 asn : ∀ x ∈ xs,1 ≤ x.asn ∧ x.asn ≤ 65535
theorem nodes_step (q : PPlan) (x : PNode) (xs : List PNode) (a : Nat) (r : List Tok) (h : NodesOk q (x :: xs)) : nodeS ⟨q,lineToks a (nodeW x) ++ r⟩ = .ok ⟨addNode q x,r⟩ ∧ NodesOk (addNode q x) xs := by
 have hl := h.len
 simp only [List.length_cons] at hl
 refine ⟨nodeS_line (by omega) (h.name x (by simp)) (idxI_neg fun y hy => ?_) (idxI_neg fun y hy => absurd (h.none ▸ hy : y ∈ ([] : List PDest)) (by simp)) (h.asn x (by simp)),?_⟩
 ·have := h.nd
  rw [List.map_append,List.nodup_append] at this
  exact decide_eq_false (this.2.2 _ (List.mem_map_of_mem hy) _ (by simp))
 ·refine ⟨by simp only [addNode,List.length_append,List.length_singleton]; omega,h.none,fun y hy => h.name y (by simp [hy]),?_,fun y hy => h.asn y (by simp [hy])⟩
  have := h.nd
  simpa [addNode] using this
theorem node_place {p : PPlan} (hR : RightP p) {q : PPlan} (hq : q.nodes = p.nodes) {i : Int} (h0 : 0 ≤ i) (h1 : i < p.nodes.length) : nodeIx q (nmN p i) = i := by
 have hn := hR.nnd
 unfold namesL at hn
 rw [List.nodup_append] at hn
 have := idxI_at (f := fun y : PNode => decide (y.name = nmN p i)) (l := p.nodes) d0N (k := i.toNat) (by omega) (decide_eq_true rfl) (fun j hj he => by
  have he := of_decide_eq_true he
  have h2 := (List.getElem_inj (i := j) (j := i.toNat) (h₀ := by simpa using hj) (h₁ := by simp; omega) hn.1).1
  refine h2 ?_
  simp only [List.getElem_map]
  unfold nmN at he
  rw [List.getD_eq_getElem?_getD,List.getD_eq_getElem?_getD,List.getElem?_eq_getElem hj,List.getElem?_eq_getElem (show i.toNat < p.nodes.length by omega)] at he
  exact he)
 unfold nodeIx
 rw [hq,this]
 omega
theorem dest_place {p : PPlan} (hR : RightP p) {q : PPlan} (hq : q.dests = p.dests) {i : Int} (h0 : 0 ≤ i) (h1 : i < p.dests.length) : destIx q (nmD p i) = i := by
 have hn := hR.nnd
 unfold namesL at hn
 rw [List.nodup_append] at hn
 have := idxI_at (f := fun y : PDest => decide (y.name = nmD p i)) (l := p.dests) d0D (k := i.toNat) (by omega) (decide_eq_true rfl) (fun j hj he => by
  have he := of_decide_eq_true he
  have h2 := (List.getElem_inj (i := j) (j := i.toNat) (h₀ := by simpa using hj) (h₁ := by simp; omega) hn.2.1).1
  refine h2 ?_
  simp only [List.getElem_map]
  unfold nmD at he
  rw [List.getD_eq_getElem?_getD,List.getD_eq_getElem?_getD,List.getElem?_eq_getElem hj,List.getElem?_eq_getElem (show i.toNat < p.dests.length by omega)] at he
  exact he)
 unfold destIx
 rw [hq,this]
 omega
structure LinksOkP (p q : PPlan) (xs : List PLink) : Prop where
 nodes : q.nodes = p.nodes
 len : q.links.length + xs.length ≤ 16
 ok : ∀ x ∈ xs,0 ≤ x.a ∧ x.a < x.b ∧ x.b < p.nodes.length ∧ 1 ≤ x.cost ∧ x.cost ≤ 15
 nd : (linkKeys (q.links ++ xs)).Nodup
theorem links_step {p : PPlan} (hR : RightP p) (q : PPlan) (x : PLink) (xs : List PLink) (a : Nat) (r : List Tok) (h : LinksOkP p q (x :: xs)) : linkS ⟨q,lineToks a (linkW p x) ++ r⟩ = .ok ⟨addLink q x,r⟩ ∧ LinksOkP p (addLink q x) xs := by
 have hl := h.len
 simp only [List.length_cons] at hl
 have hx := h.ok x (by simp)
 refine ⟨linkS_line (by omega) (nmN_name hR hx.1 (by omega)) (nmN_name hR (by omega) hx.2.2.1) (node_place hR h.nodes hx.1 (by omega)) (node_place hR h.nodes (by omega) hx.2.2.1) hx.1 hx.2.1 ?_ hx.2.2.2,?_⟩
 ·unfold hasLink
  rw [List.any_eq_false]
  intro y hy
  have := h.nd
  unfold linkKeys at this
  rw [List.map_append,List.nodup_append] at this
  have hne := this.2.2 _ (List.mem_map_of_mem hy) (x.a,x.b) (by simp)
  simp only [ne_eq,Prod.mk.injEq,not_and] at hne
  simp only [Bool.and_eq_true,decide_eq_true_eq,not_and]
  exact fun e1 e2 => hne e1.symm e2.symm
 ·refine ⟨h.nodes,by simp only [addLink,List.length_append,List.length_singleton]; omega,fun y hy => h.ok y (by simp [hy]),?_⟩
  have := h.nd
  simpa [addLink] using this
structure DestsOk (p q : PPlan) (xs : List PDest) : Prop where
 nodes : q.nodes = p.nodes
 len : q.dests.length + xs.length ≤ 4
 ok : ∀ x ∈ xs,x ∈ p.dests
 nd : ((q.nodes.map (·.name)) ++ ((q.dests ++ xs).map (·.name))).Nodup
theorem orig_sorted {l : List Int} {m : Int} (h : OrigOk l m l.length) : l.Pairwise (· < ·) := by
 rw [List.pairwise_iff_getElem]
 intro i j hi hj hij
 have key : ∀ n,n < l.length → ∀ k,k < n → l.getD k 0 < l.getD n 0 := by
  intro n
  induction n with
  | zero => intro _ k hk; omega
  | succ n ih =>
   intro hn k hk
   have h1 := (h (n + 1) hn).2 (by omega)
   rw [Nat.add_sub_cancel] at h1
   by_cases e : k = n
   ·subst e; exact h1
   ·exact Int.lt_trans (ih (by omega) k (by omega)) h1
 have := key j hj i hij
 rwa [List.getD_eq_getElem?_getD,List.getD_eq_getElem?_getD,List.getElem?_eq_getElem hi,List.getElem?_eq_getElem hj] at this
theorem dests_step {p : PPlan} (hR : RightP p) (q : PPlan) (x : PDest) (xs : List PDest) (a : Nat) (r : List Tok) (h : DestsOk p q (x :: xs)) : destS ⟨q,lineToks a (destW p x) ++ r⟩ = .ok ⟨addDest q x,r⟩ ∧ DestsOk p (addDest q x) xs := by
 have hl := h.len
 simp only [List.length_cons] at hl
 have hx := h.ok x (by simp)
 have ho := (hR.dest x hx).1
 have hs := orig_sorted ho
 have hnd := h.nd
 rw [List.nodup_append] at hnd
 refine ⟨destS_line (by omega) (name_dest hR hx) (idxI_neg fun y hy => decide_eq_false (hnd.2.2 _ (List.mem_map_of_mem hy) _ (by simp))) (idxI_neg fun y hy => ?_) (by simp) (fun i hi => ?_) (hs.imp fun h => by omega) (hs.imp fun h => by omega) (fun e => ?_),?_⟩
 ·have h2 := hnd.2.1
  rw [List.map_append,List.nodup_append] at h2
  exact decide_eq_false (h2.2.2 _ (List.mem_map_of_mem hy) _ (by simp))
 ·have hi' : i < x.origins.length := by simpa using hi
  have hio := orig_in hR hx (x.origins.getD i 0) (getD_mem' 0 hi')
  have e : (x.origins.map (nmN p)).getD i [] = nmN p (x.origins.getD i 0) := by
   rw [List.getD_eq_getElem?_getD,List.getElem?_map,List.getD_eq_getElem?_getD,List.getElem?_eq_getElem hi']; rfl
  rw [e]
  exact ⟨nmN_name hR hio.1 hio.2,node_place hR h.nodes hio.1 hio.2,hio.1⟩
 ·have := (hR.dest x hx).2
  rw [List.map_eq_nil_iff] at e
  rw [e] at this
  simp at this
 ·refine ⟨h.nodes,by simp only [addDest,List.length_append,List.length_singleton]; omega,fun y hy => h.ok y (by simp [hy]),?_⟩
  have := h.nd
  simpa [addDest] using this
structure ChecksOk (p q : PPlan) (xs : List PCheck) : Prop where
 nodes : q.nodes = p.nodes
 dests : q.dests = p.dests
 len : q.checks.length + xs.length ≤ 16
 ok : ∀ x ∈ xs,x ∈ p.checks
theorem checks_step {p : PPlan} (hR : RightP p) (q : PPlan) (c : PCheck) (xs : List PCheck) (a : Nat) (r : List Tok) (h : ChecksOk p q (c :: xs)) : checkS ⟨q,lineToks a (checkW p c) ++ r⟩ = .ok ⟨addCheck q c,r⟩ ∧ ChecksOk p (addCheck q c) xs := by
 have hl := h.len
 simp only [List.length_cons] at hl
 have hcb := hR.check c (h.ok c (by simp))
 have h0 := hR.n0
 obtain ⟨b1,b2,b3,b4,b5,b6⟩ := checkN_bounds (n := p.nodes.length) (d := p.dests.length) (by omega) hcb
 have hz : (c.kind ≠ 2 → c.limit = 0) ∧ (c.kind ≠ 3 → c.kind ≠ 4 → c.other = 0) := by
  unfold checkB checkN at hcb
  split at hcb
  ·have := checkR_iff.1 hcb; omega
  ·split at hcb
   ·have := checkR_iff.1 hcb; omega
   ·split at hcb
    ·have := checkR_iff.1 hcb; omega
    ·cases hcb
 refine ⟨?_,h.nodes,h.dests,by simp only [addCheck,List.length_append,List.length_singleton]; omega,fun y hy => h.ok y (by simp [hy])⟩
 exact checkS_line (by omega) (nmN_name hR b1.1 b1.2) (nmD_name hR b2.1 b2.2) (nmN_name hR b4.1 b4.2) (node_place hR h.nodes b1.1 b1.2) (dest_place hR h.dests b2.1 b2.2) (node_place hR h.nodes b4.1 b4.2) b1.1 b2.1 b4.1 b3 ⟨b5,b6⟩ hz.1 hz.2
def endS (at' : Int) (s : PSt) : PE PSt := andE (takeS 4 s) fun r => if (r.2.p.links.length : Int) < r.2.p.k then .error (42,at') else .ok r.2
def checksE (at' : Int) (s : PSt) : PE PSt := andE (manyS wdCheck checkS s) (endS at')
def destsE (at' : Int) (s : PSt) : PE PSt := andE (manyS wdDest destS s) (checksE at')
def linksE (at' : Int) (s : PSt) : PE PSt := andE (manyS wdLink linkS s) (destsE at')
def nodesE (at' : Int) (s : PSt) : PE PSt := andE (manyS wdNode nodeS s) (linksE at')
theorem allS_eq (s : PSt) : allS s = andE (protocolS s) fun s => andE (failuresS s) fun k => andE (nodeS k.2) (nodesE k.1.at') := rfl
def P1 (p : PPlan) : PPlan := ⟨p.proto,p.cap,p.k,p.nodes,[],[],[]⟩
def P2 (p : PPlan) : PPlan := ⟨p.proto,p.cap,p.k,p.nodes,p.links,[],[]⟩
def P3 (p : PPlan) : PPlan := ⟨p.proto,p.cap,p.k,p.nodes,p.links,p.dests,[]⟩
def lines1 (p : PPlan) : List (List Bytes) := protoW p :: [wdFailures,Lib.itoa p.k] :: p.nodes.map nodeW
def kAt4 (p : PPlan) : Int := (((lineW (protoW p)).length + 9 : Nat) : Int)
theorem allS_1 {p : PPlan} (hR : RightP p) (T : List Tok) : allS ⟨noPlan,linesToks 0 (lines1 p) ++ T⟩ = nodesE (kAt4 p) ⟨P1 p,T⟩ := by
 have h1 := hR.n1
 have h0 := hR.n0
 obtain ⟨x,xs,hx⟩ : ∃ x xs,p.nodes = x :: xs := by
  cases hn : p.nodes with
  | nil => rw [hn] at h0; simp at h0
  | cons x xs => exact ⟨x,xs,rfl⟩
 have hnd := hR.nnd
 unfold namesL at hnd
 rw [List.nodup_append] at hnd
 have hok : NodesOk ⟨p.proto,p.cap,p.k,[],[],[],[]⟩ (x :: xs) := ⟨by rw [← hx]; simpa using h1,rfl,fun y hy => name_node hR (by rw [hx]; exact hy),by rw [← hx]; simpa using hnd.1,fun y hy => hR.asn y (by rw [hx]; exact hy)⟩
 rw [allS_eq]
 unfold lines1
 rw [linesToks,linesToks,List.append_assoc,List.append_assoc,protocolS_line hR,andE_ok,failuresS_line hR.k0 hR.k1,andE_ok,hx,List.map_cons,linesToks,List.append_assoc]
 obtain ⟨s1,s2⟩ := nodes_step _ x xs (0 + (lineW (protoW p)).length + (lineW [wdFailures,Lib.itoa p.k]).length) (linesToks (0 + (lineW (protoW p)).length + (lineW [wdFailures,Lib.itoa p.k]).length + (lineW (nodeW x)).length) (xs.map nodeW) ++ T) hok
 rw [s1,andE_ok]
 unfold nodesE
 rw [manyS_lines nodeS_lt nodeW addNode NodesOk nodes_step (fun q x a r => isS_line k_node q _ a r) xs _ _ _ s2,foldl_node]
 simp only [addNode,P1,hx,List.nil_append,List.singleton_append,kAt4,Nat.zero_add]
theorem destsE_lines {p : PPlan} (hR : RightP p) (at' : Int) (a : Nat) (T : List Tok) : destsE at' ⟨P2 p,linesToks a (p.dests.map (destW p)) ++ T⟩ = destsE at' ⟨P3 p,T⟩ := by
 unfold destsE
 rw [manyS_lines destS_lt (destW p) addDest (DestsOk p) (dests_step hR) (fun q x a r => isS_line k_dest q _ a r) p.dests (P2 p) a T ⟨rfl,by simpa [P2] using hR.d1,fun x hx => hx,by simpa [P2,namesL] using hR.nnd⟩,foldl_dest]
 rfl
theorem checksE_lines {p : PPlan} (hR : RightP p) (at' : Int) (a : Nat) (T : List Tok) : checksE at' ⟨P3 p,linesToks a (p.checks.map (checkW p)) ++ T⟩ = checksE at' ⟨p,T⟩ := by
 unfold checksE
 rw [manyS_lines checkS_lt (checkW p) addCheck (ChecksOk p) (checks_step hR) (fun q x a r => by unfold checkW; split; exact isS_line k_check q _ a r; split; exact isS_line k_check q _ a r; split; exact isS_line k_check q _ a r; exact isS_line k_check q _ a r) p.checks (P3 p) a T ⟨rfl,rfl,by simpa [P3] using hR.c1,fun x hx => hx⟩,foldl_check]
 rfl
theorem nodesE_skip {at' : Int} {q : PPlan} {T : List Tok} (h : NotAt wdNode T) : nodesE at' ⟨q,T⟩ = linksE at' ⟨q,T⟩ := by
 unfold nodesE
 rw [manyS_stop nodeS_lt h,andE_ok]
theorem linksE_skip {at' : Int} {q : PPlan} {T : List Tok} (h : NotAt wdLink T) : linksE at' ⟨q,T⟩ = destsE at' ⟨q,T⟩ := by
 unfold linksE
 rw [manyS_stop linkS_lt h,andE_ok]
theorem destsE_skip {at' : Int} {q : PPlan} {T : List Tok} (h : NotAt wdDest T) : destsE at' ⟨q,T⟩ = checksE at' ⟨q,T⟩ := by
 unfold destsE
 rw [manyS_stop destS_lt h,andE_ok]
theorem checksE_skip {at' : Int} {q : PPlan} {T : List Tok} (h : NotAt wdCheck T) : checksE at' ⟨q,T⟩ = endS at' ⟨q,T⟩ := by
 unfold checksE
 rw [manyS_stop checkS_lt h,andE_ok]
theorem endS_end {at' : Int} {q : PPlan} (a : Nat) (h : q.k ≤ q.links.length) : endS at' ⟨q,[endT a]⟩ = .ok ⟨q,[endT a]⟩ := by
 have : takeS 4 ⟨q,[endT a]⟩ = .ok (endT a,⟨q,[endT a]⟩) := rfl
 unfold endS
 rw [this,andE_ok]
 simp only
 rw [if_neg (by omega)]
theorem dests_first (p : PPlan) : ∀ l ∈ p.dests.map (destW p),∃ l',l = wdDest :: l' := by
 intro l hl
 obtain ⟨x,_,rfl⟩ := List.mem_map.1 hl
 exact ⟨_,rfl⟩
theorem checks_first (p : PPlan) : ∀ l ∈ p.checks.map (checkW p),∃ l',l = wdCheck :: l' := by
 intro l hl
 obtain ⟨x,_,rfl⟩ := List.mem_map.1 hl
 unfold checkW
 split
 ·exact ⟨_,rfl⟩
 ·split
  ·exact ⟨_,rfl⟩
  ·split <;> exact ⟨_,rfl⟩
theorem linesW_eq (p : PPlan) : linesW p = lines1 p ++ (p.links.map (linkW p) ++ (p.dests.map (destW p) ++ p.checks.map (checkW p))) := by simp [linesW,lines1]
end Go.Bk
