/-
  PLAN: contracts of the reference's Digits, check and Print.
-/
import Derived.Test.YtcbclephakfemaaGreatRRRDoorPlanR2
import Derived.Test.YtcbclephakfemaaGreatRRRDoorLz
import Derived.Test.YtcbclephakfemaaGreatRRRDoorFns
namespace Go.Proofs.YtcbclephakfemaaGreatRRRDoor
open Go.Bk Go.Proofs

theorem nDigits_self (u : Nat) : Lib.nDigits u ≤ u + 1 := by
  induction u using Nat.strongRecOn with
  | _ u ih =>
    by_cases h : u < 10
    · rw [Lib.nDigits_small h]; omega
    · rw [Lib.nDigits_big h]
      have := ih (u / 10) (by omega)
      omega
theorem dec_short (u : Nat) : (Lib.decDigits u).length ≤ u + 1 := by rw [Lib.decDigits_length]; exact nDigits_self u

set_option maxRecDepth 20000 in
theorem digits_step (n : Nat) (w : World) (hn : n ≤ 9223372036854775807) (ih : ∀ m,m < n → ∀ w,Does Tryz.prog 22 [.int .i64 (m:Int)] w fun v w' => v = .string (bs (Lib.decDigits m)) ∧ Ext w w') :
    Does Tryz.prog 22 [iv (n:Int)] w (fun v w' => v = .string (bs (Lib.decDigits n)) ∧ Ext w w') := by
 refine startZ (c := Y22) Tryz.func22 rfl (by kernel_rfl) ?_
 show H _ 18 [] _ (kAt Y22 [] []) (stz [(0,iv (n:Int))]) w
 have hE1 : Ext w w := Ext.refl w
 refine Zs 10 [] [(0 ≤ (n:Int) ∧ 0 < (10 : Int)),I64 ((48 + (n % 10):Nat):Int),(0 ≤ ((48 + (n % 10):Nat):Int) ∧ ((48 + (n % 10):Nat):Int) ≤ 255)] (AC (by omega) (AC (i64 (by omega)) (A1 (by omega)))) ?_
 refine Z0 0 (.bslice 55 1 [(0,.int .u8 ((48 + (n % 10):Nat):Int))]) (runs_bslice (cs := [.int .u8 ((48 + (n % 10):Nat):Int)]) (e := 5) (by kernel_rfl)) ?_
 rintro _ w1 ⟨b1,rfl,hN2⟩
 have hl3 : w.heap.size ≤ b1 := by have := hE1.le; have := hN2.lo; omega
 have hE4 := hE1.trans hN2.ext
 have ho5 := hN2.own
 obtain ⟨d,hd⟩ : ∃ d : UInt8,UInt8.ofNat (48 + n % 10) = d := ⟨_,rfl⟩
 have hdn : d.toNat = 48 + n % 10 := by rw [← hd]; simp; omega
 refine Z0 0 (.conv 55 9 (.slice (some ⟨b1,0,none⟩) 1 1)) (runs_conv_bytes (l := [d]) (e := 5) (by kernel_rfl) (by kernel_rfl) (by kernel_rfl) rfl (fun j hj => by have : j = 0 := (by omega); subst this; rw [List.getD_cons_zero,hdn]; exact cell_of ho5 rfl)) ?_
 rintro _ _ ⟨rfl,rfl⟩
 refine Zq 8 ((10 : Int) ≤ (n:Int)) (fun h => ?_) (fun h => ?_)
 ·refine Zs 4 [] [(0 ≤ (n:Int) ∧ 0 < (10 : Int) ∧ (-9223372036854775808 ≤ ((n / 10:Nat):Int) ∧ ((n / 10:Nat):Int) ≤ 9223372036854775807))] (A1 (by omega)) ?_
  refine Zl 0 E22 (ih (n / 10) (by omega) w1) ?_
  rintro _ w2 ⟨rfl,hx⟩
  have hE6 := hE4.trans hx
  refine Zs 4 [] [(Lib.decDigits (n / 10)).length + ([d]).length ≤ 9223372036854775807] (A1 (by have := dec_short (n / 10); simp only [List.length_singleton]; omega)) ?_
  exact Z1 0 (sv ((Lib.decDigits (n / 10)) ++ ([d]))) (⟨by rw [Lib.decDigits.eq_1 n,dif_neg (by omega),hd],hE6⟩)
 exact Z1 6 (sv ([d])) (⟨by rw [Lib.decDigits_one (by omega),← hd,Nat.mod_eq_of_lt (by omega)],hE4⟩)

theorem digits_nat : ∀ (n : Nat) (w : World),n ≤ 9223372036854775807 → Does Tryz.prog 22 [.int .i64 (n:Int)] w fun v w' => v = .string (bs (Lib.decDigits n)) ∧ Ext w w' := by
  intro n
  induction n using Nat.strongRecOn with
  | _ n ih =>
    intro w hn
    exact digits_step n w hn (fun m hm w => ih m hm w (by omega))
theorem digits_any (n : Int) (w : World) (h0 : 0 ≤ n) (h1 : n ≤ 65535) : Does Tryz.prog 22 [.int .i64 n] w fun v w' => v = .string (bs (Lib.itoa n)) ∧ Ext w w' := by
  have h := digits_nat n.toNat w (by omega)
  rw [show (n.toNat:Int) = n by omega] at h
  rw [itoa_nat h0]
  exact h

def rchkT (p : PPlan) (c : PCheck) : Bytes :=
  if c.kind = 1 then (([99,104,101,99,107,32,114,101,97,99,104,32] ++ nmN p c.node) ++ [32]) ++ nmD p c.dest
  else if c.kind = 2 then (((([99,104,101,99,107,32,119,105,116,104,105,110,32] ++ nmN p c.node) ++ [32]) ++ nmD p c.dest) ++ [32]) ++ Lib.itoa c.limit
  else if c.kind = 3 then (((([99,104,101,99,107,32,119,97,121,112,111,105,110,116,32] ++ nmN p c.node) ++ [32]) ++ nmD p c.dest) ++ [32]) ++ nmN p c.other
  else (((([99,104,101,99,107,32,101,113,117,97,108,32] ++ nmN p c.node) ++ [32]) ++ nmN p c.other) ++ [32]) ++ nmD p c.dest
theorem rchk_line {p : PPlan} {c : PCheck} (h : 1 ≤ c.kind ∧ c.kind ≤ 4) : rchkT p c ++ [59,10] = checkL p c := by
  unfold rchkT checkL
  rcases (show c.kind = 1 ∨ c.kind = 2 ∨ c.kind = 3 ∨ c.kind = 4 by omega) with e | e | e | e <;> simp [e,lineW,joinW,wdCheck,wdReach,wdWithin,wdWaypoint,wdEqual]
theorem node_line (s : Bytes) (x : PNode) : ((((s ++ [110,111,100,101,32]) ++ x.name) ++ [32]) ++ Lib.itoa x.asn) ++ [59,10] = s ++ nodeL x := by simp [nodeL,lineW,joinW,wdNode]
theorem link_line (s : Bytes) (p : PPlan) (x : PLink) : ((((((s ++ [108,105,110,107,32]) ++ nmN p x.a) ++ [32]) ++ nmN p x.b) ++ [32]) ++ Lib.itoa x.cost) ++ [59,10] = s ++ linkL p x := by simp [linkL,lineW,joinW,wdLink]
theorem join_app : ∀ (ws : List Bytes) (w v : Bytes),joinW (w :: ws) ++ 32 :: v = joinW ((w :: ws) ++ [v])
  | [],w,v => by simp [joinW]
  | u :: r,w,v => by
    have := join_app r u v
    rw [joinW,List.append_assoc,List.cons_append,this]
    · rfl
    · intro h; cases h
def destP (p : PPlan) (d : PDest) (k : Nat) : Bytes := joinW ([wdDest,d.name,wdAt] ++ (d.origins.take k).map (nmN p))
theorem destP_zero (s : Bytes) (p : PPlan) (d : PDest) : ((s ++ [100,101,115,116,32]) ++ d.name) ++ [32,97,116] = s ++ destP p d 0 := by simp [destP,joinW,wdDest,wdAt]
theorem destP_step (s : Bytes) (p : PPlan) (d : PDest) {k : Nat} (h : k < d.origins.length) : ((s ++ destP p d k) ++ [32]) ++ nmN p (d.origins.getD k 0) = s ++ destP p d (k + 1) := by
  have := join_app ([d.name,wdAt] ++ (d.origins.take k).map (nmN p)) wdDest (nmN p (d.origins.getD k 0))
  unfold destP
  rw [take_succ_getD' 0 h,List.map_append]
  simp only [List.cons_append,List.nil_append,List.append_assoc,List.map_cons,List.map_nil] at this ⊢
  rw [this]
theorem destP_end (s : Bytes) (p : PPlan) (d : PDest) : (s ++ destP p d d.origins.length) ++ [59,10] = s ++ destL p d := by
  unfold destP destL lineW
  rw [List.take_length,List.append_assoc]
theorem destP_len {p : PPlan} (hR : RightP p) {d : PDest} (hd : d ∈ p.dests) (k : Nat) : (destP p d k).length ≤ 300 := by
  have h1 := joinW_len (m := 12) ([wdDest,d.name,wdAt] ++ (d.origins.take k).map (nmN p)) (fun x hx => by
    simp only [List.mem_append,List.mem_cons,List.not_mem_nil,or_false,List.mem_map] at hx
    rcases hx with (rfl | rfl | rfl) | ⟨i,_,rfl⟩
    · decide
    · exact hR.nameD hd
    · decide
    · exact hR.nmN_len i)
  have h2 := orig_count (hR.dest d hd).1
  have h3 := hR.n1
  unfold destP
  simp only [List.length_append,List.length_cons,List.length_nil,List.length_map,List.length_take] at h1
  omega
theorem flatS {α : Type} {f : α → Bytes} (d : α) {l : List α} {k : Nat} (h : k < l.length) : (l.take (k + 1)).flatMap f = (l.take k).flatMap f ++ f (l.getD k d) := by rw [take_succ_getD' d h]; simp

set_option maxRecDepth 20000 in
set_option maxHeartbeats 1000000 in
theorem rcheck_any (p : PPlan) (q : PAd) (c : PCheck) (w : World) (hP : PlanAt w p q) (hR : RightP p) (hc : checkB p c = true) :
    Does Tryz.prog 23 [(pv p q),(vC c)] w (fun v w' => v = .string (bs (rchkT p c)) ∧ Ext w w') := by
 refine startZ (c := Y23) Tryz.func23 rfl (by kernel_rfl) ?_
 show H _ 72 [] _ (kAt Y23 [] []) (stz [(0,(pv p q)),(1,(vC c))]) w
 have hq := hP.dlen
 have hn0 := hR.n0
 have hcb := checkN_bounds (n := p.nodes.length) (d := p.dests.length) (by omega) hc
 obtain ⟨c1,c2,c3,c4,c5,c6⟩ := hcb
 have hn1 : c.node.toNat < p.nodes.length := by omega
 have hn2 : c.dest.toNat < q.ds.length := by omega
 have hn3 : c.other.toNat < p.nodes.length := by omega
 have ha := hP.nodes.addrE nodeC_len (by decide) hn1
 have hb := hP.dests.addrE destC_len (by decide) hn2
 have e1 := hR.nmN_len c.node
 have e2 := hR.nmN_len c.other
 have e3 := hR.nmD_len c.dest
 have e4 := itoa_len c3.1 c3.2
 have hdn : (q.ds.getD c.dest.toNat d0A).d.name = nmD p c.dest := by rw [hP.dget]; rfl
 have hE1 : Ext w w := Ext.refl w
 have hM2 : Hold w w.heap.size [] := Hold.nil hE1.le
 refine Zb 2 29 (pv p q) (pc p q) hE1 hM2 ?_
 intro b1 w1 hE4 hM5
 refine Zb 0 51 (vC c) [iv c.kind,iv c.node,iv c.dest,iv c.limit,iv c.other] hE4 hM5 ?_
 intro b2 w2 hE7 hM8
 refine Zh 36 [.c 1 3,.c 0 1,.p (fun _ => (0 ≤ c.node ∧ c.node < (p.nodes.length:Int))),.p (fun _ => (q.a1 : Option Addr) = some ⟨(slB q.a1),slO q.a1,none⟩),.p (fun _ => w2.cell? ⟨(slB q.a1),slO q.a1 + ((c.node).toNat) * 2,none⟩ = some (sv (nmN p c.node))),.v (sv (nmN p c.node)),.c 1 5,.c 0 2,.p (fun _ => (0 ≤ c.dest ∧ c.dest < (p.dests.length:Int))),.p (fun _ => (q.a3 : Option Addr) = some ⟨(slB q.a3),slO q.a3,none⟩),.p (fun _ => w2.cell? ⟨(slB q.a3),slO q.a3 + ((c.dest).toNat) * 2,none⟩ = some (sv (nmD p c.dest))),.v (sv (nmD p c.dest)),.c 0 0] hM8 (AC (by omega) (AC (by assumption) (AC (hE7.cell (cellAt nodeC_len d0N hP.nodes hn1 (j := 0) rfl)) (AC (by omega) (AC (by assumption) (A1 (hE7.cell (by rw [← hdn]; exact cellAt destC_len d0A hP.dests hn2 (j := 0) rfl)))))))) ?_
 refine Zq 0 ((c.kind : Int) = (1 : Int)) (fun k1 => ?_) (fun k1 => ?_)
 ·refine Zs 9 [] [([99,104,101,99,107,32,114,101,97,99,104,32]).length + (nmN p c.node).length ≤ 9223372036854775807,(([99,104,101,99,107,32,114,101,97,99,104,32]) ++ (nmN p c.node)).length + ([32]).length ≤ 9223372036854775807,((([99,104,101,99,107,32,114,101,97,99,104,32]) ++ (nmN p c.node)) ++ ([32])).length + (nmD p c.dest).length ≤ 9223372036854775807] (AC (by first | omega | (simp only [List.length_append,List.length_cons,List.length_nil]; omega)) (AC (by first | omega | (simp only [List.length_append,List.length_cons,List.length_nil]; omega)) (A1 (by first | omega | (simp only [List.length_append,List.length_cons,List.length_nil]; omega))))) ?_
  exact Z1 0 (sv (((([99,104,101,99,107,32,114,101,97,99,104,32]) ++ (nmN p c.node)) ++ ([32])) ++ (nmD p c.dest))) (⟨by unfold rchkT; rw [if_pos k1],hE7⟩)
 refine Zq 5 ((c.kind : Int) = (2 : Int)) (fun k2 => ?_) (fun k2 => ?_)
 ·refine Zh 10 [.p (fun _ => ([99,104,101,99,107,32,119,105,116,104,105,110,32]).length + (nmN p c.node).length ≤ 9223372036854775807),.p (fun _ => (([99,104,101,99,107,32,119,105,116,104,105,110,32]) ++ (nmN p c.node)).length + ([32]).length ≤ 9223372036854775807),.p (fun _ => ((([99,104,101,99,107,32,119,105,116,104,105,110,32]) ++ (nmN p c.node)) ++ ([32])).length + (nmD p c.dest).length ≤ 9223372036854775807),.p (fun _ => (((([99,104,101,99,107,32,119,105,116,104,105,110,32]) ++ (nmN p c.node)) ++ ([32])) ++ (nmD p c.dest)).length + ([32]).length ≤ 9223372036854775807),.c 0 3] hM8 (AC (by first | omega | (simp only [List.length_append,List.length_cons,List.length_nil]; omega)) (AC (by first | omega | (simp only [List.length_append,List.length_cons,List.length_nil]; omega)) (AC (by first | omega | (simp only [List.length_append,List.length_cons,List.length_nil]; omega)) (A1 (by first | omega | (simp only [List.length_append,List.length_cons,List.length_nil]; omega)))))) ?_
  refine Zl 0 E22 (digits_any c.limit w2 c3.1 c3.2) ?_
  rintro _ w3 ⟨rfl,hx3⟩
  obtain ⟨hE9,hM10⟩ := Xt hE7 hM8 hx3
  refine Zs 3 [] [((((([99,104,101,99,107,32,119,105,116,104,105,110,32]) ++ (nmN p c.node)) ++ ([32])) ++ (nmD p c.dest)) ++ ([32])).length + (Lib.itoa c.limit).length ≤ 9223372036854775807] (A1 (by first | omega | (simp only [List.length_append,List.length_cons,List.length_nil]; omega))) ?_
  exact Z1 0 (sv (((((([99,104,101,99,107,32,119,105,116,104,105,110,32]) ++ (nmN p c.node)) ++ ([32])) ++ (nmD p c.dest)) ++ ([32])) ++ (Lib.itoa c.limit))) (⟨by unfold rchkT; rw [if_neg k1,if_pos k2],hE9⟩)
 refine Zq 5 ((c.kind : Int) = (3 : Int)) (fun k3 => ?_) (fun k3 => ?_)
 ·refine Zh 18 [.p (fun _ => ([99,104,101,99,107,32,119,97,121,112,111,105,110,116,32]).length + (nmN p c.node).length ≤ 9223372036854775807),.p (fun _ => (([99,104,101,99,107,32,119,97,121,112,111,105,110,116,32]) ++ (nmN p c.node)).length + ([32]).length ≤ 9223372036854775807),.p (fun _ => ((([99,104,101,99,107,32,119,97,121,112,111,105,110,116,32]) ++ (nmN p c.node)) ++ ([32])).length + (nmD p c.dest).length ≤ 9223372036854775807),.p (fun _ => (((([99,104,101,99,107,32,119,97,121,112,111,105,110,116,32]) ++ (nmN p c.node)) ++ ([32])) ++ (nmD p c.dest)).length + ([32]).length ≤ 9223372036854775807),.c 1 3,.c 0 4,.p (fun _ => (0 ≤ c.other ∧ c.other < (p.nodes.length:Int))),.p (fun _ => (q.a1 : Option Addr) = some ⟨(slB q.a1),slO q.a1,none⟩),.p (fun _ => w2.cell? ⟨(slB q.a1),slO q.a1 + ((c.other).toNat) * 2,none⟩ = some (sv (nmN p c.other))),.p (fun _ => ((((([99,104,101,99,107,32,119,97,121,112,111,105,110,116,32]) ++ (nmN p c.node)) ++ ([32])) ++ (nmD p c.dest)) ++ ([32])).length + (nmN p c.other).length ≤ 9223372036854775807),.v (sv (nmN p c.other))] hM8 (AC (by first | omega | (simp only [List.length_append,List.length_cons,List.length_nil]; omega)) (AC (by first | omega | (simp only [List.length_append,List.length_cons,List.length_nil]; omega)) (AC (by first | omega | (simp only [List.length_append,List.length_cons,List.length_nil]; omega)) (AC (by first | omega | (simp only [List.length_append,List.length_cons,List.length_nil]; omega)) (AC (by omega) (AC (by assumption) (AC (hE7.cell (cellAt nodeC_len d0N hP.nodes hn3 (j := 0) rfl)) (A1 (by first | omega | (simp only [List.length_append,List.length_cons,List.length_nil]; omega)))))))))) ?_
  exact Z1 0 (sv (((((([99,104,101,99,107,32,119,97,121,112,111,105,110,116,32]) ++ (nmN p c.node)) ++ ([32])) ++ (nmD p c.dest)) ++ ([32])) ++ (nmN p c.other))) (⟨by unfold rchkT; rw [if_neg k1,if_neg k2,if_pos k3],hE7⟩)
 refine Zh 20 [.p (fun _ => ([99,104,101,99,107,32,101,113,117,97,108,32]).length + (nmN p c.node).length ≤ 9223372036854775807),.p (fun _ => (([99,104,101,99,107,32,101,113,117,97,108,32]) ++ (nmN p c.node)).length + ([32]).length ≤ 9223372036854775807),.c 1 3,.c 0 4,.p (fun _ => (0 ≤ c.other ∧ c.other < (p.nodes.length:Int))),.p (fun _ => (q.a1 : Option Addr) = some ⟨(slB q.a1),slO q.a1,none⟩),.p (fun _ => w2.cell? ⟨(slB q.a1),slO q.a1 + ((c.other).toNat) * 2,none⟩ = some (sv (nmN p c.other))),.p (fun _ => ((([99,104,101,99,107,32,101,113,117,97,108,32]) ++ (nmN p c.node)) ++ ([32])).length + (nmN p c.other).length ≤ 9223372036854775807),.p (fun _ => (((([99,104,101,99,107,32,101,113,117,97,108,32]) ++ (nmN p c.node)) ++ ([32])) ++ (nmN p c.other)).length + ([32]).length ≤ 9223372036854775807),.p (fun _ => ((((([99,104,101,99,107,32,101,113,117,97,108,32]) ++ (nmN p c.node)) ++ ([32])) ++ (nmN p c.other)) ++ ([32])).length + (nmD p c.dest).length ≤ 9223372036854775807),.v (sv (nmN p c.other))] hM8 (AC (by first | omega | (simp only [List.length_append,List.length_cons,List.length_nil]; omega)) (AC (by first | omega | (simp only [List.length_append,List.length_cons,List.length_nil]; omega)) (AC (by omega) (AC (by assumption) (AC (hE7.cell (cellAt nodeC_len d0N hP.nodes hn3 (j := 0) rfl)) (AC (by first | omega | (simp only [List.length_append,List.length_cons,List.length_nil]; omega)) (AC (by first | omega | (simp only [List.length_append,List.length_cons,List.length_nil]; omega)) (A1 (by first | omega | (simp only [List.length_append,List.length_cons,List.length_nil]; omega)))))))))) ?_
 exact Z1 0 (sv (((((([99,104,101,99,107,32,101,113,117,97,108,32]) ++ (nmN p c.node)) ++ ([32])) ++ (nmN p c.other)) ++ ([32])) ++ (nmD p c.dest))) (⟨by unfold rchkT; rw [if_neg k1,if_neg k2,if_neg k3],hE7⟩)

def prNp (p : PPlan) (q : PAd) (b1 : Nat) (w : World) : Lp Nat where
  S := fun k => [(1,none,pt b1 0),(5,none,sv ((protoL p ++ lineW [wdFailures,Lib.itoa p.k]) ++ (p.nodes.take k).flatMap nodeL)),(6,none,iv (k:Int))]
  J := fun k w' => Ext w w' ∧ Hold w' w.heap.size [.blk b1 (pc p q) 29] ∧ k ≤ p.nodes.length
  M := fun k => p.nodes.length - k
def prLp (p : PPlan) (q : PAd) (b1 : Nat) (w : World) : Lp Nat where
  S := fun k => [(1,none,pt b1 0),(5,none,sv (((protoL p ++ lineW [wdFailures,Lib.itoa p.k]) ++ p.nodes.flatMap nodeL) ++ (p.links.take k).flatMap (linkL p))),(7,none,iv (k:Int))]
  J := fun k w' => Ext w w' ∧ Hold w' w.heap.size [.blk b1 (pc p q) 29] ∧ k ≤ p.links.length
  M := fun k => p.links.length - k
def prDp (p : PPlan) (q : PAd) (b1 : Nat) (w : World) : Lp Nat where
  S := fun k => [(1,none,pt b1 0),(5,none,sv ((((protoL p ++ lineW [wdFailures,Lib.itoa p.k]) ++ p.nodes.flatMap nodeL) ++ p.links.flatMap (linkL p)) ++ (p.dests.take k).flatMap (destL p))),(9,none,iv (k:Int))]
  J := fun k w' => Ext w w' ∧ Hold w' w.heap.size [.blk b1 (pc p q) 29] ∧ k ≤ p.dests.length
  M := fun k => p.dests.length - k
def prOp (p : PPlan) (q : PAd) (b1 : Nat) (w : World) (k : Nat) : Lp Nat where
  S := fun m => [(1,none,pt b1 0),(5,none,sv (((((protoL p ++ lineW [wdFailures,Lib.itoa p.k]) ++ p.nodes.flatMap nodeL) ++ p.links.flatMap (linkL p)) ++ (p.dests.take k).flatMap (destL p)) ++ destP p (q.ds.getD k d0A).d m)),(9,none,iv (k:Int)),(10,none,iv (m:Int))]
  J := fun m w' => Ext w w' ∧ Hold w' w.heap.size [.blk b1 (pc p q) 29] ∧ m ≤ (q.ds.getD k d0A).d.origins.length
  M := fun m => (q.ds.getD k d0A).d.origins.length - m
def prCp (p : PPlan) (q : PAd) (b1 : Nat) (w : World) : Lp Nat where
  S := fun k => [(1,none,pt b1 0),(5,none,sv (((((protoL p ++ lineW [wdFailures,Lib.itoa p.k]) ++ p.nodes.flatMap nodeL) ++ p.links.flatMap (linkL p)) ++ p.dests.flatMap (destL p)) ++ (p.checks.take k).flatMap (checkL p))),(11,none,iv (k:Int))]
  J := fun k w' => Ext w w' ∧ Hold w' w.heap.size [.blk b1 (pc p q) 29] ∧ k ≤ p.checks.length
  M := fun k => p.checks.length - k
set_option maxRecDepth 20000 in
set_option maxHeartbeats 2000000 in
theorem rPrint_any (p : PPlan) (q : PAd) (w : World) (hP : PlanAt w p q) :
    Does Tryz.prog 8 [(pv p q)] w (fun v w' => v = .tuple #[.string (bs (printB p).1),.int .i64 (printB p).2] ∧ Ext w w') := by
 refine startZ (c := Y8) Tryz.func8 rfl (by kernel_rfl) ?_
 show H _ 159 [] _ (kAt Y8 [] []) (stz [(0,(pv p q))]) w
 have hq := hP.dlen
 have hl1 := hP.l1
 have hl2 := hP.l2
 have hl3 := hP.l3
 have hl4 := hP.l4
 have hE1 : Ext w w := Ext.refl w
 have hM2 : Hold w w.heap.size [] := Hold.nil hE1.le
 refine Zb 2 29 (pv p q) (pc p q) hE1 hM2 ?_
 intro b1 w1 hE4 hM5
 refine Zh 6 [.a 0 0 7] hM5 trivial ?_
 refine Zl 0 E10 (rRight_any p q w1 (hP.ext hE4)) ?_
 rintro _ w2 ⟨rfl,hx2⟩
 obtain ⟨hE6,hM7⟩ := Xt hE4 hM5 hx2
 refine Zr 8 _ (¬ ((rightB p) = true)) ((iffNot Iff.rfl)) (fun h0 => ?_) (fun h0 => ?_)
 ·exact Z2 5 (sv ([])) (iv 1) (⟨by unfold printB; rw [if_neg h0],hE6⟩)
 have h0 : rightB p = true := Classical.not_not.1 h0
 have hR := rightB_iff.1 h0
 have m0 := hR.protoL_len
 have m1 := hR.failL_len
 have m2 := hR.flatN_len
 have m3 := hR.flatL_len
 have m4 := hR.flatD_len
 have m5 := hR.flatC_len
 have hcp := hR.cap_len
 have hk0 := hR.k0
 have hk1 := hR.k1
 have rc1 := hR.c1
 have rd1 := hR.d1
 have rl1 := hR.l1
 have rn1 := hR.n1
 have m2e := m2 p.nodes.length
 rw [List.take_length] at m2e
 have m3e := m3 p.links.length
 rw [List.take_length] at m3e
 have m4e := m4 p.dests.length
 rw [List.take_length] at m4e
 have m5e := m5 p.checks.length
 rw [List.take_length] at m5e
 have hik := itoa_len hk0 (by omega)
 have hic := itoa_len hcp.1 (by omega)
 refine Zh 12 [.c 0 0] hM7 trivial ?_
 have rest : ∀ wz : World,Ext w wz → Hold wz w.heap.size [.blk b1 ((pc p q)) 29] → H Tryz.prog 159 [] (bodyPost Tryz.prog Tryz.f8 (Ret fun v w' => v = .tuple #[.string (bs (printB p).1),.int .i64 (printB p).2] ∧ Ext w w')) (kAt Y8 (ro1 5 []) []) (stz [(1,pt b1 0),(2,sv ([])),(3,iv 0),(5,sv (protoL p))]) wz := by
   intro wz hEz hMz
   refine Zh 6 [.p (fun _ => (protoL p).length + ([102,97,105,108,117,114,101,115,32]).length ≤ 9223372036854775807),.c 0 2] hMz (A1 (by first | omega | (simp only [List.length_append,List.length_cons,List.length_nil]; omega))) ?_
   refine Zl 0 E22 (digits_any p.k wz hk0 (by omega)) ?_
   rintro _ wkp ⟨rfl,hxkp⟩
   obtain ⟨hE8,hM9⟩ := Xt hEz hMz hxkp
   refine Zs 10 [] [((protoL p) ++ ([102,97,105,108,117,114,101,115,32])).length + (Lib.itoa p.k).length ≤ 9223372036854775807,(((protoL p) ++ ([102,97,105,108,117,114,101,115,32])) ++ (Lib.itoa p.k)).length + ([59,10]).length ≤ 9223372036854775807] (AC (by first | omega | (simp only [List.length_append,List.length_cons,List.length_nil]; omega)) (A1 (by first | omega | (simp only [List.length_append,List.length_cons,List.length_nil]; omega)))) ?_
   refine Zw 0 5 (sv ((((protoL p) ++ ([102,97,105,108,117,114,101,115,32])) ++ (Lib.itoa p.k)) ++ ([59,10]))) (sv ((protoL p ++ lineW [wdFailures,Lib.itoa p.k]) ++ (p.nodes.take 0).flatMap nodeL)) (by rw [show ((protoL p ++ lineW [wdFailures,Lib.itoa p.k]) ++ (p.nodes.take 0).flatMap nodeL) = (((protoL p) ++ [102,97,105,108,117,114,101,115,32]) ++ Lib.itoa p.k) ++ [59,10] by simp [lineW,joinW,wdFailures,List.append_assoc]]) ?_
   refine ZLoop (prNp p q b1 w) (k' := (kEnd Y8 (ro1 6 [0,1,0]) [])) (body := (cAt Y8 (ro1 6 [0,1,0,0]))) (by kernel_rfl) 0 [1,5,6] (by kernel_rfl) (⟨hE8,hM9,Nat.zero_le _⟩) ?_
   rintro k w4 ⟨Kw4,Mw4,hk⟩
   refine Zh 9 [.c 0 3] Mw4 trivial ?_
   refine Zq 0 ((k:Int) < (p.nodes.length:Int)) (fun hw4 => ?_) (fun hw4 => ?_)
   ·generalize hKTw4 : ((.inv (LI 159 [] (prNp p q b1 w) k) :: (kEnd Y8 (ro1 6 [0,1,0]) [])) : List Fr) = KTw4
    have hk2 : k < p.nodes.length := by omega
    have hmem := getD_mem' d0N hk2
    have ha1 := hR.asn _ hmem
    have hnn := hR.nameN hmem
    have hit := itoa_len (by omega) ha1.2
    have ha := hP.nodes.addrE nodeC_len (by decide) hk2
    have m2k := m2 k
    refine Zs 3 [] [] trivial ?_
    refine ZB 20 (Fr.blk 1 :: (kAt (cAt Y8 (ro1 6 [0,1,0,0])) [1,1] KTw4)) 11 (opsAt (cAt (cAt Y8 (ro1 6 [0,1,0,0])) [1,0,0])) (fun w1 => Ext w1) ?_
    intro w10 hx11
    obtain ⟨hE12,hM13⟩ := Xt Kw4 Mw4 hx11
    refine dh [0,1,2,3,4,5,6,7,8,9,10,11,12,13,14,15] [.p (fun _ => (((protoL p ++ lineW [wdFailures,Lib.itoa p.k]) ++ (p.nodes.take k).flatMap nodeL)).length + ([110,111,100,101,32]).length ≤ 9223372036854775807),.c 0 3,.g 0,.g 1,.p (fun w' => (w').cell? ⟨(slB q.a1),slO q.a1 + k * 2,none⟩ = some (sv ((p.nodes.getD k d0N).name))),.p (fun _ => (((protoL p ++ lineW [wdFailures,Lib.itoa p.k]) ++ (p.nodes.take k).flatMap nodeL) ++ ([110,111,100,101,32])).length + ((p.nodes.getD k d0N).name).length ≤ 9223372036854775807),.p (fun _ => ((((protoL p ++ lineW [wdFailures,Lib.itoa p.k]) ++ (p.nodes.take k).flatMap nodeL) ++ ([110,111,100,101,32])) ++ ((p.nodes.getD k d0N).name)).length + ([32]).length ≤ 9223372036854775807),.v (sv ((p.nodes.getD k d0N).name)),.c 0 3,.g 0,.g 1,.p (fun w' => (w').cell? ⟨(slB q.a1),slO q.a1 + k * 2 + 1,none⟩ = some (iv ((p.nodes.getD k d0N).asn))),.v (iv ((p.nodes.getD k d0N).asn))] 4 (lb 20 65535) hM13 (fun _ h => h) [(0 ≤ (k:Int) ∧ (k:Int) < (p.nodes.length:Int)),(q.a1 : Option Addr) = some ⟨(slB q.a1),slO q.a1,none⟩] (AC (by omega) (A1 (by assumption))) [] (fun w' hS => (AC (by first | omega | (simp only [List.length_append,List.length_cons,List.length_nil]; omega)) (AC (hS.cell (hE12.cell (cellAt nodeC_len d0N hP.nodes hk2 (j := 0) rfl))) (AC (by first | omega | (simp only [List.length_append,List.length_cons,List.length_nil]; omega)) (AC (by first | omega | (simp only [List.length_append,List.length_cons,List.length_nil]; omega)) (A1 (hS.cell (hE12.cell (cellAt nodeC_len d0N hP.nodes hk2 (j := 1) rfl))))))))) (Ext.refl _) ?_
    refine d1 16 ?_
    refine Wl E22 (digits_any (p.nodes.getD k d0N).asn w10 (by omega) ha1.2) ?_
    rintro _ wnp ⟨rfl,hxnp⟩
    obtain ⟨hE14,hM15⟩ := Xt hE12 hM13 hxnp
    refine ⟨hxnp,?_⟩
    refine dMore (Ext wnp) (fun w' h => Ext.trans hxnp h) ?_
    refine dx [17,18,19] [] 0 (lb 20 1048575) (fun w' => [(((((protoL p ++ lineW [wdFailures,Lib.itoa p.k]) ++ (p.nodes.take k).flatMap nodeL) ++ ([110,111,100,101,32])) ++ ((p.nodes.getD k d0N).name)) ++ ([32])).length + (Lib.itoa (p.nodes.getD k d0N).asn).length ≤ 9223372036854775807,((((((protoL p ++ lineW [wdFailures,Lib.itoa p.k]) ++ (p.nodes.take k).flatMap nodeL) ++ ([110,111,100,101,32])) ++ ((p.nodes.getD k d0N).name)) ++ ([32])) ++ (Lib.itoa (p.nodes.getD k d0N).asn)).length + ([59,10]).length ≤ 9223372036854775807]) (fun w' hS => (AC (by first | omega | (simp only [List.length_append,List.length_cons,List.length_nil]; omega)) (A1 (by first | omega | (simp only [List.length_append,List.length_cons,List.length_nil]; omega))))) (Ext.refl _) ?_
    refine ZD ?_
    refine Zs 6 [] [I64 ((k + 1:Nat):Int)] (A1 (i64 (by omega))) ?_
    refine Zw 0 5 (sv (((((((protoL p ++ lineW [wdFailures,Lib.itoa p.k]) ++ (p.nodes.take k).flatMap nodeL) ++ ([110,111,100,101,32])) ++ ((p.nodes.getD k d0N).name)) ++ ([32])) ++ (Lib.itoa (p.nodes.getD k d0N).asn)) ++ ([59,10]))) (sv ((protoL p ++ lineW [wdFailures,Lib.itoa p.k]) ++ (p.nodes.take (k + 1)).flatMap nodeL)) (by rw [show ((protoL p ++ lineW [wdFailures,Lib.itoa p.k]) ++ (p.nodes.take (k + 1)).flatMap nodeL) = _ ++ nodeL _ by rw [flatS d0N hk2,← List.append_assoc],← node_line]) ?_
    subst hKTw4
    exact ZA 0 (prNp p q b1 w) k (k + 1) [1,5,6] (⟨hE14,hM15,by omega⟩) (show p.nodes.length - (k + 1) < p.nodes.length - k by omega)
   have hkl : k = p.nodes.length := by omega
   refine Zw 7 5 (sv ((protoL p ++ lineW [wdFailures,Lib.itoa p.k]) ++ (p.nodes.take k).flatMap nodeL)) (sv (((protoL p ++ lineW [wdFailures,Lib.itoa p.k]) ++ p.nodes.flatMap nodeL) ++ (p.links.take 0).flatMap (linkL p))) (by rw [hkl,List.take_length,show (((protoL p ++ lineW [wdFailures,Lib.itoa p.k]) ++ p.nodes.flatMap nodeL) ++ (p.links.take 0).flatMap (linkL p)) = ((protoL p ++ lineW [wdFailures,Lib.itoa p.k]) ++ p.nodes.flatMap nodeL) by simp]) ?_
   refine ZLoop (prLp p q b1 w) (k' := (kEnd Y8 (ro1 7 [0,1,0]) [])) (body := (cAt Y8 (ro1 7 [0,1,0,0]))) (by kernel_rfl) 0 [1,5,7] (by kernel_rfl) (⟨Kw4,Mw4,Nat.zero_le _⟩) ?_
   rintro k w6 ⟨Kw6,Mw6,hk⟩
   refine Zh 9 [.c 0 4] Mw6 trivial ?_
   refine Zq 0 ((k:Int) < (p.links.length:Int)) (fun hw6 => ?_) (fun hw6 => ?_)
   ·generalize hKTw6 : ((.inv (LI 159 [] (prLp p q b1 w) k) :: (kEnd Y8 (ro1 7 [0,1,0]) [])) : List Fr) = KTw6
    have hk2 : k < p.links.length := by omega
    have hmem := getD_mem' d0L hk2
    have hlk := hR.link _ hmem
    have hit := itoa_len (show 0 ≤ (p.links.getD k d0L).cost by omega) (by omega)
    have ha := hP.links.addrE linkC_len (by decide) hk2
    have m3k := m3 k
    have hn1 : (p.links.getD k d0L).a.toNat < p.nodes.length := by omega
    have hn2 : (p.links.getD k d0L).b.toNat < p.nodes.length := by omega
    have hb := hP.nodes.addrE nodeC_len (by decide) hn1
    have e1 := hR.nmN_len (p.links.getD k d0L).a
    have e2 := hR.nmN_len (p.links.getD k d0L).b
    refine Zh 10 [.c 0 4,.p (fun _ => (0 ≤ (k:Int) ∧ (k:Int) < (p.links.length:Int))),.p (fun _ => (q.a2 : Option Addr) = some ⟨(slB q.a2),slO q.a2,none⟩),.p (fun _ => w6.cell? ⟨(slB q.a2),slO q.a2 + k * 3,none⟩ = some (iv ((p.links.getD k d0L).a))),.p (fun _ => w6.cell? ⟨(slB q.a2),slO q.a2 + k * 3 + 1,none⟩ = some (iv ((p.links.getD k d0L).b))),.p (fun _ => w6.cell? ⟨(slB q.a2),slO q.a2 + k * 3 + 2,none⟩ = some (iv ((p.links.getD k d0L).cost))),.v (vL (p.links.getD k d0L))] Mw6 (AC (by omega) (AC (by assumption) (AC (Kw6.cell (cellAt linkC_len d0L hP.links hk2 (j := 0) rfl)) (AC (Kw6.cell (cellAt linkC_len d0L hP.links hk2 (j := 1) rfl)) (A1 (Kw6.cell (cellAt linkC_len d0L hP.links hk2 (j := 2) rfl))))))) ?_
    refine Za 0 43 [iv 0,iv 0,iv 0] Kw6 Mw6 ?_
    intro b8 wlp hE17 hM18
    refine Zt 0 0 0 (vL (p.links.getD k d0L)) rfl hE17 hM18 ?_
    intro wmp hE20 hM21
    refine Zs 1 [] [] trivial ?_
    refine ZB 26 (Fr.blk 3 :: (kAt (cAt Y8 (ro1 7 [0,1,0,0])) [1,1] KTw6)) 16 (opsAt (cAt (cAt Y8 (ro1 7 [0,1,0,0])) [1,0,0,1])) (fun w1 => Ext w1) ?_
    intro w22 hx23
    obtain ⟨hE24,hM25⟩ := Xt hE20 hM21 hx23
    refine dh [0,1,2,3,4,5,6,7,8,9,10,11,12,13,14,15,16,17,18,19,20,21] [.p (fun _ => ((((protoL p ++ lineW [wdFailures,Lib.itoa p.k]) ++ p.nodes.flatMap nodeL) ++ (p.links.take k).flatMap (linkL p))).length + ([108,105,110,107,32]).length ≤ 9223372036854775807),.c 1 3,.c 0 0,.p (fun _ => (0 ≤ (p.links.getD k d0L).a ∧ (p.links.getD k d0L).a < (p.nodes.length:Int))),.g 0,.p (fun w' => (w').cell? ⟨(slB q.a1),slO q.a1 + (((p.links.getD k d0L).a).toNat) * 2,none⟩ = some (sv (nmN p (p.links.getD k d0L).a))),.p (fun _ => ((((protoL p ++ lineW [wdFailures,Lib.itoa p.k]) ++ p.nodes.flatMap nodeL) ++ (p.links.take k).flatMap (linkL p)) ++ ([108,105,110,107,32])).length + (nmN p (p.links.getD k d0L).a).length ≤ 9223372036854775807),.p (fun _ => (((((protoL p ++ lineW [wdFailures,Lib.itoa p.k]) ++ p.nodes.flatMap nodeL) ++ (p.links.take k).flatMap (linkL p)) ++ ([108,105,110,107,32])) ++ (nmN p (p.links.getD k d0L).a)).length + ([32]).length ≤ 9223372036854775807),.v (sv (nmN p (p.links.getD k d0L).a)),.c 1 3,.c 0 1,.p (fun _ => (0 ≤ (p.links.getD k d0L).b ∧ (p.links.getD k d0L).b < (p.nodes.length:Int))),.g 0,.p (fun w' => (w').cell? ⟨(slB q.a1),slO q.a1 + (((p.links.getD k d0L).b).toNat) * 2,none⟩ = some (sv (nmN p (p.links.getD k d0L).b))),.p (fun _ => ((((((protoL p ++ lineW [wdFailures,Lib.itoa p.k]) ++ p.nodes.flatMap nodeL) ++ (p.links.take k).flatMap (linkL p)) ++ ([108,105,110,107,32])) ++ (nmN p (p.links.getD k d0L).a)) ++ ([32])).length + (nmN p (p.links.getD k d0L).b).length ≤ 9223372036854775807),.p (fun _ => (((((((protoL p ++ lineW [wdFailures,Lib.itoa p.k]) ++ p.nodes.flatMap nodeL) ++ (p.links.take k).flatMap (linkL p)) ++ ([108,105,110,107,32])) ++ (nmN p (p.links.getD k d0L).a)) ++ ([32])) ++ (nmN p (p.links.getD k d0L).b)).length + ([32]).length ≤ 9223372036854775807),.v (sv (nmN p (p.links.getD k d0L).b)),.c 0 2] 4 (lb 26 4194303) hM25 (fun _ h => h) [(q.a1 : Option Addr) = some ⟨(slB q.a1),slO q.a1,none⟩] (A1 (by assumption)) [] (fun w' hS => (AC (by first | omega | (simp only [List.length_append,List.length_cons,List.length_nil]; omega)) (AC (by omega) (AC (hS.cell (hE24.cell (cellAt nodeC_len d0N hP.nodes hn1 (j := 0) rfl))) (AC (by first | omega | (simp only [List.length_append,List.length_cons,List.length_nil]; omega)) (AC (by first | omega | (simp only [List.length_append,List.length_cons,List.length_nil]; omega)) (AC (by omega) (AC (hS.cell (hE24.cell (cellAt nodeC_len d0N hP.nodes hn2 (j := 0) rfl))) (AC (by first | omega | (simp only [List.length_append,List.length_cons,List.length_nil]; omega)) (A1 (by first | omega | (simp only [List.length_append,List.length_cons,List.length_nil]; omega)))))))))))) (Ext.refl _) ?_
    refine d1 22 ?_
    refine Wl E22 (digits_any (p.links.getD k d0L).cost w22 (by omega) (by omega)) ?_
    rintro _ wop ⟨rfl,hxop⟩
    obtain ⟨hE26,hM27⟩ := Xt hE24 hM25 hxop
    refine ⟨hxop,?_⟩
    refine dMore (Ext wop) (fun w' h => Ext.trans hxop h) ?_
    refine dx [23,24,25] [] 0 (lb 26 67108863) (fun w' => [((((((((protoL p ++ lineW [wdFailures,Lib.itoa p.k]) ++ p.nodes.flatMap nodeL) ++ (p.links.take k).flatMap (linkL p)) ++ ([108,105,110,107,32])) ++ (nmN p (p.links.getD k d0L).a)) ++ ([32])) ++ (nmN p (p.links.getD k d0L).b)) ++ ([32])).length + (Lib.itoa (p.links.getD k d0L).cost).length ≤ 9223372036854775807,(((((((((protoL p ++ lineW [wdFailures,Lib.itoa p.k]) ++ p.nodes.flatMap nodeL) ++ (p.links.take k).flatMap (linkL p)) ++ ([108,105,110,107,32])) ++ (nmN p (p.links.getD k d0L).a)) ++ ([32])) ++ (nmN p (p.links.getD k d0L).b)) ++ ([32])) ++ (Lib.itoa (p.links.getD k d0L).cost)).length + ([59,10]).length ≤ 9223372036854775807]) (fun w' hS => (AC (by first | omega | (simp only [List.length_append,List.length_cons,List.length_nil]; omega)) (A1 (by first | omega | (simp only [List.length_append,List.length_cons,List.length_nil]; omega))))) (Ext.refl _) ?_
    refine ZD ?_
    refine Zs 6 [] [I64 ((k + 1:Nat):Int)] (A1 (i64 (by omega))) ?_
    have hM28 := hM27.pickT 2 [1] (by kernel_rfl)
    refine Zw 0 5 (sv ((((((((((protoL p ++ lineW [wdFailures,Lib.itoa p.k]) ++ p.nodes.flatMap nodeL) ++ (p.links.take k).flatMap (linkL p)) ++ ([108,105,110,107,32])) ++ (nmN p (p.links.getD k d0L).a)) ++ ([32])) ++ (nmN p (p.links.getD k d0L).b)) ++ ([32])) ++ (Lib.itoa (p.links.getD k d0L).cost)) ++ ([59,10]))) (sv (((protoL p ++ lineW [wdFailures,Lib.itoa p.k]) ++ p.nodes.flatMap nodeL) ++ (p.links.take (k + 1)).flatMap (linkL p))) (by rw [show (((protoL p ++ lineW [wdFailures,Lib.itoa p.k]) ++ p.nodes.flatMap nodeL) ++ (p.links.take (k + 1)).flatMap (linkL p)) = _ ++ linkL p _ by rw [flatS d0L hk2,← List.append_assoc],← link_line]) ?_
    subst hKTw6
    exact ZA 0 (prLp p q b1 w) k (k + 1) [1,5,7] (⟨hE26,hM28,by omega⟩) (show p.links.length - (k + 1) < p.links.length - k by omega)
   have hkl : k = p.links.length := by omega
   refine Zw 7 5 (sv (((protoL p ++ lineW [wdFailures,Lib.itoa p.k]) ++ p.nodes.flatMap nodeL) ++ (p.links.take k).flatMap (linkL p))) (sv ((((protoL p ++ lineW [wdFailures,Lib.itoa p.k]) ++ p.nodes.flatMap nodeL) ++ p.links.flatMap (linkL p)) ++ (p.dests.take 0).flatMap (destL p))) (by rw [hkl,List.take_length,show ((((protoL p ++ lineW [wdFailures,Lib.itoa p.k]) ++ p.nodes.flatMap nodeL) ++ p.links.flatMap (linkL p)) ++ (p.dests.take 0).flatMap (destL p)) = (((protoL p ++ lineW [wdFailures,Lib.itoa p.k]) ++ p.nodes.flatMap nodeL) ++ p.links.flatMap (linkL p)) by simp]) ?_
   refine ZLoop (prDp p q b1 w) (k' := (kEnd Y8 (ro1 8 [0,1,0]) [])) (body := (cAt Y8 (ro1 8 [0,1,0,0]))) (by kernel_rfl) 0 [1,5,9] (by kernel_rfl) (⟨Kw6,Mw6,Nat.zero_le _⟩) ?_
   rintro k w8 ⟨Kw8,Mw8,hk⟩
   refine Zh 9 [.c 0 5] Mw8 trivial ?_
   refine Zq 0 ((k:Int) < (p.dests.length:Int)) (fun hw8 => ?_) (fun hw8 => ?_)
   ·generalize hKTw8 : ((.inv (LI 159 [] (prDp p q b1 w) k) :: (kEnd Y8 (ro1 8 [0,1,0]) [])) : List Fr) = KTw8
    have hk2 : k < p.dests.length := by omega
    have hmem := getD_mem' d0D hk2
    have hk3 : k < q.ds.length := by omega
    have hdg := hP.dget k
    have ho := hP.orig _ (getD_mem' d0A hk3)
    have ha := hP.dests.addrE destC_len (by decide) hk3
    have m4k := m4 k
    have hnn := hR.nameD hmem
    have hdo := (hR.dest _ hmem).1
    have hdl := destP_len hR hmem
    rw [← hdg] at hdo hnn hdl
    refine Zh 23 [.p (fun _ => (((((protoL p ++ lineW [wdFailures,Lib.itoa p.k]) ++ p.nodes.flatMap nodeL) ++ p.links.flatMap (linkL p)) ++ (p.dests.take k).flatMap (destL p))).length + ([100,101,115,116,32]).length ≤ 9223372036854775807),.c 0 5,.p (fun _ => (0 ≤ (k:Int) ∧ (k:Int) < (p.dests.length:Int))),.p (fun _ => (q.a3 : Option Addr) = some ⟨(slB q.a3),slO q.a3,none⟩),.p (fun _ => w8.cell? ⟨(slB q.a3),slO q.a3 + k * 2,none⟩ = some (sv ((q.ds.getD k d0A).d.name))),.p (fun _ => (((((protoL p ++ lineW [wdFailures,Lib.itoa p.k]) ++ p.nodes.flatMap nodeL) ++ p.links.flatMap (linkL p)) ++ (p.dests.take k).flatMap (destL p)) ++ ([100,101,115,116,32])).length + ((q.ds.getD k d0A).d.name).length ≤ 9223372036854775807),.p (fun _ => ((((((protoL p ++ lineW [wdFailures,Lib.itoa p.k]) ++ p.nodes.flatMap nodeL) ++ p.links.flatMap (linkL p)) ++ (p.dests.take k).flatMap (destL p)) ++ ([100,101,115,116,32])) ++ ((q.ds.getD k d0A).d.name)).length + ([32,97,116]).length ≤ 9223372036854775807),.v (sv ((q.ds.getD k d0A).d.name))] Mw8 (AC (by first | omega | (simp only [List.length_append,List.length_cons,List.length_nil]; omega)) (AC (by omega) (AC (by assumption) (AC (Kw8.cell (cellAt destC_len d0A hP.dests hk3 (j := 0) rfl)) (AC (by first | omega | (simp only [List.length_append,List.length_cons,List.length_nil]; omega)) (A1 (by first | omega | (simp only [List.length_append,List.length_cons,List.length_nil]; omega)))))))) ?_
    refine Zw 0 5 (sv (((((((protoL p ++ lineW [wdFailures,Lib.itoa p.k]) ++ p.nodes.flatMap nodeL) ++ p.links.flatMap (linkL p)) ++ (p.dests.take k).flatMap (destL p)) ++ ([100,101,115,116,32])) ++ ((q.ds.getD k d0A).d.name)) ++ ([32,97,116]))) (sv (((((protoL p ++ lineW [wdFailures,Lib.itoa p.k]) ++ p.nodes.flatMap nodeL) ++ p.links.flatMap (linkL p)) ++ (p.dests.take k).flatMap (destL p)) ++ destP p (q.ds.getD k d0A).d 0)) (by rw [destP_zero]) ?_
    refine ZLoop (prOp p q b1 w k) (k' := (kEnd (cAt Y8 (ro1 8 [0,1,0,0])) [1,0,0,1,0,1,0] KTw8)) (body := (cAt (cAt Y8 (ro1 8 [0,1,0,0])) [1,0,0,1,0,1,0,0])) (by kernel_rfl) 0 [1,5,9,10] (by kernel_rfl) (⟨Kw8,Mw8,Nat.zero_le _⟩) ?_
    rintro m w9 ⟨K9,M9,hm⟩
    have hdlm := hdl m
    refine Zh 13 [.c 0 5,.p (fun _ => (0 ≤ (k:Int) ∧ (k:Int) < (p.dests.length:Int))),.p (fun _ => (q.a3 : Option Addr) = some ⟨(slB q.a3),slO q.a3,none⟩),.p (fun _ => w9.cell? ⟨(slB q.a3),slO q.a3 + k * 2 + 1,none⟩ = some (.slice (q.ds.getD k d0A).a ((q.ds.getD k d0A).d.origins.length) ((q.ds.getD k d0A).c))),.v (.slice (q.ds.getD k d0A).a ((q.ds.getD k d0A).d.origins.length) ((q.ds.getD k d0A).c))] M9 (AC (by omega) (AC (by assumption) (A1 (K9.cell (cellAt destC_len d0A hP.dests hk3 (j := 1) rfl))))) ?_
    refine Zq 0 ((m:Int) < (((q.ds.getD k d0A).d.origins.length:Nat):Int)) (fun h9 => ?_) (fun h9 => ?_)
    ·have hm2 : m < (q.ds.getD k d0A).d.origins.length := by omega
     have hc := ho.1.addrE intCells_len (by decide) hm2
     have hpl := placeB_iff.1 (hdo m hm2).1
     have hn1 : ((q.ds.getD k d0A).d.origins.getD m 0).toNat < p.nodes.length := by omega
     have hb := hP.nodes.addrE nodeC_len (by decide) hn1
     have e1 := hR.nmN_len ((q.ds.getD k d0A).d.origins.getD m 0)
     refine Zs 3 [] [] trivial ?_
     refine ZB 18 (Fr.blk 7 :: (kAt (cAt (cAt Y8 (ro1 8 [0,1,0,0])) [1,0,0,1,0,1,0,0]) [1,1] (.inv (LI 159 [] (prOp p q b1 w k) m) :: (kEnd (cAt Y8 (ro1 8 [0,1,0,0])) [1,0,0,1,0,1,0] KTw8)))) 24 (opsAt (cAt (cAt (cAt Y8 (ro1 8 [0,1,0,0])) [1,0,0,1,0,1,0,0]) [1,0,0])) (fun w1 => Ext w1) ?_
     intro w29 hx30
     obtain ⟨hE31,hM32⟩ := Xt K9 M9 hx30
     refine dh [0,1,2,3,4,5,6,7,8,9,10,11,12,13,14,15,16,17] [.p (fun _ => (((((protoL p ++ lineW [wdFailures,Lib.itoa p.k]) ++ p.nodes.flatMap nodeL) ++ p.links.flatMap (linkL p)) ++ (p.dests.take k).flatMap (destL p)) ++ destP p (q.ds.getD k d0A).d m).length + ([32]).length ≤ 9223372036854775807),.c 0 3,.c 0 5,.p (fun _ => (0 ≤ (k:Int) ∧ (k:Int) < (p.dests.length:Int))),.p (fun _ => (q.a3 : Option Addr) = some ⟨(slB q.a3),slO q.a3,none⟩),.p (fun w' => (w').cell? ⟨(slB q.a3),slO q.a3 + k * 2 + 1,none⟩ = some (.slice (q.ds.getD k d0A).a ((q.ds.getD k d0A).d.origins.length) ((q.ds.getD k d0A).c))),.p (fun _ => (0 ≤ (m:Int) ∧ (m:Int) < (((q.ds.getD k d0A).d.origins.length:Nat):Int))),.p (fun _ => ((q.ds.getD k d0A).a : Option Addr) = some ⟨(slB (q.ds.getD k d0A).a),slO (q.ds.getD k d0A).a,none⟩),.p (fun w' => (w').cell? ⟨(slB (q.ds.getD k d0A).a),slO (q.ds.getD k d0A).a + m * 1,none⟩ = some (iv ((q.ds.getD k d0A).d.origins.getD m 0))),.p (fun _ => (0 ≤ (q.ds.getD k d0A).d.origins.getD m 0 ∧ (q.ds.getD k d0A).d.origins.getD m 0 < (p.nodes.length:Int))),.p (fun _ => (q.a1 : Option Addr) = some ⟨(slB q.a1),slO q.a1,none⟩),.p (fun w' => (w').cell? ⟨(slB q.a1),slO q.a1 + (((q.ds.getD k d0A).d.origins.getD m 0).toNat) * 2,none⟩ = some (sv (nmN p ((q.ds.getD k d0A).d.origins.getD m 0)))),.p (fun _ => ((((((protoL p ++ lineW [wdFailures,Lib.itoa p.k]) ++ p.nodes.flatMap nodeL) ++ p.links.flatMap (linkL p)) ++ (p.dests.take k).flatMap (destL p)) ++ destP p (q.ds.getD k d0A).d m) ++ ([32])).length + (nmN p ((q.ds.getD k d0A).d.origins.getD m 0)).length ≤ 9223372036854775807),.v (.slice (q.ds.getD k d0A).a ((q.ds.getD k d0A).d.origins.length) ((q.ds.getD k d0A).c)),.v (iv ((q.ds.getD k d0A).d.origins.getD m 0)),.v (sv (nmN p ((q.ds.getD k d0A).d.origins.getD m 0)))] 0 (lb 18 262143) hM32 (fun _ h => h) [] trivial [] (fun w' hS => (AC (by first | omega | (simp only [List.length_append,List.length_cons,List.length_nil]; omega)) (AC (by omega) (AC (by assumption) (AC (hS.cell (hE31.cell (cellAt destC_len d0A hP.dests hk3 (j := 1) rfl))) (AC (by omega) (AC (by assumption) (AC (hS.cell (hE31.cell (int_cell ho.1 hm2))) (AC (by omega) (AC (by assumption) (AC (hS.cell (hE31.cell (cellAt nodeC_len d0N hP.nodes hn1 (j := 0) rfl))) (A1 (by first | omega | (simp only [List.length_append,List.length_cons,List.length_nil]; omega)))))))))))))) (Ext.refl _) ?_
     refine ZD ?_
     refine Zs 6 [] [I64 ((m + 1:Nat):Int)] (A1 (i64 (by omega))) ?_
     refine Zw 0 5 (sv (((((((protoL p ++ lineW [wdFailures,Lib.itoa p.k]) ++ p.nodes.flatMap nodeL) ++ p.links.flatMap (linkL p)) ++ (p.dests.take k).flatMap (destL p)) ++ destP p (q.ds.getD k d0A).d m) ++ ([32])) ++ (nmN p ((q.ds.getD k d0A).d.origins.getD m 0)))) (sv (((((protoL p ++ lineW [wdFailures,Lib.itoa p.k]) ++ p.nodes.flatMap nodeL) ++ p.links.flatMap (linkL p)) ++ (p.dests.take k).flatMap (destL p)) ++ destP p (q.ds.getD k d0A).d (m + 1))) (by rw [destP_step _ _ _ hm2]) ?_
     exact ZA 0 (prOp p q b1 w k) m (m + 1) [1,5,9,10] (⟨hE31,hM32,by omega⟩) (show (q.ds.getD k d0A).d.origins.length - (m + 1) < (q.ds.getD k d0A).d.origins.length - m by omega)
    have hml : m = (q.ds.getD k d0A).d.origins.length := by omega
    refine Zs 12 [] [(((((protoL p ++ lineW [wdFailures,Lib.itoa p.k]) ++ p.nodes.flatMap nodeL) ++ p.links.flatMap (linkL p)) ++ (p.dests.take k).flatMap (destL p)) ++ destP p (q.ds.getD k d0A).d m).length + ([59,10]).length ≤ 9223372036854775807,I64 ((k + 1:Nat):Int)] (AC (by first | omega | (simp only [List.length_append,List.length_cons,List.length_nil]; omega)) (A1 (i64 (by omega)))) ?_
    refine Zw 0 5 (sv ((((((protoL p ++ lineW [wdFailures,Lib.itoa p.k]) ++ p.nodes.flatMap nodeL) ++ p.links.flatMap (linkL p)) ++ (p.dests.take k).flatMap (destL p)) ++ destP p (q.ds.getD k d0A).d m) ++ ([59,10]))) (sv ((((protoL p ++ lineW [wdFailures,Lib.itoa p.k]) ++ p.nodes.flatMap nodeL) ++ p.links.flatMap (linkL p)) ++ (p.dests.take (k + 1)).flatMap (destL p))) (by rw [hml,destP_end,show ((((protoL p ++ lineW [wdFailures,Lib.itoa p.k]) ++ p.nodes.flatMap nodeL) ++ p.links.flatMap (linkL p)) ++ (p.dests.take (k + 1)).flatMap (destL p)) = _ ++ destL p _ by rw [flatS d0D hk2,← List.append_assoc],hdg]) ?_
    subst hKTw8
    exact ZA 0 (prDp p q b1 w) k (k + 1) [1,5,9] (⟨K9,M9,by omega⟩) (show p.dests.length - (k + 1) < p.dests.length - k by omega)
   have hkl : k = p.dests.length := by omega
   refine Zw 7 5 (sv ((((protoL p ++ lineW [wdFailures,Lib.itoa p.k]) ++ p.nodes.flatMap nodeL) ++ p.links.flatMap (linkL p)) ++ (p.dests.take k).flatMap (destL p))) (sv (((((protoL p ++ lineW [wdFailures,Lib.itoa p.k]) ++ p.nodes.flatMap nodeL) ++ p.links.flatMap (linkL p)) ++ p.dests.flatMap (destL p)) ++ (p.checks.take 0).flatMap (checkL p))) (by rw [hkl,List.take_length,show (((((protoL p ++ lineW [wdFailures,Lib.itoa p.k]) ++ p.nodes.flatMap nodeL) ++ p.links.flatMap (linkL p)) ++ p.dests.flatMap (destL p)) ++ (p.checks.take 0).flatMap (checkL p)) = ((((protoL p ++ lineW [wdFailures,Lib.itoa p.k]) ++ p.nodes.flatMap nodeL) ++ p.links.flatMap (linkL p)) ++ p.dests.flatMap (destL p)) by simp]) ?_
   refine ZLoop (prCp p q b1 w) (k' := (kEnd Y8 (ro1 9 [0,1,0]) [])) (body := (cAt Y8 (ro1 9 [0,1,0,0]))) (by kernel_rfl) 0 [1,5,11] (by kernel_rfl) (⟨Kw8,Mw8,Nat.zero_le _⟩) ?_
   rintro k wa ⟨Kwa,Mwa,hk⟩
   refine Zh 9 [.c 0 6] Mwa trivial ?_
   refine Zq 0 ((k:Int) < (p.checks.length:Int)) (fun hwa => ?_) (fun hwa => ?_)
   ·generalize hKTwa : ((.inv (LI 159 [] (prCp p q b1 w) k) :: (kEnd Y8 (ro1 9 [0,1,0]) [])) : List Fr) = KTwa
    have hk2 : k < p.checks.length := by omega
    have hmem := getD_mem' d0C hk2
    have hcb := hR.check _ hmem
    have hck := check_kind hcb
    have ha := hP.checks.addrE checkC_len (by decide) hk2
    have m5k := m5 k
    have mcl := hR.checkL_len hmem
    have rcl := rchk_line (p := p) hck.1
    rw [← rcl,List.length_append] at mcl
    refine Zs 3 [] [] trivial ?_
    refine ZB 11 (Fr.blk 9 :: (kAt (cAt Y8 (ro1 9 [0,1,0,0])) [1,1] KTwa)) 29 (opsAt (cAt (cAt Y8 (ro1 9 [0,1,0,0])) [1,0,0])) (fun w1 => Ext w1) ?_
    intro w33 hx34
    obtain ⟨hE35,hM36⟩ := Xt Kwa Mwa hx34
    refine dh [0,1,2,3,4,5,6] [.a 0 0 7,.c 0 6,.p (fun _ => (0 ≤ (k:Int) ∧ (k:Int) < (p.checks.length:Int))),.p (fun _ => (q.a4 : Option Addr) = some ⟨(slB q.a4),slO q.a4,none⟩),.p (fun w' => (w').cell? ⟨(slB q.a4),slO q.a4 + k * 5,none⟩ = some (iv ((p.checks.getD k d0C).kind))),.p (fun w' => (w').cell? ⟨(slB q.a4),slO q.a4 + k * 5 + 1,none⟩ = some (iv ((p.checks.getD k d0C).node))),.p (fun w' => (w').cell? ⟨(slB q.a4),slO q.a4 + k * 5 + 2,none⟩ = some (iv ((p.checks.getD k d0C).dest))),.p (fun w' => (w').cell? ⟨(slB q.a4),slO q.a4 + k * 5 + 3,none⟩ = some (iv ((p.checks.getD k d0C).limit))),.p (fun w' => (w').cell? ⟨(slB q.a4),slO q.a4 + k * 5 + 4,none⟩ = some (iv ((p.checks.getD k d0C).other))),.v (vC (p.checks.getD k d0C))] 4 (lb 11 127) hM36 (fun _ h => h) [] trivial [] (fun w' hS => (AC (by omega) (AC (by assumption) (AC (hS.cell (hE35.cell (cellAt checkC_len d0C hP.checks hk2 (j := 0) rfl))) (AC (hS.cell (hE35.cell (cellAt checkC_len d0C hP.checks hk2 (j := 1) rfl))) (AC (hS.cell (hE35.cell (cellAt checkC_len d0C hP.checks hk2 (j := 2) rfl))) (AC (hS.cell (hE35.cell (cellAt checkC_len d0C hP.checks hk2 (j := 3) rfl))) (A1 (hS.cell (hE35.cell (cellAt checkC_len d0C hP.checks hk2 (j := 4) rfl))))))))))) (Ext.refl _) ?_
    refine d1 7 ?_
    refine Wl E23 (rcheck_any p q (p.checks.getD k d0C) w33 (hP.ext hE35) hR hcb) ?_
    rintro _ wcp ⟨rfl,hxcp⟩
    obtain ⟨hE37,hM38⟩ := Xt hE35 hM36 hxcp
    refine ⟨hxcp,?_⟩
    refine dMore (Ext wcp) (fun w' h => Ext.trans hxcp h) ?_
    refine dx [8,9,10] [] 0 (lb 11 2047) (fun w' => [((((((protoL p ++ lineW [wdFailures,Lib.itoa p.k]) ++ p.nodes.flatMap nodeL) ++ p.links.flatMap (linkL p)) ++ p.dests.flatMap (destL p)) ++ (p.checks.take k).flatMap (checkL p))).length + (rchkT p (p.checks.getD k d0C)).length ≤ 9223372036854775807,((((((protoL p ++ lineW [wdFailures,Lib.itoa p.k]) ++ p.nodes.flatMap nodeL) ++ p.links.flatMap (linkL p)) ++ p.dests.flatMap (destL p)) ++ (p.checks.take k).flatMap (checkL p)) ++ (rchkT p (p.checks.getD k d0C))).length + ([59,10]).length ≤ 9223372036854775807]) (fun w' hS => (AC (by first | omega | (simp only [List.length_append,List.length_cons,List.length_nil]; omega)) (A1 (by first | omega | (simp only [List.length_append,List.length_cons,List.length_nil]; omega))))) (Ext.refl _) ?_
    refine ZD ?_
    refine Zs 6 [] [I64 ((k + 1:Nat):Int)] (A1 (i64 (by omega))) ?_
    refine Zw 0 5 (sv (((((((protoL p ++ lineW [wdFailures,Lib.itoa p.k]) ++ p.nodes.flatMap nodeL) ++ p.links.flatMap (linkL p)) ++ p.dests.flatMap (destL p)) ++ (p.checks.take k).flatMap (checkL p)) ++ (rchkT p (p.checks.getD k d0C))) ++ ([59,10]))) (sv (((((protoL p ++ lineW [wdFailures,Lib.itoa p.k]) ++ p.nodes.flatMap nodeL) ++ p.links.flatMap (linkL p)) ++ p.dests.flatMap (destL p)) ++ (p.checks.take (k + 1)).flatMap (checkL p))) (by rw [show (((((protoL p ++ lineW [wdFailures,Lib.itoa p.k]) ++ p.nodes.flatMap nodeL) ++ p.links.flatMap (linkL p)) ++ p.dests.flatMap (destL p)) ++ (p.checks.take (k + 1)).flatMap (checkL p)) = _ ++ checkL p _ by rw [flatS d0C hk2,← List.append_assoc],← rcl,← List.append_assoc]) ?_
    subst hKTwa
    exact ZA 0 (prCp p q b1 w) k (k + 1) [1,5,11] (⟨hE37,hM38,by omega⟩) (show p.checks.length - (k + 1) < p.checks.length - k by omega)
   have hkl : k = p.checks.length := by omega
   exact Z2 7 (sv (((((protoL p ++ lineW [wdFailures,Lib.itoa p.k]) ++ p.nodes.flatMap nodeL) ++ p.links.flatMap (linkL p)) ++ p.dests.flatMap (destL p)) ++ (p.checks.take k).flatMap (checkL p))) (iv 0) (⟨by unfold printB; rw [if_pos h0,hkl,List.take_length]; rfl,Kwa⟩)
 refine Zq 0 ((p.proto : Int) = (2 : Int)) (fun hpr => ?_) (fun hpr => ?_)
 ·refine Zh 3 [.c 0 1] hM7 trivial ?_
  refine Zl 0 E22 (digits_any p.cap w2 hcp.1 (by omega)) ?_
  rintro _ w3 ⟨rfl,hx3⟩
  obtain ⟨hE39,hM40⟩ := Xt hE6 hM7 hx3
  have hpt : protoL p = (([112,114,111,116,111,99,111,108,32,112,97,116,104,32] ++ Lib.itoa p.cap) ++ [59,10]) := by unfold protoL; rw [if_pos hpr]; simp [lineW,joinW,wdProtocol,wdPath]
  refine Zs 4 [] [([112,114,111,116,111,99,111,108,32,112,97,116,104,32]).length + (Lib.itoa p.cap).length ≤ 9223372036854775807,(([112,114,111,116,111,99,111,108,32,112,97,116,104,32]) ++ (Lib.itoa p.cap)).length + ([59,10]).length ≤ 9223372036854775807] (AC (by first | omega | (simp only [List.length_append,List.length_cons,List.length_nil]; omega)) (A1 (by first | omega | (simp only [List.length_append,List.length_cons,List.length_nil]; omega)))) ?_
  refine Zz 0 (kAt Y8 (ro1 5 []) []) [(1,pt b1 0),(2,sv ([])),(3,iv 0),(5,sv ((([112,114,111,116,111,99,111,108,32,112,97,116,104,32]) ++ (Lib.itoa p.cap)) ++ ([59,10])))] ?_
  refine ZEq (st' := (stz [(1,pt b1 0),(2,sv ([])),(3,iv 0),(5,sv (protoL p))])) (by rw [hpt]) ?_
  exact rest w3 hE39 hM40
 have hpt : protoL p = [112,114,111,116,111,99,111,108,32,118,101,99,116,111,114,59,10] := by unfold protoL; rw [if_neg hpr]; rfl
 refine Zz 1 (kAt Y8 (ro1 5 []) []) [(1,pt b1 0),(2,sv ([])),(3,iv 0),(5,sv ([112,114,111,116,111,99,111,108,32,118,101,99,116,111,114,59,10]))] ?_
 refine ZEq (st' := (stz [(1,pt b1 0),(2,sv ([])),(3,iv 0),(5,sv (protoL p))])) (by rw [hpt]) ?_
 exact rest w2 hE6 hM7

end Go.Proofs.YtcbclephakfemaaGreatRRRDoor
