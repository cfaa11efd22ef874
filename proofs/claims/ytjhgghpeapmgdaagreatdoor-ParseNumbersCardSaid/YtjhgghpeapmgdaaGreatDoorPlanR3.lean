/-
  PLAN: contracts of the reference's Digits, check and Print.
-/
import Derived.Test.YtjhgghpeapmgdaaGreatDoorPlanR2
import Derived.Test.YtjhgghpeapmgdaaGreatDoorMg2
namespace Go.Proofs.YtjhgghpeapmgdaaGreatDoor
open Go.Bk Go.Proofs

theorem nDigits_self (u : Nat) : Lib.nDigits u ≤ u + 1 := by
  induction u using Nat.strongRecOn with
  | _ u ih =>
    by_cases h : u < 10
    · rw [Lib.nDigits_small h]; omega
    · rw [Lib.nDigits_big h]
      have := ih (u / 10) (by omega)
      omega
theorem dec_short (u : Nat) : (Lib.decDigits u).length ≤ u + 1 := by rw [Lib.decDigits_length]; exact nDigits_self u

set_option maxRecDepth 20000 in
theorem digits_step (n : Nat) (w : World) (hn : n ≤ 9223372036854775807) (ih : ∀ m,m < n → ∀ w,Does Tryz.prog 35 [.int .i64 (m:Int)] w fun v w' => v = .string (bs (Lib.decDigits m)) ∧ Ext w w') :
    Does Tryz.prog 35 [iv (n:Int)] w (fun v w' => v = .string (bs (Lib.decDigits n)) ∧ Ext w w') := by
 refine startD (c := Y35) Tryz.func35 rfl (by kernel_rfl) ?_
 show G _ 18 [] _ (kAt Y35 [] []) (stz [(0,iv (n:Int))]) w
 have hE1 : Ext w w := Ext.refl w
 refine sgz 10 [] (kOp Y35 [1,0] 4 []) [(0,iv (n:Int)),(2,sv ([])),(7,.int .u8 ((48 + (n % 10):Nat):Int))] [(0 ≤ (n:Int) ∧ 0 < (10 : Int)),I64 ((48 + (n % 10):Nat):Int),(0 ≤ ((48 + (n % 10):Nat):Int) ∧ ((48 + (n % 10):Nat):Int) ≤ 255)] (AC (by omega) (AC (i64 (by omega)) (A1 (by omega)))) ?_
 refine os0 (.bslice 41 1 [(0,.int .u8 ((48 + (n % 10):Nat):Int))]) (some 8) (kOp Y35 [1,0] 5 []) (runs_bslice (cs := [.int .u8 ((48 + (n % 10):Nat):Int)]) (e := 5) (by kernel_rfl)) ?_
 rintro _ w1 ⟨b1,rfl,hN2⟩
 have hl3 : w.heap.size ≤ b1 := by have := hE1.le; have := hN2.lo; omega
 have hE4 := hE1.trans hN2.ext
 have ho5 := hN2.own
 obtain ⟨d,hd⟩ : ∃ d : UInt8,UInt8.ofNat (48 + n % 10) = d := ⟨_,rfl⟩
 have hdn : d.toNat = 48 + n % 10 := by rw [← hd]; simp; omega
 refine os0 (.conv 41 9 (.slice (some ⟨b1,0,none⟩) 1 1)) (some 9) (kOp Y35 [1,0] 6 []) (runs_conv_bytes (l := [d]) (e := 5) (by kernel_rfl) (by kernel_rfl) (by kernel_rfl) rfl (fun j hj => by have : j = 0 := (by omega); subst this; rw [List.getD_cons_zero,hdn]; exact cell_of ho5 rfl)) ?_
 rintro _ _ ⟨rfl,rfl⟩
 refine sg0 8 (kAt Y35 [1,1,0,1] []) [(0,iv (n:Int)),(2,sv ([])),(3,sv ([d])),(11,.bool (decide ((10 : Int) ≤ (n:Int))))] ?_
 refine brd ((10 : Int) ≤ (n:Int)) (fun h => ?_) (fun h => ?_)
 ·refine sgz 4 [] (kOp Y35 [1,1,0,1,0,0] 2 []) [(2,sv ([])),(3,sv ([d])),(13,iv ((n / 10:Nat):Int))] [(0 ≤ (n:Int) ∧ 0 < (10 : Int) ∧ (-9223372036854775808 ≤ ((n / 10:Nat):Int) ∧ ((n / 10:Nat):Int) ≤ 9223372036854775807))] (A1 (by omega)) ?_
  refine os0 _ (some 14) (kOp Y35 [1,1,0,1,0,0] 3 []) (runs_call E35 (ih (n / 10) (by omega) w1)) ?_
  rintro _ w2 ⟨rfl,hx⟩
  have hE6 := hE4.trans hx
  refine sgz 4 [] (kAt Y35 [1,1,0,1,0,1] []) [(2,sv ((Lib.decDigits (n / 10)) ++ ([d]))),(3,sv ([d]))] [(Lib.decDigits (n / 10)).length + ([d]).length ≤ 9223372036854775807] (A1 (by have := dec_short (n / 10); simp only [List.length_singleton]; omega)) ?_
  exact ret1 (sv ((Lib.decDigits (n / 10)) ++ ([d]))) (⟨by rw [Lib.decDigits.eq_1 n,dif_neg (by omega),hd],hE6⟩)
 refine sg0 6 (kAt Y35 (ro1 4 []) []) [(2,sv ([d]))] ?_
 exact ret1 (sv ([d])) (⟨by rw [Lib.decDigits_one (by omega),← hd,Nat.mod_eq_of_lt (by omega)],hE4⟩)

theorem digits_nat : ∀ (n : Nat) (w : World),n ≤ 9223372036854775807 → Does Tryz.prog 35 [.int .i64 (n:Int)] w fun v w' => v = .string (bs (Lib.decDigits n)) ∧ Ext w w' := by
  intro n
  induction n using Nat.strongRecOn with
  | _ n ih =>
    intro w hn
    exact digits_step n w hn (fun m hm w => ih m hm w (by omega))
theorem digits_any (n : Int) (w : World) (h0 : 0 ≤ n) (h1 : n ≤ 65535) : Does Tryz.prog 35 [.int .i64 n] w fun v w' => v = .string (bs (Lib.itoa n)) ∧ Ext w w' := by
  have h := digits_nat n.toNat w (by omega)
  rw [show (n.toNat:Int) = n by omega] at h
  rw [itoa_nat h0]
  exact h

def rchkT (p : PPlan) (c : PCheck) : Bytes :=
  if c.kind = 1 then (([99,104,101,99,107,32,114,101,97,99,104,32] ++ nmN p c.node) ++ [32]) ++ nmD p c.dest
  else if c.kind = 2 then (((([99,104,101,99,107,32,119,105,116,104,105,110,32] ++ nmN p c.node) ++ [32]) ++ nmD p c.dest) ++ [32]) ++ Lib.itoa c.limit
  else if c.kind = 3 then (((([99,104,101,99,107,32,119,97,121,112,111,105,110,116,32] ++ nmN p c.node) ++ [32]) ++ nmD p c.dest) ++ [32]) ++ nmN p c.other
  else (((([99,104,101,99,107,32,101,113,117,97,108,32] ++ nmN p c.node) ++ [32]) ++ nmN p c.other) ++ [32]) ++ nmD p c.dest
theorem rchk_line {p : PPlan} {c : PCheck} (h : 1 ≤ c.kind ∧ c.kind ≤ 4) : rchkT p c ++ [59,10] = checkL p c := by
  unfold rchkT checkL
  rcases (show c.kind = 1 ∨ c.kind = 2 ∨ c.kind = 3 ∨ c.kind = 4 by omega) with e | e | e | e <;> simp [e,lineW,joinW,wdCheck,wdReach,wdWithin,wdWaypoint,wdEqual]
theorem node_line (s : Bytes) (x : PNode) : ((((s ++ [110,111,100,101,32]) ++ x.name) ++ [32]) ++ Lib.itoa x.asn) ++ [59,10] = s ++ nodeL x := by simp [nodeL,lineW,joinW,wdNode]
theorem link_line (s : Bytes) (p : PPlan) (x : PLink) : ((((((s ++ [108,105,110,107,32]) ++ nmN p x.a) ++ [32]) ++ nmN p x.b) ++ [32]) ++ Lib.itoa x.cost) ++ [59,10] = s ++ linkL p x := by simp [linkL,lineW,joinW,wdLink]
theorem join_app : ∀ (ws : List Bytes) (w v : Bytes),joinW (w :: ws) ++ 32 :: v = joinW ((w :: ws) ++ [v])
  | [],w,v => by simp [joinW]
  | u :: r,w,v => by
    have := join_app r u v
    rw [joinW,List.append_assoc,List.cons_append,this]
    · rfl
    · intro h; cases h
def destP (p : PPlan) (d : PDest) (k : Nat) : Bytes := joinW ([wdDest,d.name,wdAt] ++ (d.origins.take k).map (nmN p))
theorem destP_zero (s : Bytes) (p : PPlan) (d : PDest) : ((s ++ [100,101,115,116,32]) ++ d.name) ++ [32,97,116] = s ++ destP p d 0 := by simp [destP,joinW,wdDest,wdAt]
theorem destP_step (s : Bytes) (p : PPlan) (d : PDest) {k : Nat} (h : k < d.origins.length) : ((s ++ destP p d k) ++ [32]) ++ nmN p (d.origins.getD k 0) = s ++ destP p d (k + 1) := by
  have := join_app ([d.name,wdAt] ++ (d.origins.take k).map (nmN p)) wdDest (nmN p (d.origins.getD k 0))
  unfold destP
  rw [take_succ_getD' 0 h,List.map_append]
  simp only [List.cons_append,List.nil_append,List.append_assoc,List.map_cons,List.map_nil] at this ⊢
  rw [this]
theorem destP_end (s : Bytes) (p : PPlan) (d : PDest) : (s ++ destP p d d.origins.length) ++ [59,10] = s ++ destL p d := by
  unfold destP destL lineW
  rw [List.take_length,List.append_assoc]
theorem destP_len {p : PPlan} (hR : RightP p) {d : PDest} (hd : d ∈ p.dests) (k : Nat) : (destP p d k).length ≤ 300 := by
  have h1 := joinW_len (m := 12) ([wdDest,d.name,wdAt] ++ (d.origins.take k).map (nmN p)) (fun x hx => by
    simp only [List.mem_append,List.mem_cons,List.not_mem_nil,or_false,List.mem_map] at hx
    rcases hx with (rfl | rfl | rfl) | ⟨i,_,rfl⟩
    · decide
    · exact hR.nameD hd
    · decide
    · exact hR.nmN_len i)
  have h2 := orig_count (hR.dest d hd).1
  have h3 := hR.n1
  unfold destP
  simp only [List.length_append,List.length_cons,List.length_nil,List.length_map,List.length_take] at h1
  omega
theorem flatS {α : Type} {f : α → Bytes} (d : α) {l : List α} {k : Nat} (h : k < l.length) : (l.take (k + 1)).flatMap f = (l.take k).flatMap f ++ f (l.getD k d) := by rw [take_succ_getD' d h]; simp

set_option maxRecDepth 20000 in
set_option maxHeartbeats 1000000 in
theorem rcheck_any (p : PPlan) (q : PAd) (c : PCheck) (w : World) (hP : PlanAt w p q) (hR : RightP p) (hc : checkB p c = true) :
    Does Tryz.prog 36 [(pv p q),(vC c)] w (fun v w' => v = .string (bs (rchkT p c)) ∧ Ext w w') := by
 refine startD (c := Y36) Tryz.func36 rfl (by kernel_rfl) ?_
 show G _ 72 [] _ (kAt Y36 [] []) (stz [(0,(pv p q)),(1,(vC c))]) w
 have hq := hP.dlen
 have hn0 := hR.n0
 have hcb := checkN_bounds (n := p.nodes.length) (d := p.dests.length) (by omega) hc
 obtain ⟨c1,c2,c3,c4,c5,c6⟩ := hcb
 have hn1 : c.node.toNat < p.nodes.length := by omega
 have hn2 : c.dest.toNat < q.ds.length := by omega
 have hn3 : c.other.toNat < p.nodes.length := by omega
 have ha := hP.nodes.addrE nodeC_len (by decide) hn1
 have hb := hP.dests.addrE destC_len (by decide) hn2
 have e1 := hR.nmN_len c.node
 have e2 := hR.nmN_len c.other
 have e3 := hR.nmD_len c.dest
 have e4 := itoa_len c3.1 c3.2
 have hdn : (q.ds.getD c.dest.toNat d0A).d.name = nmD p c.dest := by rw [hP.dget]; rfl
 have hE1 : Ext w w := Ext.refl w
 have hM2 : Hold w w.heap.size [] := Hold.nil hE1.le
 refine sg0 2 (kOp Y36 [0] 0 []) [(0,(pv p q)),(1,(vC c))] ?_
 refine os0 (.box 29 (pv p q)) (some 2) (kOp Y36 [0] 1 []) (runs_box _ _) ?_
 rintro _ w1 ⟨b1,rfl,hN3⟩
 have hE4 := hE1.trans hN3.ext
 have hM5 := hM2.new hN3
 refine os0 (.box 67 (vC c)) (some 3) (kOp Y36 [0] 2 []) (runs_box _ _) ?_
 rintro _ w2 ⟨b2,rfl,hN6⟩
 have hE7 := hE4.trans hN6.ext
 have hM8 := hM5.new hN6
 refine sgz 36 [.ld (.slice q.a1 p.nodes.length q.c1),.ld (iv c.node),.ld (sv (nmN p c.node)),.ld (.slice q.a3 p.dests.length q.c3),.ld (iv c.dest),.ld (sv (nmD p c.dest)),.ld (iv c.kind)] (kAt Y36 [1,1,1,0,1,0,1] []) [(2,pt b1 0),(3,pt b2 0),(4,sv ([])),(5,sv (nmN p c.node)),(6,sv (nmD p c.dest)),(22,iv c.kind),(23,.bool (decide ((c.kind : Int) = (1 : Int))))] [cl w2 b1 3 (.slice q.a1 p.nodes.length q.c1),cl w2 b2 1 (iv c.node),(0 ≤ c.node ∧ c.node < (p.nodes.length:Int)),(q.a1 : Option Addr) = some ⟨(slB q.a1),slO q.a1,none⟩,cl w2 (slB q.a1) (slO q.a1 + ((c.node).toNat) * 2) (sv (nmN p c.node)),cl w2 b1 5 (.slice q.a3 p.dests.length q.c3),cl w2 b2 2 (iv c.dest),(0 ≤ c.dest ∧ c.dest < (p.dests.length:Int)),(q.a3 : Option Addr) = some ⟨(slB q.a3),slO q.a3,none⟩,cl w2 (slB q.a3) (slO q.a3 + ((c.dest).toNat) * 2) (sv (nmD p c.dest)),cl w2 b2 0 (iv c.kind)] (AC (cell_of (hM8.blk 1 rfl) rfl) (AC (cell_of (hM8.blk 0 rfl) rfl) (AC (by omega) (AC (by assumption) (AC (hE7.cell (cellAt nodeC_len d0N hP.nodes hn1 (j := 0) rfl)) (AC (cell_of (hM8.blk 1 rfl) rfl) (AC (cell_of (hM8.blk 0 rfl) rfl) (AC (by omega) (AC (by assumption) (AC (hE7.cell (by rw [← hdn]; exact cellAt destC_len d0A hP.dests hn2 (j := 0) rfl)) (A1 (cell_of (hM8.blk 0 rfl) rfl)))))))))))) ?_
 refine brd ((c.kind : Int) = (1 : Int)) (fun k1 => ?_) (fun k1 => ?_)
 ·refine sgz 9 [] (kAt Y36 [1,1,1,0,1,0,1,0,1] []) [(2,pt b1 0),(3,pt b2 0),(4,sv (((([99,104,101,99,107,32,114,101,97,99,104,32]) ++ (nmN p c.node)) ++ ([32])) ++ (nmD p c.dest))),(5,sv (nmN p c.node)),(6,sv (nmD p c.dest))] [([99,104,101,99,107,32,114,101,97,99,104,32]).length + (nmN p c.node).length ≤ 9223372036854775807,(([99,104,101,99,107,32,114,101,97,99,104,32]) ++ (nmN p c.node)).length + ([32]).length ≤ 9223372036854775807,((([99,104,101,99,107,32,114,101,97,99,104,32]) ++ (nmN p c.node)) ++ ([32])).length + (nmD p c.dest).length ≤ 9223372036854775807] (AC (by first | omega | (simp only [List.length_append,List.length_cons,List.length_nil]; omega)) (AC (by first | omega | (simp only [List.length_append,List.length_cons,List.length_nil]; omega)) (A1 (by first | omega | (simp only [List.length_append,List.length_cons,List.length_nil]; omega))))) ?_
  exact ret1 (sv (((([99,104,101,99,107,32,114,101,97,99,104,32]) ++ (nmN p c.node)) ++ ([32])) ++ (nmD p c.dest))) (⟨by unfold rchkT; rw [if_pos k1],hE7⟩)
 refine sg0 5 (kAt Y36 [1,1,1,0,1,0,1,1,1] []) [(2,pt b1 0),(3,pt b2 0),(4,sv ([])),(5,sv (nmN p c.node)),(6,sv (nmD p c.dest)),(22,iv c.kind),(30,.bool (decide ((c.kind : Int) = (2 : Int))))] ?_
 refine brd ((c.kind : Int) = (2 : Int)) (fun k2 => ?_) (fun k2 => ?_)
 ·refine sgz 10 [.ld (iv c.limit)] (kOp Y36 [1,1,1,0,1,0,1,1,1,0,0] 8 []) [(2,pt b1 0),(3,pt b2 0),(4,sv ([])),(5,sv (nmN p c.node)),(6,sv (nmD p c.dest)),(37,sv ((((([99,104,101,99,107,32,119,105,116,104,105,110,32]) ++ (nmN p c.node)) ++ ([32])) ++ (nmD p c.dest)) ++ ([32]))),(39,iv c.limit)] [([99,104,101,99,107,32,119,105,116,104,105,110,32]).length + (nmN p c.node).length ≤ 9223372036854775807,(([99,104,101,99,107,32,119,105,116,104,105,110,32]) ++ (nmN p c.node)).length + ([32]).length ≤ 9223372036854775807,((([99,104,101,99,107,32,119,105,116,104,105,110,32]) ++ (nmN p c.node)) ++ ([32])).length + (nmD p c.dest).length ≤ 9223372036854775807,(((([99,104,101,99,107,32,119,105,116,104,105,110,32]) ++ (nmN p c.node)) ++ ([32])) ++ (nmD p c.dest)).length + ([32]).length ≤ 9223372036854775807,cl w2 b2 3 (iv c.limit)] (AC (by first | omega | (simp only [List.length_append,List.length_cons,List.length_nil]; omega)) (AC (by first | omega | (simp only [List.length_append,List.length_cons,List.length_nil]; omega)) (AC (by first | omega | (simp only [List.length_append,List.length_cons,List.length_nil]; omega)) (AC (by first | omega | (simp only [List.length_append,List.length_cons,List.length_nil]; omega)) (A1 (cell_of (hM8.blk 0 rfl) rfl)))))) ?_
  refine os0 _ (some 40) (kOp Y36 [1,1,1,0,1,0,1,1,1,0,0] 9 []) (runs_call E35 (digits_any c.limit w2 c3.1 c3.2)) ?_
  rintro _ w3 ⟨rfl,hx3⟩
  have hE9 := hE7.trans hx3
  have hM10 := hM8.ext hx3
  refine sgz 3 [] (kAt Y36 [1,1,1,0,1,0,1,1,1,0,1] []) [(2,pt b1 0),(3,pt b2 0),(4,sv (((((([99,104,101,99,107,32,119,105,116,104,105,110,32]) ++ (nmN p c.node)) ++ ([32])) ++ (nmD p c.dest)) ++ ([32])) ++ (Lib.itoa c.limit))),(5,sv (nmN p c.node)),(6,sv (nmD p c.dest))] [((((([99,104,101,99,107,32,119,105,116,104,105,110,32]) ++ (nmN p c.node)) ++ ([32])) ++ (nmD p c.dest)) ++ ([32])).length + (Lib.itoa c.limit).length ≤ 9223372036854775807] (A1 (by first | omega | (simp only [List.length_append,List.length_cons,List.length_nil]; omega))) ?_
  exact ret1 (sv (((((([99,104,101,99,107,32,119,105,116,104,105,110,32]) ++ (nmN p c.node)) ++ ([32])) ++ (nmD p c.dest)) ++ ([32])) ++ (Lib.itoa c.limit))) (⟨by unfold rchkT; rw [if_neg k1,if_pos k2],hE9⟩)
 refine sg0 5 (kAt Y36 [1,1,1,0,1,0,1,1,1,1,1] []) [(2,pt b1 0),(3,pt b2 0),(4,sv ([])),(5,sv (nmN p c.node)),(6,sv (nmD p c.dest)),(42,.bool (decide ((c.kind : Int) = (3 : Int))))] ?_
 refine brd ((c.kind : Int) = (3 : Int)) (fun k3 => ?_) (fun k3 => ?_)
 ·refine sgz 18 [.ld (.slice q.a1 p.nodes.length q.c1),.ld (iv c.other),.ld (sv (nmN p c.other))] (kAt Y36 [1,1,1,0,1,0,1,1,1,1,1,0,1] []) [(2,pt b1 0),(3,pt b2 0),(4,sv (((((([99,104,101,99,107,32,119,97,121,112,111,105,110,116,32]) ++ (nmN p c.node)) ++ ([32])) ++ (nmD p c.dest)) ++ ([32])) ++ (nmN p c.other))),(5,sv (nmN p c.node)),(6,sv (nmD p c.dest))] [([99,104,101,99,107,32,119,97,121,112,111,105,110,116,32]).length + (nmN p c.node).length ≤ 9223372036854775807,(([99,104,101,99,107,32,119,97,121,112,111,105,110,116,32]) ++ (nmN p c.node)).length + ([32]).length ≤ 9223372036854775807,((([99,104,101,99,107,32,119,97,121,112,111,105,110,116,32]) ++ (nmN p c.node)) ++ ([32])).length + (nmD p c.dest).length ≤ 9223372036854775807,(((([99,104,101,99,107,32,119,97,121,112,111,105,110,116,32]) ++ (nmN p c.node)) ++ ([32])) ++ (nmD p c.dest)).length + ([32]).length ≤ 9223372036854775807,cl w2 b1 3 (.slice q.a1 p.nodes.length q.c1),cl w2 b2 4 (iv c.other),(0 ≤ c.other ∧ c.other < (p.nodes.length:Int)),(q.a1 : Option Addr) = some ⟨(slB q.a1),slO q.a1,none⟩,cl w2 (slB q.a1) (slO q.a1 + ((c.other).toNat) * 2) (sv (nmN p c.other)),((((([99,104,101,99,107,32,119,97,121,112,111,105,110,116,32]) ++ (nmN p c.node)) ++ ([32])) ++ (nmD p c.dest)) ++ ([32])).length + (nmN p c.other).length ≤ 9223372036854775807] (AC (by first | omega | (simp only [List.length_append,List.length_cons,List.length_nil]; omega)) (AC (by first | omega | (simp only [List.length_append,List.length_cons,List.length_nil]; omega)) (AC (by first | omega | (simp only [List.length_append,List.length_cons,List.length_nil]; omega)) (AC (by first | omega | (simp only [List.length_append,List.length_cons,List.length_nil]; omega)) (AC (cell_of (hM8.blk 1 rfl) rfl) (AC (cell_of (hM8.blk 0 rfl) rfl) (AC (by omega) (AC (by assumption) (AC (hE7.cell (cellAt nodeC_len d0N hP.nodes hn3 (j := 0) rfl)) (A1 (by first | omega | (simp only [List.length_append,List.length_cons,List.length_nil]; omega)))))))))))) ?_
  exact ret1 (sv (((((([99,104,101,99,107,32,119,97,121,112,111,105,110,116,32]) ++ (nmN p c.node)) ++ ([32])) ++ (nmD p c.dest)) ++ ([32])) ++ (nmN p c.other))) (⟨by unfold rchkT; rw [if_neg k1,if_neg k2,if_pos k3],hE7⟩)
 refine sgz 20 [.ld (.slice q.a1 p.nodes.length q.c1),.ld (iv c.other),.ld (sv (nmN p c.other))] (kAt Y36 (ro1 5 []) []) [(4,sv (((((([99,104,101,99,107,32,101,113,117,97,108,32]) ++ (nmN p c.node)) ++ ([32])) ++ (nmN p c.other)) ++ ([32])) ++ (nmD p c.dest)))] [([99,104,101,99,107,32,101,113,117,97,108,32]).length + (nmN p c.node).length ≤ 9223372036854775807,(([99,104,101,99,107,32,101,113,117,97,108,32]) ++ (nmN p c.node)).length + ([32]).length ≤ 9223372036854775807,cl w2 b1 3 (.slice q.a1 p.nodes.length q.c1),cl w2 b2 4 (iv c.other),(0 ≤ c.other ∧ c.other < (p.nodes.length:Int)),(q.a1 : Option Addr) = some ⟨(slB q.a1),slO q.a1,none⟩,cl w2 (slB q.a1) (slO q.a1 + ((c.other).toNat) * 2) (sv (nmN p c.other)),((([99,104,101,99,107,32,101,113,117,97,108,32]) ++ (nmN p c.node)) ++ ([32])).length + (nmN p c.other).length ≤ 9223372036854775807,(((([99,104,101,99,107,32,101,113,117,97,108,32]) ++ (nmN p c.node)) ++ ([32])) ++ (nmN p c.other)).length + ([32]).length ≤ 9223372036854775807,((((([99,104,101,99,107,32,101,113,117,97,108,32]) ++ (nmN p c.node)) ++ ([32])) ++ (nmN p c.other)) ++ ([32])).length + (nmD p c.dest).length ≤ 9223372036854775807] (AC (by first | omega | (simp only [List.length_append,List.length_cons,List.length_nil]; omega)) (AC (by first | omega | (simp only [List.length_append,List.length_cons,List.length_nil]; omega)) (AC (cell_of (hM8.blk 1 rfl) rfl) (AC (cell_of (hM8.blk 0 rfl) rfl) (AC (by omega) (AC (by assumption) (AC (hE7.cell (cellAt nodeC_len d0N hP.nodes hn3 (j := 0) rfl)) (AC (by first | omega | (simp only [List.length_append,List.length_cons,List.length_nil]; omega)) (AC (by first | omega | (simp only [List.length_append,List.length_cons,List.length_nil]; omega)) (A1 (by first | omega | (simp only [List.length_append,List.length_cons,List.length_nil]; omega)))))))))))) ?_
 exact ret1 (sv (((((([99,104,101,99,107,32,101,113,117,97,108,32]) ++ (nmN p c.node)) ++ ([32])) ++ (nmN p c.other)) ++ ([32])) ++ (nmD p c.dest))) (⟨by unfold rchkT; rw [if_neg k1,if_neg k2,if_neg k3],hE7⟩)

def prNp (p : PPlan) (q : PAd) (b1 : Nat) (w : World) : Lp Nat where
  S := fun k => [(1,none,pt b1 0),(5,none,sv ((protoL p ++ lineW [wdFailures,Lib.itoa p.k]) ++ (p.nodes.take k).flatMap nodeL)),(6,none,iv (k:Int))]
  J := fun k w' => Ext w w' ∧ Hold w' w.heap.size [.blk b1 (pc p q) 29] ∧ k ≤ p.nodes.length
  M := fun k => p.nodes.length - k
def prLp (p : PPlan) (q : PAd) (b1 : Nat) (w : World) : Lp Nat where
  S := fun k => [(1,none,pt b1 0),(5,none,sv (((protoL p ++ lineW [wdFailures,Lib.itoa p.k]) ++ p.nodes.flatMap nodeL) ++ (p.links.take k).flatMap (linkL p))),(7,none,iv (k:Int))]
  J := fun k w' => Ext w w' ∧ Hold w' w.heap.size [.blk b1 (pc p q) 29] ∧ k ≤ p.links.length
  M := fun k => p.links.length - k
def prDp (p : PPlan) (q : PAd) (b1 : Nat) (w : World) : Lp Nat where
  S := fun k => [(1,none,pt b1 0),(5,none,sv ((((protoL p ++ lineW [wdFailures,Lib.itoa p.k]) ++ p.nodes.flatMap nodeL) ++ p.links.flatMap (linkL p)) ++ (p.dests.take k).flatMap (destL p))),(9,none,iv (k:Int))]
  J := fun k w' => Ext w w' ∧ Hold w' w.heap.size [.blk b1 (pc p q) 29] ∧ k ≤ p.dests.length
  M := fun k => p.dests.length - k
def prOp (p : PPlan) (q : PAd) (b1 : Nat) (w : World) (k : Nat) : Lp Nat where
  S := fun m => [(1,none,pt b1 0),(5,none,sv (((((protoL p ++ lineW [wdFailures,Lib.itoa p.k]) ++ p.nodes.flatMap nodeL) ++ p.links.flatMap (linkL p)) ++ (p.dests.take k).flatMap (destL p)) ++ destP p (q.ds.getD k d0A).d m)),(9,none,iv (k:Int)),(10,none,iv (m:Int))]
  J := fun m w' => Ext w w' ∧ Hold w' w.heap.size [.blk b1 (pc p q) 29] ∧ m ≤ (q.ds.getD k d0A).d.origins.length
  M := fun m => (q.ds.getD k d0A).d.origins.length - m
def prCp (p : PPlan) (q : PAd) (b1 : Nat) (w : World) : Lp Nat where
  S := fun k => [(1,none,pt b1 0),(5,none,sv (((((protoL p ++ lineW [wdFailures,Lib.itoa p.k]) ++ p.nodes.flatMap nodeL) ++ p.links.flatMap (linkL p)) ++ p.dests.flatMap (destL p)) ++ (p.checks.take k).flatMap (checkL p))),(11,none,iv (k:Int))]
  J := fun k w' => Ext w w' ∧ Hold w' w.heap.size [.blk b1 (pc p q) 29] ∧ k ≤ p.checks.length
  M := fun k => p.checks.length - k
set_option maxRecDepth 20000 in
set_option maxHeartbeats 2000000 in
theorem rPrint_any (p : PPlan) (q : PAd) (w : World) (hP : PlanAt w p q) :
    Does Tryz.prog 16 [(pv p q)] w (fun v w' => v = .tuple #[.string (bs (printB p).1),.int .i64 (printB p).2] ∧ Ext w w') := by
 refine startD (c := Y16) Tryz.func16 rfl (by kernel_rfl) ?_
 show G _ 159 [] _ (kAt Y16 [] []) (stz [(0,(pv p q))]) w
 have hq := hP.dlen
 have hl1 := hP.l1
 have hl2 := hP.l2
 have hl3 := hP.l3
 have hl4 := hP.l4
 have hE1 : Ext w w := Ext.refl w
 have hM2 : Hold w w.heap.size [] := Hold.nil hE1.le
 refine sg0 2 (kOp Y16 [0] 0 []) [(0,(pv p q))] ?_
 refine os0 (.box 29 (pv p q)) (some 1) (kOp Y16 [0] 1 []) (runs_box _ _) ?_
 rintro _ w1 ⟨b1,rfl,hN3⟩
 have hE4 := hE1.trans hN3.ext
 have hM5 := hM2.new hN3
 refine sgz 6 [.ld (pv p q)] (kOp Y16 [1,0] 1 []) [(1,pt b1 0),(2,sv ([])),(3,iv 0),(12,(pv p q))] [cl w1 b1 0 (iv p.proto),cl w1 b1 1 (iv p.cap),cl w1 b1 2 (iv p.k),cl w1 b1 3 (.slice q.a1 p.nodes.length q.c1),cl w1 b1 4 (.slice q.a2 p.links.length q.c2),cl w1 b1 5 (.slice q.a3 p.dests.length q.c3),cl w1 b1 6 (.slice q.a4 p.checks.length q.c4)] (AC (cell_of (hM5.blk 0 rfl) rfl) (AC (cell_of (hM5.blk 0 rfl) rfl) (AC (cell_of (hM5.blk 0 rfl) rfl) (AC (cell_of (hM5.blk 0 rfl) rfl) (AC (cell_of (hM5.blk 0 rfl) rfl) (AC (cell_of (hM5.blk 0 rfl) rfl) (A1 (cell_of (hM5.blk 0 rfl) rfl)))))))) ?_
 refine os0 _ (some 13) (kOp Y16 [1,0] 2 []) (runs_call E18 (rRight_any p q w1 (hP.ext hE4))) ?_
 rintro _ w2 ⟨rfl,hx2⟩
 have hE6 := hE4.trans hx2
 have hM7 := hM5.ext hx2
 refine sg0 8 (kAt Y16 [1,1,0,1] []) [(1,pt b1 0),(2,sv ([])),(3,iv 0),(15,.bool (!(rightB p)))] ?_
 refine brk _ (¬ ((rightB p) = true)) ((iffNot Iff.rfl)) (fun h0 => ?_) (fun h0 => ?_)
 ·refine sg0 5 (kAt Y16 [1,1,0,1,0,1] []) [(1,pt b1 0),(2,sv ([])),(3,iv 1)] ?_
  exact ret2 (sv ([])) (iv 1) (⟨by unfold printB; rw [if_neg h0],hE6⟩)
 have h0 : rightB p = true := Classical.not_not.1 h0
 have hR := rightB_iff.1 h0
 have m0 := hR.protoL_len
 have m1 := hR.failL_len
 have m2 := hR.flatN_len
 have m3 := hR.flatL_len
 have m4 := hR.flatD_len
 have m5 := hR.flatC_len
 have hcp := hR.cap_len
 have hk0 := hR.k0
 have hk1 := hR.k1
 have rc1 := hR.c1
 have rd1 := hR.d1
 have rl1 := hR.l1
 have rn1 := hR.n1
 have m2e := m2 p.nodes.length
 rw [List.take_length] at m2e
 have m3e := m3 p.links.length
 rw [List.take_length] at m3e
 have m4e := m4 p.dests.length
 rw [List.take_length] at m4e
 have m5e := m5 p.checks.length
 rw [List.take_length] at m5e
 have hik := itoa_len hk0 (by omega)
 have hic := itoa_len hcp.1 (by omega)
 refine sgz 12 [.ld (iv p.proto)] (kAt Y16 (ro1 4 [0,1]) []) [(1,pt b1 0),(2,sv ([])),(3,iv 0),(5,sv ([112,114,111,116,111,99,111,108,32,118,101,99,116,111,114,59,10])),(18,.bool (decide ((p.proto : Int) = (2 : Int))))] [cl w2 b1 0 (iv p.proto)] (A1 (cell_of (hM7.blk 0 rfl) rfl)) ?_
 have rest : ∀ wz : World,Ext w wz → Hold wz w.heap.size [.blk b1 ((pc p q)) 29] → G Tryz.prog 159 [] (bodyPost Tryz.prog Tryz.f16 (Ret fun v w' => v = .tuple #[.string (bs (printB p).1),.int .i64 (printB p).2] ∧ Ext w w')) (kAt Y16 (ro1 5 []) []) (stz [(1,pt b1 0),(2,sv ([])),(3,iv 0),(5,sv (protoL p))]) wz := by
   intro wz hEz hMz
   refine sgz 6 [.ld (iv p.k)] (kOp Y16 (ro1 5 [0]) 4 []) [(1,pt b1 0),(2,sv ([])),(3,iv 0),(5,sv (protoL p)),(25,sv ((protoL p) ++ ([102,97,105,108,117,114,101,115,32]))),(27,iv p.k)] [(protoL p).length + ([102,97,105,108,117,114,101,115,32]).length ≤ 9223372036854775807,cl wz b1 2 (iv p.k)] (AC (by first | omega | (simp only [List.length_append,List.length_cons,List.length_nil]; omega)) (A1 (cell_of (hMz.blk 0 rfl) rfl))) ?_
   refine os0 _ (some 28) (kOp Y16 (ro1 5 [0]) 5 []) (runs_call E35 (digits_any p.k wz hk0 (by omega))) ?_
   rintro _ wkp ⟨rfl,hxkp⟩
   have hE8 := hEz.trans hxkp
   have hM9 := hMz.ext hxkp
   refine sgz 10 [] (kAt Y16 (ro1 6 [0,1,0]) []) [(1,pt b1 0),(2,sv ([])),(3,iv 0),(5,sv ((((protoL p) ++ ([102,97,105,108,117,114,101,115,32])) ++ (Lib.itoa p.k)) ++ ([59,10]))),(6,iv 0)] [((protoL p) ++ ([102,97,105,108,117,114,101,115,32])).length + (Lib.itoa p.k).length ≤ 9223372036854775807,(((protoL p) ++ ([102,97,105,108,117,114,101,115,32])) ++ (Lib.itoa p.k)).length + ([59,10]).length ≤ 9223372036854775807] (AC (by first | omega | (simp only [List.length_append,List.length_cons,List.length_nil]; omega)) (A1 (by first | omega | (simp only [List.length_append,List.length_cons,List.length_nil]; omega)))) ?_
   refine stEq (st' := (stz [(1,pt b1 0),(2,sv ([])),(3,iv 0),(5,sv ((protoL p ++ lineW [wdFailures,Lib.itoa p.k]) ++ (p.nodes.take 0).flatMap nodeL)),(6,iv 0)])) (by rw [show ((protoL p ++ lineW [wdFailures,Lib.itoa p.k]) ++ (p.nodes.take 0).flatMap nodeL) = (((protoL p) ++ [102,97,105,108,117,114,101,115,32]) ++ Lib.itoa p.k) ++ [59,10] by simp [lineW,joinW,wdFailures,List.append_assoc]]) ?_
   refine loopR (prNp p q b1 w) (k' := (kEnd Y16 (ro1 6 [0,1,0]) [])) (body := (cAt Y16 (ro1 6 [0,1,0,0]))) (by kernel_rfl) 0 [1,5,6] (by kernel_rfl) (⟨hE8,hM9,Nat.zero_le _⟩) ?_
   rintro k w4 ⟨Kw4,Mw4,hk⟩
   refine sgz 9 [.ld (.slice q.a1 p.nodes.length q.c1)] (kAt (cAt Y16 (ro1 6 [0,1,0,0])) [0,1] (.inv (LI 159 [] (prNp p q b1 w) k) :: (kEnd Y16 (ro1 6 [0,1,0]) []))) [(1,pt b1 0),(5,sv ((protoL p ++ lineW [wdFailures,Lib.itoa p.k]) ++ (p.nodes.take k).flatMap nodeL)),(6,iv (k:Int)),(35,.bool (decide ((k:Int) < (p.nodes.length:Int))))] [cl w4 b1 3 (.slice q.a1 p.nodes.length q.c1)] (A1 (cell_of (Mw4.blk 0 rfl) rfl)) ?_
   refine brd ((k:Int) < (p.nodes.length:Int)) (fun hw4 => ?_) (fun hw4 => ?_)
   ·generalize hKTw4 : ((.inv (LI 159 [] (prNp p q b1 w) k) :: (kEnd Y16 (ro1 6 [0,1,0]) [])) : List Fr) = KTw4
    have hk2 : k < p.nodes.length := by omega
    have hmem := getD_mem' d0N hk2
    have ha1 := hR.asn _ hmem
    have hnn := hR.nameN hmem
    have hit := itoa_len (by omega) ha1.2
    have ha := hP.nodes.addrE nodeC_len (by decide) hk2
    have m2k := m2 k
    refine sg0 3 (kAt (cAt Y16 (ro1 6 [0,1,0,0])) [1,0,0] KTw4) [(1,pt b1 0),(5,sv ((protoL p ++ lineW [wdFailures,Lib.itoa p.k]) ++ (p.nodes.take k).flatMap nodeL)),(6,iv (k:Int))] ?_
    refine dBegin (k' := (Fr.blk 1 :: (kAt (cAt Y16 (ro1 6 [0,1,0,0])) [1,1] KTw4))) (id := 11) (m := 20) (ops := opsAt (cAt (cAt Y16 (ro1 6 [0,1,0,0])) [1,0,0])) (fun w1 => Ext w1) (by kernel_rfl) (PQ.body _ _ _) (by kernel_rfl) (by kernel_rfl) ?_
    intro w10 hx11
    have hE12 := Kw4.trans hx11
    have hM13 := Mw4.ext hx11
    refine dtz [0,1,2,3,4,5,6,7,8,9,10,11,12,13,14,15] [.ld (.slice q.a1 p.nodes.length q.c1),.ld (sv ((p.nodes.getD k d0N).name)),.ld (.slice q.a1 p.nodes.length q.c1),.ld (iv ((p.nodes.getD k d0N).asn))] 4 (lb 20 65535) ((fun (z1 : Bytes) => ([(1,pt b1 0),(5,sv z1),(6,iv (k:Int)),(47,sv (((z1 ++ ([110,111,100,101,32])) ++ ((p.nodes.getD k d0N).name)) ++ ([32]))),(53,iv ((p.nodes.getD k d0N).asn))] : List (Nat × Value))) ((protoL p ++ lineW [wdFailures,Lib.itoa p.k]) ++ (p.nodes.take k).flatMap nodeL)) (fun w' => [(((protoL p ++ lineW [wdFailures,Lib.itoa p.k]) ++ (p.nodes.take k).flatMap nodeL)).length + ([110,111,100,101,32]).length ≤ 9223372036854775807,cl w' b1 3 (.slice q.a1 p.nodes.length q.c1),(0 ≤ (k:Int) ∧ (k:Int) < (p.nodes.length:Int)),(q.a1 : Option Addr) = some ⟨(slB q.a1),slO q.a1,none⟩,cl w' (slB q.a1) (slO q.a1 + k * 2) (sv ((p.nodes.getD k d0N).name)),(((protoL p ++ lineW [wdFailures,Lib.itoa p.k]) ++ (p.nodes.take k).flatMap nodeL) ++ ([110,111,100,101,32])).length + ((p.nodes.getD k d0N).name).length ≤ 9223372036854775807,((((protoL p ++ lineW [wdFailures,Lib.itoa p.k]) ++ (p.nodes.take k).flatMap nodeL) ++ ([110,111,100,101,32])) ++ ((p.nodes.getD k d0N).name)).length + ([32]).length ≤ 9223372036854775807,cl w' b1 3 (.slice q.a1 p.nodes.length q.c1),(0 ≤ (k:Int) ∧ (k:Int) < (p.nodes.length:Int)),(q.a1 : Option Addr) = some ⟨(slB q.a1),slO q.a1,none⟩,cl w' (slB q.a1) (slO q.a1 + k * 2 + 1) (iv ((p.nodes.getD k d0N).asn))]) (fun w' hS => (AC (by first | omega | (simp only [List.length_append,List.length_cons,List.length_nil]; omega)) (AC (hS.cell (cell_of (hM13.blk 0 rfl) rfl)) (AC (by omega) (AC (by assumption) (AC (hS.cell (hE12.cell (cellAt nodeC_len d0N hP.nodes hk2 (j := 0) rfl))) (AC (by first | omega | (simp only [List.length_append,List.length_cons,List.length_nil]; omega)) (AC (by first | omega | (simp only [List.length_append,List.length_cons,List.length_nil]; omega)) (AC (hS.cell (cell_of (hM13.blk 0 rfl) rfl)) (AC (by omega) (AC (by assumption) (A1 (hS.cell (hE12.cell (cellAt nodeC_len d0N hP.nodes hk2 (j := 1) rfl))))))))))))))) (Ext.refl _) ?_
    refine dAll 16 [] (by kernel_rfl) ?_
    refine dos [] (.call 35 [iv ((p.nodes.getD k d0N).asn)]) (some 54) [] (lb 20 131071) trivial (runs_call E35 (digits_any (p.nodes.getD k d0N).asn w10 (by omega) ha1.2)) ?_
    rintro _ wnp ⟨rfl,hxnp⟩
    have hE14 := hE12.trans hxnp
    have hM15 := hM13.ext hxnp
    refine ⟨hxnp,?_⟩
    refine dMore (Ext wnp) (fun w' h => Ext.trans hxnp h) ?_
    refine dtz [17,18,19] [] 0 (lb 20 1048575) [(1,pt b1 0),(5,sv (((((((protoL p ++ lineW [wdFailures,Lib.itoa p.k]) ++ (p.nodes.take k).flatMap nodeL) ++ ([110,111,100,101,32])) ++ ((p.nodes.getD k d0N).name)) ++ ([32])) ++ (Lib.itoa (p.nodes.getD k d0N).asn)) ++ ([59,10]))),(6,iv (k:Int))] (fun w' => [(((((protoL p ++ lineW [wdFailures,Lib.itoa p.k]) ++ (p.nodes.take k).flatMap nodeL) ++ ([110,111,100,101,32])) ++ ((p.nodes.getD k d0N).name)) ++ ([32])).length + (Lib.itoa (p.nodes.getD k d0N).asn).length ≤ 9223372036854775807,((((((protoL p ++ lineW [wdFailures,Lib.itoa p.k]) ++ (p.nodes.take k).flatMap nodeL) ++ ([110,111,100,101,32])) ++ ((p.nodes.getD k d0N).name)) ++ ([32])) ++ (Lib.itoa (p.nodes.getD k d0N).asn)).length + ([59,10]).length ≤ 9223372036854775807]) (fun w' hS => (AC (by first | omega | (simp only [List.length_append,List.length_cons,List.length_nil]; omega)) (A1 (by first | omega | (simp only [List.length_append,List.length_cons,List.length_nil]; omega))))) (Ext.refl _) ?_
    refine dDone (by kernel_rfl) ?_
    refine sgz 6 [] KTw4 [(1,pt b1 0),(5,sv (((((((protoL p ++ lineW [wdFailures,Lib.itoa p.k]) ++ (p.nodes.take k).flatMap nodeL) ++ ([110,111,100,101,32])) ++ ((p.nodes.getD k d0N).name)) ++ ([32])) ++ (Lib.itoa (p.nodes.getD k d0N).asn)) ++ ([59,10]))),(6,iv ((k + 1:Nat):Int))] [I64 ((k + 1:Nat):Int)] (A1 (i64 (by omega))) ?_
    refine stEq (st' := (stz [(1,pt b1 0),(5,sv ((protoL p ++ lineW [wdFailures,Lib.itoa p.k]) ++ (p.nodes.take (k + 1)).flatMap nodeL)),(6,iv ((k + 1:Nat):Int))])) (by rw [show ((protoL p ++ lineW [wdFailures,Lib.itoa p.k]) ++ (p.nodes.take (k + 1)).flatMap nodeL) = _ ++ nodeL _ by rw [flatS d0N hk2,← List.append_assoc],← node_line]) ?_
    subst hKTw4
    exact again (k + 1) [1,5,6] (by kernel_rfl) (⟨hE14,hM15,by omega⟩) (show p.nodes.length - (k + 1) < p.nodes.length - k by omega)
   have hkl : k = p.nodes.length := by omega
   refine sg0 7 (kAt Y16 (ro1 7 [0,1,0]) []) [(1,pt b1 0),(5,sv ((protoL p ++ lineW [wdFailures,Lib.itoa p.k]) ++ (p.nodes.take k).flatMap nodeL)),(7,iv 0)] ?_
   refine stEq (st' := (stz [(1,pt b1 0),(5,sv (((protoL p ++ lineW [wdFailures,Lib.itoa p.k]) ++ p.nodes.flatMap nodeL) ++ (p.links.take 0).flatMap (linkL p))),(7,iv 0)])) (by rw [hkl,List.take_length,show (((protoL p ++ lineW [wdFailures,Lib.itoa p.k]) ++ p.nodes.flatMap nodeL) ++ (p.links.take 0).flatMap (linkL p)) = ((protoL p ++ lineW [wdFailures,Lib.itoa p.k]) ++ p.nodes.flatMap nodeL) by simp]) ?_
   refine loopR (prLp p q b1 w) (k' := (kEnd Y16 (ro1 7 [0,1,0]) [])) (body := (cAt Y16 (ro1 7 [0,1,0,0]))) (by kernel_rfl) 0 [1,5,7] (by kernel_rfl) (⟨Kw4,Mw4,Nat.zero_le _⟩) ?_
   rintro k w6 ⟨Kw6,Mw6,hk⟩
   refine sgz 9 [.ld (.slice q.a2 p.links.length q.c2)] (kAt (cAt Y16 (ro1 7 [0,1,0,0])) [0,1] (.inv (LI 159 [] (prLp p q b1 w) k) :: (kEnd Y16 (ro1 7 [0,1,0]) []))) [(1,pt b1 0),(5,sv (((protoL p ++ lineW [wdFailures,Lib.itoa p.k]) ++ p.nodes.flatMap nodeL) ++ (p.links.take k).flatMap (linkL p))),(7,iv (k:Int)),(61,.bool (decide ((k:Int) < (p.links.length:Int))))] [cl w6 b1 4 (.slice q.a2 p.links.length q.c2)] (A1 (cell_of (Mw6.blk 0 rfl) rfl)) ?_
   refine brd ((k:Int) < (p.links.length:Int)) (fun hw6 => ?_) (fun hw6 => ?_)
   ·generalize hKTw6 : ((.inv (LI 159 [] (prLp p q b1 w) k) :: (kEnd Y16 (ro1 7 [0,1,0]) [])) : List Fr) = KTw6
    have hk2 : k < p.links.length := by omega
    have hmem := getD_mem' d0L hk2
    have hlk := hR.link _ hmem
    have hit := itoa_len (show 0 ≤ (p.links.getD k d0L).cost by omega) (by omega)
    have ha := hP.links.addrE linkC_len (by decide) hk2
    have m3k := m3 k
    have hn1 : (p.links.getD k d0L).a.toNat < p.nodes.length := by omega
    have hn2 : (p.links.getD k d0L).b.toNat < p.nodes.length := by omega
    have hb := hP.nodes.addrE nodeC_len (by decide) hn1
    have e1 := hR.nmN_len (p.links.getD k d0L).a
    have e2 := hR.nmN_len (p.links.getD k d0L).b
    refine sgz 10 [.ld (.slice q.a2 p.links.length q.c2),.ld (vL (p.links.getD k d0L))] (kOp (cAt Y16 (ro1 7 [0,1,0,0])) [1,0,0,0] 5 KTw6) [(1,pt b1 0),(5,sv (((protoL p ++ lineW [wdFailures,Lib.itoa p.k]) ++ p.nodes.flatMap nodeL) ++ (p.links.take k).flatMap (linkL p))),(7,iv (k:Int)),(68,(vL (p.links.getD k d0L)))] [cl w6 b1 4 (.slice q.a2 p.links.length q.c2),(0 ≤ (k:Int) ∧ (k:Int) < (p.links.length:Int)),(q.a2 : Option Addr) = some ⟨(slB q.a2),slO q.a2,none⟩,cl w6 (slB q.a2) (slO q.a2 + k * 3) (iv ((p.links.getD k d0L).a)),cl w6 (slB q.a2) (slO q.a2 + k * 3 + 1) (iv ((p.links.getD k d0L).b)),cl w6 (slB q.a2) (slO q.a2 + k * 3 + 2) (iv ((p.links.getD k d0L).cost))] (AC (cell_of (Mw6.blk 0 rfl) rfl) (AC (by omega) (AC (by assumption) (AC (Kw6.cell (cellAt linkC_len d0L hP.links hk2 (j := 0) rfl)) (AC (Kw6.cell (cellAt linkC_len d0L hP.links hk2 (j := 1) rfl)) (A1 (Kw6.cell (cellAt linkC_len d0L hP.links hk2 (j := 2) rfl)))))))) ?_
    refine os0 (.alloc 61) (some 8) (kOp (cAt Y16 (ro1 7 [0,1,0,0])) [1,0,0,0] 6 KTw6) (runs_alloc (z := .agg #[iv 0,iv 0,iv 0]) (by kernel_rfl)) ?_
    rintro _ wlp ⟨b8,rfl,hN16⟩
    have hE17 := Kw6.trans hN16.ext
    have hM18 := Mw6.new hN16
    refine os0 (.store 61 (pt b8 0) (vL (p.links.getD k d0L))) none (kOp (cAt Y16 (ro1 7 [0,1,0,0])) [1,0,0,0] 7 KTw6) (runs_st (hM18.blk 0 rfl) (by kernel_rfl)) ?_
    rintro _ wmp hC19
    have hE20 := hM18.toExt hE17 hC19 0 rfl
    have hM21 := hM18.set 0 rfl hC19
    refine sg0 1 (kAt (cAt Y16 (ro1 7 [0,1,0,0])) [1,0,0,1] KTw6) [(1,pt b1 0),(5,sv (((protoL p ++ lineW [wdFailures,Lib.itoa p.k]) ++ p.nodes.flatMap nodeL) ++ (p.links.take k).flatMap (linkL p))),(7,iv (k:Int)),(8,pt b8 0)] ?_
    refine dBegin (k' := (Fr.blk 3 :: (kAt (cAt Y16 (ro1 7 [0,1,0,0])) [1,1] KTw6))) (id := 16) (m := 26) (ops := opsAt (cAt (cAt Y16 (ro1 7 [0,1,0,0])) [1,0,0,1])) (fun w1 => Ext w1) (by kernel_rfl) (PQ.body _ _ _) (by kernel_rfl) (by kernel_rfl) ?_
    intro w22 hx23
    have hE24 := hE20.trans hx23
    have hM25 := hM21.ext hx23
    refine dtz [0,1,2,3,4,5,6,7,8,9,10,11,12,13,14,15,16,17,18,19,20,21] [.ld (.slice q.a1 p.nodes.length q.c1),.ld (iv ((p.links.getD k d0L).a)),.ld (sv (nmN p (p.links.getD k d0L).a)),.ld (.slice q.a1 p.nodes.length q.c1),.ld (iv ((p.links.getD k d0L).b)),.ld (sv (nmN p (p.links.getD k d0L).b)),.ld (iv ((p.links.getD k d0L).cost))] 4 (lb 26 4194303) ((fun (z1 : Bytes) => ([(1,pt b1 0),(5,sv z1),(7,iv (k:Int)),(88,sv (((((z1 ++ ([108,105,110,107,32])) ++ (nmN p (p.links.getD k d0L).a)) ++ ([32])) ++ (nmN p (p.links.getD k d0L).b)) ++ ([32]))),(90,iv ((p.links.getD k d0L).cost))] : List (Nat × Value))) (((protoL p ++ lineW [wdFailures,Lib.itoa p.k]) ++ p.nodes.flatMap nodeL) ++ (p.links.take k).flatMap (linkL p))) (fun w' => [((((protoL p ++ lineW [wdFailures,Lib.itoa p.k]) ++ p.nodes.flatMap nodeL) ++ (p.links.take k).flatMap (linkL p))).length + ([108,105,110,107,32]).length ≤ 9223372036854775807,cl w' b1 3 (.slice q.a1 p.nodes.length q.c1),cl w' b8 0 (iv ((p.links.getD k d0L).a)),(0 ≤ (p.links.getD k d0L).a ∧ (p.links.getD k d0L).a < (p.nodes.length:Int)),(q.a1 : Option Addr) = some ⟨(slB q.a1),slO q.a1,none⟩,cl w' (slB q.a1) (slO q.a1 + (((p.links.getD k d0L).a).toNat) * 2) (sv (nmN p (p.links.getD k d0L).a)),((((protoL p ++ lineW [wdFailures,Lib.itoa p.k]) ++ p.nodes.flatMap nodeL) ++ (p.links.take k).flatMap (linkL p)) ++ ([108,105,110,107,32])).length + (nmN p (p.links.getD k d0L).a).length ≤ 9223372036854775807,(((((protoL p ++ lineW [wdFailures,Lib.itoa p.k]) ++ p.nodes.flatMap nodeL) ++ (p.links.take k).flatMap (linkL p)) ++ ([108,105,110,107,32])) ++ (nmN p (p.links.getD k d0L).a)).length + ([32]).length ≤ 9223372036854775807,cl w' b1 3 (.slice q.a1 p.nodes.length q.c1),cl w' b8 1 (iv ((p.links.getD k d0L).b)),(0 ≤ (p.links.getD k d0L).b ∧ (p.links.getD k d0L).b < (p.nodes.length:Int)),(q.a1 : Option Addr) = some ⟨(slB q.a1),slO q.a1,none⟩,cl w' (slB q.a1) (slO q.a1 + (((p.links.getD k d0L).b).toNat) * 2) (sv (nmN p (p.links.getD k d0L).b)),((((((protoL p ++ lineW [wdFailures,Lib.itoa p.k]) ++ p.nodes.flatMap nodeL) ++ (p.links.take k).flatMap (linkL p)) ++ ([108,105,110,107,32])) ++ (nmN p (p.links.getD k d0L).a)) ++ ([32])).length + (nmN p (p.links.getD k d0L).b).length ≤ 9223372036854775807,(((((((protoL p ++ lineW [wdFailures,Lib.itoa p.k]) ++ p.nodes.flatMap nodeL) ++ (p.links.take k).flatMap (linkL p)) ++ ([108,105,110,107,32])) ++ (nmN p (p.links.getD k d0L).a)) ++ ([32])) ++ (nmN p (p.links.getD k d0L).b)).length + ([32]).length ≤ 9223372036854775807,cl w' b8 2 (iv ((p.links.getD k d0L).cost))]) (fun w' hS => (AC (by first | omega | (simp only [List.length_append,List.length_cons,List.length_nil]; omega)) (AC (hS.cell (cell_of (hM25.blk 1 rfl) rfl)) (AC (hS.cell (cell_of (hM25.blk 0 rfl) rfl)) (AC (by omega) (AC (by assumption) (AC (hS.cell (hE24.cell (cellAt nodeC_len d0N hP.nodes hn1 (j := 0) rfl))) (AC (by first | omega | (simp only [List.length_append,List.length_cons,List.length_nil]; omega)) (AC (by first | omega | (simp only [List.length_append,List.length_cons,List.length_nil]; omega)) (AC (hS.cell (cell_of (hM25.blk 1 rfl) rfl)) (AC (hS.cell (cell_of (hM25.blk 0 rfl) rfl)) (AC (by omega) (AC (by assumption) (AC (hS.cell (hE24.cell (cellAt nodeC_len d0N hP.nodes hn2 (j := 0) rfl))) (AC (by first | omega | (simp only [List.length_append,List.length_cons,List.length_nil]; omega)) (AC (by first | omega | (simp only [List.length_append,List.length_cons,List.length_nil]; omega)) (A1 (hS.cell (cell_of (hM25.blk 0 rfl) rfl))))))))))))))))))) (Ext.refl _) ?_
    refine dAll 22 [] (by kernel_rfl) ?_
    refine dos [] (.call 35 [iv ((p.links.getD k d0L).cost)]) (some 91) [] (lb 26 8388607) trivial (runs_call E35 (digits_any (p.links.getD k d0L).cost w22 (by omega) (by omega))) ?_
    rintro _ wop ⟨rfl,hxop⟩
    have hE26 := hE24.trans hxop
    have hM27 := hM25.ext hxop
    refine ⟨hxop,?_⟩
    refine dMore (Ext wop) (fun w' h => Ext.trans hxop h) ?_
    refine dtz [23,24,25] [] 0 (lb 26 67108863) [(1,pt b1 0),(5,sv ((((((((((protoL p ++ lineW [wdFailures,Lib.itoa p.k]) ++ p.nodes.flatMap nodeL) ++ (p.links.take k).flatMap (linkL p)) ++ ([108,105,110,107,32])) ++ (nmN p (p.links.getD k d0L).a)) ++ ([32])) ++ (nmN p (p.links.getD k d0L).b)) ++ ([32])) ++ (Lib.itoa (p.links.getD k d0L).cost)) ++ ([59,10]))),(7,iv (k:Int))] (fun w' => [((((((((protoL p ++ lineW [wdFailures,Lib.itoa p.k]) ++ p.nodes.flatMap nodeL) ++ (p.links.take k).flatMap (linkL p)) ++ ([108,105,110,107,32])) ++ (nmN p (p.links.getD k d0L).a)) ++ ([32])) ++ (nmN p (p.links.getD k d0L).b)) ++ ([32])).length + (Lib.itoa (p.links.getD k d0L).cost).length ≤ 9223372036854775807,(((((((((protoL p ++ lineW [wdFailures,Lib.itoa p.k]) ++ p.nodes.flatMap nodeL) ++ (p.links.take k).flatMap (linkL p)) ++ ([108,105,110,107,32])) ++ (nmN p (p.links.getD k d0L).a)) ++ ([32])) ++ (nmN p (p.links.getD k d0L).b)) ++ ([32])) ++ (Lib.itoa (p.links.getD k d0L).cost)).length + ([59,10]).length ≤ 9223372036854775807]) (fun w' hS => (AC (by first | omega | (simp only [List.length_append,List.length_cons,List.length_nil]; omega)) (A1 (by first | omega | (simp only [List.length_append,List.length_cons,List.length_nil]; omega))))) (Ext.refl _) ?_
    refine dDone (by kernel_rfl) ?_
    refine sgz 6 [] KTw6 [(1,pt b1 0),(5,sv ((((((((((protoL p ++ lineW [wdFailures,Lib.itoa p.k]) ++ p.nodes.flatMap nodeL) ++ (p.links.take k).flatMap (linkL p)) ++ ([108,105,110,107,32])) ++ (nmN p (p.links.getD k d0L).a)) ++ ([32])) ++ (nmN p (p.links.getD k d0L).b)) ++ ([32])) ++ (Lib.itoa (p.links.getD k d0L).cost)) ++ ([59,10]))),(7,iv ((k + 1:Nat):Int))] [I64 ((k + 1:Nat):Int)] (A1 (i64 (by omega))) ?_
    have hM28 := hM27.pickT 2 [1] (by kernel_rfl)
    refine stEq (st' := (stz [(1,pt b1 0),(5,sv (((protoL p ++ lineW [wdFailures,Lib.itoa p.k]) ++ p.nodes.flatMap nodeL) ++ (p.links.take (k + 1)).flatMap (linkL p))),(7,iv ((k + 1:Nat):Int))])) (by rw [show (((protoL p ++ lineW [wdFailures,Lib.itoa p.k]) ++ p.nodes.flatMap nodeL) ++ (p.links.take (k + 1)).flatMap (linkL p)) = _ ++ linkL p _ by rw [flatS d0L hk2,← List.append_assoc],← link_line]) ?_
    subst hKTw6
    exact again (k + 1) [1,5,7] (by kernel_rfl) (⟨hE26,hM28,by omega⟩) (show p.links.length - (k + 1) < p.links.length - k by omega)
   have hkl : k = p.links.length := by omega
   refine sg0 7 (kAt Y16 (ro1 8 [0,1,0]) []) [(1,pt b1 0),(5,sv (((protoL p ++ lineW [wdFailures,Lib.itoa p.k]) ++ p.nodes.flatMap nodeL) ++ (p.links.take k).flatMap (linkL p))),(9,iv 0)] ?_
   refine stEq (st' := (stz [(1,pt b1 0),(5,sv ((((protoL p ++ lineW [wdFailures,Lib.itoa p.k]) ++ p.nodes.flatMap nodeL) ++ p.links.flatMap (linkL p)) ++ (p.dests.take 0).flatMap (destL p))),(9,iv 0)])) (by rw [hkl,List.take_length,show ((((protoL p ++ lineW [wdFailures,Lib.itoa p.k]) ++ p.nodes.flatMap nodeL) ++ p.links.flatMap (linkL p)) ++ (p.dests.take 0).flatMap (destL p)) = (((protoL p ++ lineW [wdFailures,Lib.itoa p.k]) ++ p.nodes.flatMap nodeL) ++ p.links.flatMap (linkL p)) by simp]) ?_
   refine loopR (prDp p q b1 w) (k' := (kEnd Y16 (ro1 8 [0,1,0]) [])) (body := (cAt Y16 (ro1 8 [0,1,0,0]))) (by kernel_rfl) 0 [1,5,9] (by kernel_rfl) (⟨Kw6,Mw6,Nat.zero_le _⟩) ?_
   rintro k w8 ⟨Kw8,Mw8,hk⟩
   refine sgz 9 [.ld (.slice q.a3 p.dests.length q.c3)] (kAt (cAt Y16 (ro1 8 [0,1,0,0])) [0,1] (.inv (LI 159 [] (prDp p q b1 w) k) :: (kEnd Y16 (ro1 8 [0,1,0]) []))) [(1,pt b1 0),(5,sv ((((protoL p ++ lineW [wdFailures,Lib.itoa p.k]) ++ p.nodes.flatMap nodeL) ++ p.links.flatMap (linkL p)) ++ (p.dests.take k).flatMap (destL p))),(9,iv (k:Int)),(98,.bool (decide ((k:Int) < (p.dests.length:Int))))] [cl w8 b1 5 (.slice q.a3 p.dests.length q.c3)] (A1 (cell_of (Mw8.blk 0 rfl) rfl)) ?_
   refine brd ((k:Int) < (p.dests.length:Int)) (fun hw8 => ?_) (fun hw8 => ?_)
   ·generalize hKTw8 : ((.inv (LI 159 [] (prDp p q b1 w) k) :: (kEnd Y16 (ro1 8 [0,1,0]) [])) : List Fr) = KTw8
    have hk2 : k < p.dests.length := by omega
    have hmem := getD_mem' d0D hk2
    have hk3 : k < q.ds.length := by omega
    have hdg := hP.dget k
    have ho := hP.orig _ (getD_mem' d0A hk3)
    have ha := hP.dests.addrE destC_len (by decide) hk3
    have m4k := m4 k
    have hnn := hR.nameD hmem
    have hdo := (hR.dest _ hmem).1
    have hdl := destP_len hR hmem
    rw [← hdg] at hdo hnn hdl
    refine sgz 23 [.ld (.slice q.a3 p.dests.length q.c3),.ld (sv ((q.ds.getD k d0A).d.name))] (kAt (cAt Y16 (ro1 8 [0,1,0,0])) [1,0,0,1,0,1,0] KTw8) [(1,pt b1 0),(5,sv (((((((protoL p ++ lineW [wdFailures,Lib.itoa p.k]) ++ p.nodes.flatMap nodeL) ++ p.links.flatMap (linkL p)) ++ (p.dests.take k).flatMap (destL p)) ++ ([100,101,115,116,32])) ++ ((q.ds.getD k d0A).d.name)) ++ ([32,97,116]))),(9,iv (k:Int)),(10,iv 0)] [(((((protoL p ++ lineW [wdFailures,Lib.itoa p.k]) ++ p.nodes.flatMap nodeL) ++ p.links.flatMap (linkL p)) ++ (p.dests.take k).flatMap (destL p))).length + ([100,101,115,116,32]).length ≤ 9223372036854775807,cl w8 b1 5 (.slice q.a3 p.dests.length q.c3),(0 ≤ (k:Int) ∧ (k:Int) < (p.dests.length:Int)),(q.a3 : Option Addr) = some ⟨(slB q.a3),slO q.a3,none⟩,cl w8 (slB q.a3) (slO q.a3 + k * 2) (sv ((q.ds.getD k d0A).d.name)),(((((protoL p ++ lineW [wdFailures,Lib.itoa p.k]) ++ p.nodes.flatMap nodeL) ++ p.links.flatMap (linkL p)) ++ (p.dests.take k).flatMap (destL p)) ++ ([100,101,115,116,32])).length + ((q.ds.getD k d0A).d.name).length ≤ 9223372036854775807,((((((protoL p ++ lineW [wdFailures,Lib.itoa p.k]) ++ p.nodes.flatMap nodeL) ++ p.links.flatMap (linkL p)) ++ (p.dests.take k).flatMap (destL p)) ++ ([100,101,115,116,32])) ++ ((q.ds.getD k d0A).d.name)).length + ([32,97,116]).length ≤ 9223372036854775807] (AC (by first | omega | (simp only [List.length_append,List.length_cons,List.length_nil]; omega)) (AC (cell_of (Mw8.blk 0 rfl) rfl) (AC (by omega) (AC (by assumption) (AC (Kw8.cell (cellAt destC_len d0A hP.dests hk3 (j := 0) rfl)) (AC (by first | omega | (simp only [List.length_append,List.length_cons,List.length_nil]; omega)) (A1 (by first | omega | (simp only [List.length_append,List.length_cons,List.length_nil]; omega))))))))) ?_
    refine stEq (st' := (stz [(1,pt b1 0),(5,sv (((((protoL p ++ lineW [wdFailures,Lib.itoa p.k]) ++ p.nodes.flatMap nodeL) ++ p.links.flatMap (linkL p)) ++ (p.dests.take k).flatMap (destL p)) ++ destP p (q.ds.getD k d0A).d 0)),(9,iv (k:Int)),(10,iv 0)])) (by rw [destP_zero]) ?_
    refine loopR (prOp p q b1 w k) (k' := (kEnd (cAt Y16 (ro1 8 [0,1,0,0])) [1,0,0,1,0,1,0] KTw8)) (body := (cAt (cAt Y16 (ro1 8 [0,1,0,0])) [1,0,0,1,0,1,0,0])) (by kernel_rfl) 0 [1,5,9,10] (by kernel_rfl) (⟨Kw8,Mw8,Nat.zero_le _⟩) ?_
    rintro m w9 ⟨K9,M9,hm⟩
    have hdlm := hdl m
    refine sgz 13 [.ld (.slice q.a3 p.dests.length q.c3),.ld (.slice (q.ds.getD k d0A).a ((q.ds.getD k d0A).d.origins.length) ((q.ds.getD k d0A).c))] (kAt (cAt (cAt Y16 (ro1 8 [0,1,0,0])) [1,0,0,1,0,1,0,0]) [0,1] (.inv (LI 159 [] (prOp p q b1 w k) m) :: (kEnd (cAt Y16 (ro1 8 [0,1,0,0])) [1,0,0,1,0,1,0] KTw8))) [(1,pt b1 0),(5,sv (((((protoL p ++ lineW [wdFailures,Lib.itoa p.k]) ++ p.nodes.flatMap nodeL) ++ p.links.flatMap (linkL p)) ++ (p.dests.take k).flatMap (destL p)) ++ destP p (q.ds.getD k d0A).d m)),(9,iv (k:Int)),(10,iv (m:Int)),(119,.bool (decide ((m:Int) < (((q.ds.getD k d0A).d.origins.length:Nat):Int))))] [cl w9 b1 5 (.slice q.a3 p.dests.length q.c3),(0 ≤ (k:Int) ∧ (k:Int) < (p.dests.length:Int)),(q.a3 : Option Addr) = some ⟨(slB q.a3),slO q.a3,none⟩,cl w9 (slB q.a3) (slO q.a3 + k * 2 + 1) (.slice (q.ds.getD k d0A).a ((q.ds.getD k d0A).d.origins.length) ((q.ds.getD k d0A).c))] (AC (cell_of (M9.blk 0 rfl) rfl) (AC (by omega) (AC (by assumption) (A1 (K9.cell (cellAt destC_len d0A hP.dests hk3 (j := 1) rfl)))))) ?_
    refine brd ((m:Int) < (((q.ds.getD k d0A).d.origins.length:Nat):Int)) (fun h9 => ?_) (fun h9 => ?_)
    ·have hm2 : m < (q.ds.getD k d0A).d.origins.length := by omega
     have hc := ho.1.addrE intCells_len (by decide) hm2
     have hpl := placeB_iff.1 (hdo m hm2).1
     have hn1 : ((q.ds.getD k d0A).d.origins.getD m 0).toNat < p.nodes.length := by omega
     have hb := hP.nodes.addrE nodeC_len (by decide) hn1
     have e1 := hR.nmN_len ((q.ds.getD k d0A).d.origins.getD m 0)
     refine sg0 3 (kAt (cAt (cAt Y16 (ro1 8 [0,1,0,0])) [1,0,0,1,0,1,0,0]) [1,0,0] (.inv (LI 159 [] (prOp p q b1 w k) m) :: (kEnd (cAt Y16 (ro1 8 [0,1,0,0])) [1,0,0,1,0,1,0] KTw8))) [(1,pt b1 0),(5,sv (((((protoL p ++ lineW [wdFailures,Lib.itoa p.k]) ++ p.nodes.flatMap nodeL) ++ p.links.flatMap (linkL p)) ++ (p.dests.take k).flatMap (destL p)) ++ destP p (q.ds.getD k d0A).d m)),(9,iv (k:Int)),(10,iv (m:Int))] ?_
     refine dBegin (k' := (Fr.blk 7 :: (kAt (cAt (cAt Y16 (ro1 8 [0,1,0,0])) [1,0,0,1,0,1,0,0]) [1,1] (.inv (LI 159 [] (prOp p q b1 w k) m) :: (kEnd (cAt Y16 (ro1 8 [0,1,0,0])) [1,0,0,1,0,1,0] KTw8))))) (id := 24) (m := 18) (ops := opsAt (cAt (cAt (cAt Y16 (ro1 8 [0,1,0,0])) [1,0,0,1,0,1,0,0]) [1,0,0])) (fun w1 => Ext w1) (by kernel_rfl) (PQ.body _ _ _) (by kernel_rfl) (by kernel_rfl) ?_
     intro w29 hx30
     have hE31 := K9.trans hx30
     have hM32 := M9.ext hx30
     refine dtz [0,1,2,3,4,5,6,7,8,9,10,11,12,13,14,15,16,17] [.ld (.slice q.a1 p.nodes.length q.c1),.ld (.slice q.a3 p.dests.length q.c3),.ld (.slice (q.ds.getD k d0A).a ((q.ds.getD k d0A).d.origins.length) ((q.ds.getD k d0A).c)),.ld (iv ((q.ds.getD k d0A).d.origins.getD m 0)),.ld (sv (nmN p ((q.ds.getD k d0A).d.origins.getD m 0)))] 0 (lb 18 262143) [(1,pt b1 0),(5,sv (((((((protoL p ++ lineW [wdFailures,Lib.itoa p.k]) ++ p.nodes.flatMap nodeL) ++ p.links.flatMap (linkL p)) ++ (p.dests.take k).flatMap (destL p)) ++ destP p (q.ds.getD k d0A).d m) ++ ([32])) ++ (nmN p ((q.ds.getD k d0A).d.origins.getD m 0)))),(9,iv (k:Int)),(10,iv (m:Int))] (fun w' => [(((((protoL p ++ lineW [wdFailures,Lib.itoa p.k]) ++ p.nodes.flatMap nodeL) ++ p.links.flatMap (linkL p)) ++ (p.dests.take k).flatMap (destL p)) ++ destP p (q.ds.getD k d0A).d m).length + ([32]).length ≤ 9223372036854775807,cl w' b1 3 (.slice q.a1 p.nodes.length q.c1),cl w' b1 5 (.slice q.a3 p.dests.length q.c3),(0 ≤ (k:Int) ∧ (k:Int) < (p.dests.length:Int)),(q.a3 : Option Addr) = some ⟨(slB q.a3),slO q.a3,none⟩,cl w' (slB q.a3) (slO q.a3 + k * 2 + 1) (.slice (q.ds.getD k d0A).a ((q.ds.getD k d0A).d.origins.length) ((q.ds.getD k d0A).c)),(0 ≤ (m:Int) ∧ (m:Int) < (((q.ds.getD k d0A).d.origins.length:Nat):Int)),((q.ds.getD k d0A).a : Option Addr) = some ⟨(slB (q.ds.getD k d0A).a),slO (q.ds.getD k d0A).a,none⟩,cl w' ((slB (q.ds.getD k d0A).a)) (slO (q.ds.getD k d0A).a + m * 1) (iv ((q.ds.getD k d0A).d.origins.getD m 0)),(0 ≤ (q.ds.getD k d0A).d.origins.getD m 0 ∧ (q.ds.getD k d0A).d.origins.getD m 0 < (p.nodes.length:Int)),(q.a1 : Option Addr) = some ⟨(slB q.a1),slO q.a1,none⟩,cl w' (slB q.a1) (slO q.a1 + (((q.ds.getD k d0A).d.origins.getD m 0).toNat) * 2) (sv (nmN p ((q.ds.getD k d0A).d.origins.getD m 0))),((((((protoL p ++ lineW [wdFailures,Lib.itoa p.k]) ++ p.nodes.flatMap nodeL) ++ p.links.flatMap (linkL p)) ++ (p.dests.take k).flatMap (destL p)) ++ destP p (q.ds.getD k d0A).d m) ++ ([32])).length + (nmN p ((q.ds.getD k d0A).d.origins.getD m 0)).length ≤ 9223372036854775807]) (fun w' hS => (AC (by first | omega | (simp only [List.length_append,List.length_cons,List.length_nil]; omega)) (AC (hS.cell (cell_of (hM32.blk 0 rfl) rfl)) (AC (hS.cell (cell_of (hM32.blk 0 rfl) rfl)) (AC (by omega) (AC (by assumption) (AC (hS.cell (hE31.cell (cellAt destC_len d0A hP.dests hk3 (j := 1) rfl))) (AC (by omega) (AC (by assumption) (AC (hS.cell (hE31.cell (int_cell ho.1 hm2))) (AC (by omega) (AC (by assumption) (AC (hS.cell (hE31.cell (cellAt nodeC_len d0N hP.nodes hn1 (j := 0) rfl))) (A1 (by first | omega | (simp only [List.length_append,List.length_cons,List.length_nil]; omega)))))))))))))))) (Ext.refl _) ?_
     refine dDone (by kernel_rfl) ?_
     refine sgz 6 [] (.inv (LI 159 [] (prOp p q b1 w k) m) :: (kEnd (cAt Y16 (ro1 8 [0,1,0,0])) [1,0,0,1,0,1,0] KTw8)) [(1,pt b1 0),(5,sv (((((((protoL p ++ lineW [wdFailures,Lib.itoa p.k]) ++ p.nodes.flatMap nodeL) ++ p.links.flatMap (linkL p)) ++ (p.dests.take k).flatMap (destL p)) ++ destP p (q.ds.getD k d0A).d m) ++ ([32])) ++ (nmN p ((q.ds.getD k d0A).d.origins.getD m 0)))),(9,iv (k:Int)),(10,iv ((m + 1:Nat):Int))] [I64 ((m + 1:Nat):Int)] (A1 (i64 (by omega))) ?_
     refine stEq (st' := (stz [(1,pt b1 0),(5,sv (((((protoL p ++ lineW [wdFailures,Lib.itoa p.k]) ++ p.nodes.flatMap nodeL) ++ p.links.flatMap (linkL p)) ++ (p.dests.take k).flatMap (destL p)) ++ destP p (q.ds.getD k d0A).d (m + 1))),(9,iv (k:Int)),(10,iv ((m + 1:Nat):Int))])) (by rw [destP_step _ _ _ hm2]) ?_
     exact again (m + 1) [1,5,9,10] (by kernel_rfl) (⟨hE31,hM32,by omega⟩) (show (q.ds.getD k d0A).d.origins.length - (m + 1) < (q.ds.getD k d0A).d.origins.length - m by omega)
    have hml : m = (q.ds.getD k d0A).d.origins.length := by omega
    refine sgz 12 [] KTw8 [(1,pt b1 0),(5,sv ((((((protoL p ++ lineW [wdFailures,Lib.itoa p.k]) ++ p.nodes.flatMap nodeL) ++ p.links.flatMap (linkL p)) ++ (p.dests.take k).flatMap (destL p)) ++ destP p (q.ds.getD k d0A).d m) ++ ([59,10]))),(9,iv ((k + 1:Nat):Int))] [(((((protoL p ++ lineW [wdFailures,Lib.itoa p.k]) ++ p.nodes.flatMap nodeL) ++ p.links.flatMap (linkL p)) ++ (p.dests.take k).flatMap (destL p)) ++ destP p (q.ds.getD k d0A).d m).length + ([59,10]).length ≤ 9223372036854775807,I64 ((k + 1:Nat):Int)] (AC (by first | omega | (simp only [List.length_append,List.length_cons,List.length_nil]; omega)) (A1 (i64 (by omega)))) ?_
    refine stEq (st' := (stz [(1,pt b1 0),(5,sv ((((protoL p ++ lineW [wdFailures,Lib.itoa p.k]) ++ p.nodes.flatMap nodeL) ++ p.links.flatMap (linkL p)) ++ (p.dests.take (k + 1)).flatMap (destL p))),(9,iv ((k + 1:Nat):Int))])) (by rw [hml,destP_end,show ((((protoL p ++ lineW [wdFailures,Lib.itoa p.k]) ++ p.nodes.flatMap nodeL) ++ p.links.flatMap (linkL p)) ++ (p.dests.take (k + 1)).flatMap (destL p)) = _ ++ destL p _ by rw [flatS d0D hk2,← List.append_assoc],hdg]) ?_
    subst hKTw8
    exact again (k + 1) [1,5,9] (by kernel_rfl) (⟨K9,M9,by omega⟩) (show p.dests.length - (k + 1) < p.dests.length - k by omega)
   have hkl : k = p.dests.length := by omega
   refine sg0 7 (kAt Y16 (ro1 9 [0,1,0]) []) [(1,pt b1 0),(5,sv ((((protoL p ++ lineW [wdFailures,Lib.itoa p.k]) ++ p.nodes.flatMap nodeL) ++ p.links.flatMap (linkL p)) ++ (p.dests.take k).flatMap (destL p))),(11,iv 0)] ?_
   refine stEq (st' := (stz [(1,pt b1 0),(5,sv (((((protoL p ++ lineW [wdFailures,Lib.itoa p.k]) ++ p.nodes.flatMap nodeL) ++ p.links.flatMap (linkL p)) ++ p.dests.flatMap (destL p)) ++ (p.checks.take 0).flatMap (checkL p))),(11,iv 0)])) (by rw [hkl,List.take_length,show (((((protoL p ++ lineW [wdFailures,Lib.itoa p.k]) ++ p.nodes.flatMap nodeL) ++ p.links.flatMap (linkL p)) ++ p.dests.flatMap (destL p)) ++ (p.checks.take 0).flatMap (checkL p)) = ((((protoL p ++ lineW [wdFailures,Lib.itoa p.k]) ++ p.nodes.flatMap nodeL) ++ p.links.flatMap (linkL p)) ++ p.dests.flatMap (destL p)) by simp]) ?_
   refine loopR (prCp p q b1 w) (k' := (kEnd Y16 (ro1 9 [0,1,0]) [])) (body := (cAt Y16 (ro1 9 [0,1,0,0]))) (by kernel_rfl) 0 [1,5,11] (by kernel_rfl) (⟨Kw8,Mw8,Nat.zero_le _⟩) ?_
   rintro k wa ⟨Kwa,Mwa,hk⟩
   refine sgz 9 [.ld (.slice q.a4 p.checks.length q.c4)] (kAt (cAt Y16 (ro1 9 [0,1,0,0])) [0,1] (.inv (LI 159 [] (prCp p q b1 w) k) :: (kEnd Y16 (ro1 9 [0,1,0]) []))) [(1,pt b1 0),(5,sv (((((protoL p ++ lineW [wdFailures,Lib.itoa p.k]) ++ p.nodes.flatMap nodeL) ++ p.links.flatMap (linkL p)) ++ p.dests.flatMap (destL p)) ++ (p.checks.take k).flatMap (checkL p))),(11,iv (k:Int)),(145,.bool (decide ((k:Int) < (p.checks.length:Int))))] [cl wa b1 6 (.slice q.a4 p.checks.length q.c4)] (A1 (cell_of (Mwa.blk 0 rfl) rfl)) ?_
   refine brd ((k:Int) < (p.checks.length:Int)) (fun hwa => ?_) (fun hwa => ?_)
   ·generalize hKTwa : ((.inv (LI 159 [] (prCp p q b1 w) k) :: (kEnd Y16 (ro1 9 [0,1,0]) [])) : List Fr) = KTwa
    have hk2 : k < p.checks.length := by omega
    have hmem := getD_mem' d0C hk2
    have hcb := hR.check _ hmem
    have hck := check_kind hcb
    have ha := hP.checks.addrE checkC_len (by decide) hk2
    have m5k := m5 k
    have mcl := hR.checkL_len hmem
    have rcl := rchk_line (p := p) hck.1
    rw [← rcl,List.length_append] at mcl
    refine sg0 3 (kAt (cAt Y16 (ro1 9 [0,1,0,0])) [1,0,0] KTwa) [(1,pt b1 0),(5,sv (((((protoL p ++ lineW [wdFailures,Lib.itoa p.k]) ++ p.nodes.flatMap nodeL) ++ p.links.flatMap (linkL p)) ++ p.dests.flatMap (destL p)) ++ (p.checks.take k).flatMap (checkL p))),(11,iv (k:Int))] ?_
    refine dBegin (k' := (Fr.blk 9 :: (kAt (cAt Y16 (ro1 9 [0,1,0,0])) [1,1] KTwa))) (id := 29) (m := 11) (ops := opsAt (cAt (cAt Y16 (ro1 9 [0,1,0,0])) [1,0,0])) (fun w1 => Ext w1) (by kernel_rfl) (PQ.body _ _ _) (by kernel_rfl) (by kernel_rfl) ?_
    intro w33 hx34
    have hE35 := Kwa.trans hx34
    have hM36 := Mwa.ext hx34
    refine dtz [0,1,2,3,4,5,6] [.ld (pv p q),.ld (.slice q.a4 p.checks.length q.c4),.ld (vC (p.checks.getD k d0C))] 4 (lb 11 127) ((fun (z1 : Bytes) => ([(1,pt b1 0),(5,sv z1),(11,iv (k:Int)),(148,sv z1),(149,(pv p q)),(154,(vC (p.checks.getD k d0C)))] : List (Nat × Value))) (((((protoL p ++ lineW [wdFailures,Lib.itoa p.k]) ++ p.nodes.flatMap nodeL) ++ p.links.flatMap (linkL p)) ++ p.dests.flatMap (destL p)) ++ (p.checks.take k).flatMap (checkL p))) (fun w' => [cl w' b1 0 (iv p.proto),cl w' b1 1 (iv p.cap),cl w' b1 2 (iv p.k),cl w' b1 3 (.slice q.a1 p.nodes.length q.c1),cl w' b1 4 (.slice q.a2 p.links.length q.c2),cl w' b1 5 (.slice q.a3 p.dests.length q.c3),cl w' b1 6 (.slice q.a4 p.checks.length q.c4),cl w' b1 6 (.slice q.a4 p.checks.length q.c4),(0 ≤ (k:Int) ∧ (k:Int) < (p.checks.length:Int)),(q.a4 : Option Addr) = some ⟨(slB q.a4),slO q.a4,none⟩,cl w' (slB q.a4) (slO q.a4 + k * 5) (iv ((p.checks.getD k d0C).kind)),cl w' (slB q.a4) (slO q.a4 + k * 5 + 1) (iv ((p.checks.getD k d0C).node)),cl w' (slB q.a4) (slO q.a4 + k * 5 + 2) (iv ((p.checks.getD k d0C).dest)),cl w' (slB q.a4) (slO q.a4 + k * 5 + 3) (iv ((p.checks.getD k d0C).limit)),cl w' (slB q.a4) (slO q.a4 + k * 5 + 4) (iv ((p.checks.getD k d0C).other))]) (fun w' hS => (AC (hS.cell (cell_of (hM36.blk 0 rfl) rfl)) (AC (hS.cell (cell_of (hM36.blk 0 rfl) rfl)) (AC (hS.cell (cell_of (hM36.blk 0 rfl) rfl)) (AC (hS.cell (cell_of (hM36.blk 0 rfl) rfl)) (AC (hS.cell (cell_of (hM36.blk 0 rfl) rfl)) (AC (hS.cell (cell_of (hM36.blk 0 rfl) rfl)) (AC (hS.cell (cell_of (hM36.blk 0 rfl) rfl)) (AC (hS.cell (cell_of (hM36.blk 0 rfl) rfl)) (AC (by omega) (AC (by assumption) (AC (hS.cell (hE35.cell (cellAt checkC_len d0C hP.checks hk2 (j := 0) rfl))) (AC (hS.cell (hE35.cell (cellAt checkC_len d0C hP.checks hk2 (j := 1) rfl))) (AC (hS.cell (hE35.cell (cellAt checkC_len d0C hP.checks hk2 (j := 2) rfl))) (AC (hS.cell (hE35.cell (cellAt checkC_len d0C hP.checks hk2 (j := 3) rfl))) (A1 (hS.cell (hE35.cell (cellAt checkC_len d0C hP.checks hk2 (j := 4) rfl))))))))))))))))))) (Ext.refl _) ?_
    refine dAll 7 [] (by kernel_rfl) ?_
    refine dos [] (.call 36 [(pv p q),(vC (p.checks.getD k d0C))]) (some 155) [] (lb 11 255) trivial (runs_call E36 (rcheck_any p q (p.checks.getD k d0C) w33 (hP.ext hE35) hR hcb)) ?_
    rintro _ wcp ⟨rfl,hxcp⟩
    have hE37 := hE35.trans hxcp
    have hM38 := hM36.ext hxcp
    refine ⟨hxcp,?_⟩
    refine dMore (Ext wcp) (fun w' h => Ext.trans hxcp h) ?_
    refine dtz [8,9,10] [] 0 (lb 11 2047) [(1,pt b1 0),(5,sv (((((((protoL p ++ lineW [wdFailures,Lib.itoa p.k]) ++ p.nodes.flatMap nodeL) ++ p.links.flatMap (linkL p)) ++ p.dests.flatMap (destL p)) ++ (p.checks.take k).flatMap (checkL p)) ++ (rchkT p (p.checks.getD k d0C))) ++ ([59,10]))),(11,iv (k:Int))] (fun w' => [((((((protoL p ++ lineW [wdFailures,Lib.itoa p.k]) ++ p.nodes.flatMap nodeL) ++ p.links.flatMap (linkL p)) ++ p.dests.flatMap (destL p)) ++ (p.checks.take k).flatMap (checkL p))).length + (rchkT p (p.checks.getD k d0C)).length ≤ 9223372036854775807,((((((protoL p ++ lineW [wdFailures,Lib.itoa p.k]) ++ p.nodes.flatMap nodeL) ++ p.links.flatMap (linkL p)) ++ p.dests.flatMap (destL p)) ++ (p.checks.take k).flatMap (checkL p)) ++ (rchkT p (p.checks.getD k d0C))).length + ([59,10]).length ≤ 9223372036854775807]) (fun w' hS => (AC (by first | omega | (simp only [List.length_append,List.length_cons,List.length_nil]; omega)) (A1 (by first | omega | (simp only [List.length_append,List.length_cons,List.length_nil]; omega))))) (Ext.refl _) ?_
    refine dDone (by kernel_rfl) ?_
    refine sgz 6 [] KTwa [(1,pt b1 0),(5,sv (((((((protoL p ++ lineW [wdFailures,Lib.itoa p.k]) ++ p.nodes.flatMap nodeL) ++ p.links.flatMap (linkL p)) ++ p.dests.flatMap (destL p)) ++ (p.checks.take k).flatMap (checkL p)) ++ (rchkT p (p.checks.getD k d0C))) ++ ([59,10]))),(11,iv ((k + 1:Nat):Int))] [I64 ((k + 1:Nat):Int)] (A1 (i64 (by omega))) ?_
    refine stEq (st' := (stz [(1,pt b1 0),(5,sv (((((protoL p ++ lineW [wdFailures,Lib.itoa p.k]) ++ p.nodes.flatMap nodeL) ++ p.links.flatMap (linkL p)) ++ p.dests.flatMap (destL p)) ++ (p.checks.take (k + 1)).flatMap (checkL p))),(11,iv ((k + 1:Nat):Int))])) (by rw [show (((((protoL p ++ lineW [wdFailures,Lib.itoa p.k]) ++ p.nodes.flatMap nodeL) ++ p.links.flatMap (linkL p)) ++ p.dests.flatMap (destL p)) ++ (p.checks.take (k + 1)).flatMap (checkL p)) = _ ++ checkL p _ by rw [flatS d0C hk2,← List.append_assoc],← rcl,← List.append_assoc]) ?_
    subst hKTwa
    exact again (k + 1) [1,5,11] (by kernel_rfl) (⟨hE37,hM38,by omega⟩) (show p.checks.length - (k + 1) < p.checks.length - k by omega)
   have hkl : k = p.checks.length := by omega
   refine sg0 7 (kAt Y16 (ro1 11 []) []) [(2,sv (((((protoL p ++ lineW [wdFailures,Lib.itoa p.k]) ++ p.nodes.flatMap nodeL) ++ p.links.flatMap (linkL p)) ++ p.dests.flatMap (destL p)) ++ (p.checks.take k).flatMap (checkL p))),(3,iv 0)] ?_
   exact ret2 (sv (((((protoL p ++ lineW [wdFailures,Lib.itoa p.k]) ++ p.nodes.flatMap nodeL) ++ p.links.flatMap (linkL p)) ++ p.dests.flatMap (destL p)) ++ (p.checks.take k).flatMap (checkL p))) (iv 0) (⟨by unfold printB; rw [if_pos h0,hkl,List.take_length]; rfl,Kwa⟩)
 refine brd ((p.proto : Int) = (2 : Int)) (fun hpr => ?_) (fun hpr => ?_)
 ·refine sgz 3 [.ld (iv p.cap)] (kOp Y16 (ro1 4 [0,1,0]) 2 []) [(1,pt b1 0),(2,sv ([])),(3,iv 0),(5,sv ([112,114,111,116,111,99,111,108,32,118,101,99,116,111,114,59,10])),(20,iv p.cap)] [cl w2 b1 1 (iv p.cap)] (A1 (cell_of (hM7.blk 0 rfl) rfl)) ?_
  refine os0 _ (some 21) (kOp Y16 (ro1 4 [0,1,0]) 3 []) (runs_call E35 (digits_any p.cap w2 hcp.1 (by omega))) ?_
  rintro _ w3 ⟨rfl,hx3⟩
  have hE39 := hE6.trans hx3
  have hM40 := hM7.ext hx3
  have hpt : protoL p = (([112,114,111,116,111,99,111,108,32,112,97,116,104,32] ++ Lib.itoa p.cap) ++ [59,10]) := by unfold protoL; rw [if_pos hpr]; simp [lineW,joinW,wdProtocol,wdPath]
  refine sgz 4 [] (kAt Y16 (ro1 5 []) []) [(1,pt b1 0),(2,sv ([])),(3,iv 0),(5,sv ((([112,114,111,116,111,99,111,108,32,112,97,116,104,32]) ++ (Lib.itoa p.cap)) ++ ([59,10])))] [([112,114,111,116,111,99,111,108,32,112,97,116,104,32]).length + (Lib.itoa p.cap).length ≤ 9223372036854775807,(([112,114,111,116,111,99,111,108,32,112,97,116,104,32]) ++ (Lib.itoa p.cap)).length + ([59,10]).length ≤ 9223372036854775807] (AC (by first | omega | (simp only [List.length_append,List.length_cons,List.length_nil]; omega)) (A1 (by first | omega | (simp only [List.length_append,List.length_cons,List.length_nil]; omega)))) ?_
  refine stEq (st' := (stz [(1,pt b1 0),(2,sv ([])),(3,iv 0),(5,sv (protoL p))])) (by rw [hpt]) ?_
  exact rest w3 hE39 hM40
 have hpt : protoL p = [112,114,111,116,111,99,111,108,32,118,101,99,116,111,114,59,10] := by unfold protoL; rw [if_neg hpr]; rfl
 refine sg0 1 (kAt Y16 (ro1 5 []) []) [(1,pt b1 0),(2,sv ([])),(3,iv 0),(5,sv ([112,114,111,116,111,99,111,108,32,118,101,99,116,111,114,59,10]))] ?_
 refine stEq (st' := (stz [(1,pt b1 0),(2,sv ([])),(3,iv 0),(5,sv (protoL p))])) (by rw [hpt]) ?_
 exact rest w2 hE6 hM7

end Go.Proofs.YtjhgghpeapmgdaaGreatDoor
