/-
  PARSE: what the parser holds; contracts of its small methods.
-/
import Derived.Test.YtjhgghpeapmgdaaGreatDoorMg1
import Derived.Test.YtjhgghpeapmgdaaGreatDoorParSpec
import Derived.Test.YtjhgghpeapmgdaaGreatDoorPan
import Derived.Test.YtjhgghpeapmgdaaGreatDoorPlanD
import Derived.Test.YtjhgghpeapmgdaaGreatDoorMg2
namespace Go.Proofs.YtjhgghpeapmgdaaGreatDoor
open Go.Bk Go.Proofs

structure PM where
  q : PAd
  ta : Option Addr
  tc : Nat
def origP (ds : List DA) : List Res := ds.map fun x => .row (.slice x.a x.d.origins.length x.c) 3 1 x.d.origins.length (x.d.origins.flatMap intCells)
def parL (bp : Nat) (s : PSt) (m : PM) : List Res :=
  [.blk bp ([iv s.p.proto,iv s.p.cap,iv s.p.k,.slice m.q.a1 s.p.nodes.length m.q.c1,.slice m.q.a2 s.p.links.length m.q.c2,.slice m.q.a3 s.p.dests.length m.q.c3,.slice m.q.a4 s.p.checks.length m.q.c4,.slice m.ta s.ts.length m.tc]) 100,.row (.slice m.q.a1 s.p.nodes.length m.q.c1) 52 2 s.p.nodes.length (s.p.nodes.flatMap nodeC),.row (.slice m.q.a2 s.p.links.length m.q.c2) 61 3 s.p.links.length (s.p.links.flatMap linkC),.row (.slice m.q.a3 s.p.dests.length m.q.c3) 54 2 s.p.dests.length (m.q.ds.flatMap destC),.row (.slice m.q.a4 s.p.checks.length m.q.c4) 67 5 s.p.checks.length (s.p.checks.flatMap checkC)]
structure ParAt (w0 w : World) (bp : Nat) (X : List Res) (s : PSt) (m : PM) : Prop where
  ext : Ext w0 w
  hold : Hold w w0.heap.size (parL bp s m ++ (X ++ origP m.q.ds))
  deq : m.q.ds.map (·.d) = s.p.dests
  toks : Cells w0 m.ta (s.ts.flatMap tokCells)
  cap : s.ts.length ≤ m.tc
  inv : PIn s
def wrongV (e a : Int) : Value := .iface 96 (.agg #[.int .i64 e,.int .i64 a])
def PanP {α : Type} (r : PE α) (w0 : World) (x : Value) (w' : World) : Prop := ∃ e a,r = .error (e,a) ∧ x = wrongV e a ∧ Ext w0 w'
theorem hd_cell {w : World} {a : Option Addr} {s : PSt} (h : Cells w a (s.ts.flatMap tokCells)) (hp : 0 < s.ts.length) (j : Nat) {v : Value} (hv : (tokCells s.hd)[j]? = some v) : w.cell? ⟨slB a,slO a + 0 + j,none⟩ = some v := by
  have := h.elem tokCells_len (i := 0) (j := j) (x := s.hd) (v := v) (by unfold PSt.hd; rw [List.getD_eq_getElem?_getD,List.getElem?_eq_getElem hp]; rfl) hv
  simpa using this
theorem row_atP {w : World} {B : Nat} {e : TypeId} {size n c : Nat} {a : Option Addr} {xs : List Value} (h : w.ownsRow B e size (.slice a n c) n xs) : Cells w a xs ∧ n ≤ c := by
  obtain ⟨a',c',hv,hc⟩ := SlV.of_owns h
  simp only [Value.slice.injEq] at hv
  refine ⟨by rw [hv.1]; exact hc,?_⟩
  rcases h.2 with ⟨_,h0⟩ | ⟨g,cap,cur,hv2,_,_,hle,_⟩
  · omega
  · simp only [Value.slice.injEq] at hv2
    omega
theorem origP_row {w : World} {B : Nat} {A' X : List Res} {ds : List DA} (h : Hold w B (A' ++ (X ++ origP ds))) {i : Nat} (hi : i < ds.length) : w.ownsRow B 3 1 (.slice (ds[i]).a (ds[i]).d.origins.length (ds[i]).c) (ds[i]).d.origins.length ((ds[i]).d.origins.flatMap intCells) :=
  h.tail.tail.row i (by unfold origP; rw [List.getElem?_map,List.getElem?_eq_getElem hi]; rfl)
theorem plan_of_hold {w : World} {B bp : Nat} {X : List Res} {s : PSt} {m : PM} (h : Hold w B (parL bp s m ++ (X ++ origP m.q.ds))) (deq : m.q.ds.map (·.d) = s.p.dests) (inv : PIn s) : PlanAt w s.p m.q := by
  have h1 := row_atP (h.row 1 rfl)
  have h2 := row_atP (h.row 2 rfl)
  have h3 := row_atP (h.row 3 rfl)
  have h4 := row_atP (h.row 4 rfl)
  have := inv.nn
  have := inv.nl
  have := inv.nd
  have := inv.nc
  refine ⟨h1.1,h2.1,h3.1,deq,fun x hx => ?_,h4.1,⟨h1.2,by omega⟩,⟨h2.2,by omega⟩,⟨h3.2,by omega⟩,⟨h4.2,by omega⟩,fun x hx => by have := inv.names x hx; omega⟩
  obtain ⟨i,hi,rfl⟩ := List.getElem_of_mem hx
  have ho := row_atP (origP_row h hi)
  have hm : (m.q.ds[i]).d ∈ s.p.dests := by rw [← deq]; exact List.mem_map_of_mem (List.getElem_mem hi)
  have := inv.orig _ hm
  exact ⟨ho.1,ho.2,by omega⟩
theorem ParAt.plan {w0 w : World} {bp : Nat} {X : List Res} {s : PSt} {m : PM} (h : ParAt w0 w bp X s m) : PlanAt w s.p m.q := plan_of_hold h.hold h.deq h.inv

theorem E93 : Proofs.Enters Tryz.prog 93 := Proofs.enters_of Tryz.func93 (by kernel_rfl) rfl

theorem E88 : Proofs.Enters Tryz.prog 88 := Proofs.enters_of Tryz.func88 (by kernel_rfl) rfl

theorem E92 : Proofs.Enters Tryz.prog 92 := Proofs.enters_of Tryz.func92 (by kernel_rfl) rfl

theorem E110 : Proofs.Enters Tryz.prog 110 := Proofs.enters_of Tryz.func110 (by kernel_rfl) rfl

theorem E113 : Proofs.Enters Tryz.prog 113 := Proofs.enters_of Tryz.func113 (by kernel_rfl) rfl

theorem E111 : Proofs.Enters Tryz.prog 111 := Proofs.enters_of Tryz.func111 (by kernel_rfl) rfl

theorem E114 : Proofs.Enters Tryz.prog 114 := Proofs.enters_of Tryz.func114 (by kernel_rfl) rfl

theorem E116 : Proofs.Enters Tryz.prog 116 := Proofs.enters_of Tryz.func116 (by kernel_rfl) rfl

theorem E115 : Proofs.Enters Tryz.prog 115 := Proofs.enters_of Tryz.func115 (by kernel_rfl) rfl

theorem E122 : Proofs.Enters Tryz.prog 122 := Proofs.enters_of Tryz.func122 (by kernel_rfl) rfl

theorem E112 : Proofs.Enters Tryz.prog 112 := Proofs.enters_of Tryz.func112 (by kernel_rfl) rfl

theorem E85 : Proofs.Enters Tryz.prog 85 := Proofs.enters_of Tryz.func85 (by kernel_rfl) rfl

theorem E86 : Proofs.Enters Tryz.prog 86 := Proofs.enters_of Tryz.func86 (by kernel_rfl) rfl

theorem E87 : Proofs.Enters Tryz.prog 87 := Proofs.enters_of Tryz.func87 (by kernel_rfl) rfl

theorem E89 : Proofs.Enters Tryz.prog 89 := Proofs.enters_of Tryz.func89 (by kernel_rfl) rfl

theorem E90 : Proofs.Enters Tryz.prog 90 := Proofs.enters_of Tryz.func90 (by kernel_rfl) rfl

theorem E91 : Proofs.Enters Tryz.prog 91 := Proofs.enters_of Tryz.func91 (by kernel_rfl) rfl

theorem E63 : Proofs.Enters Tryz.prog 63 := Proofs.enters_of Tryz.func63 (by kernel_rfl) rfl

set_option maxRecDepth 20000 in
theorem fail_any (t : Tok) (e : Int) (w : World)  :
    DoesP Tryz.prog 93 [(vT t),iv e] w (fun _ _ => False) (fun x w' => x = wrongV e t.at' ∧ Ext w w') := by
 refine startP (c := Y93) Tryz.func93 rfl (by kernel_rfl) ?_
 show G _ 9 [] _ (kAt Y93 [] []) (stz [(0,(vT t)),(1,iv e)]) w
 have hE1 : Ext w w := Ext.refl w
 have hM2 : Hold w w.heap.size [] := Hold.nil hE1.le
 refine sg0 2 (kOp Y93 [0] 0 []) [(0,(vT t)),(1,iv e)] ?_
 refine os0 (.box 49 (vT t)) (some 2) (kOp Y93 [0] 1 []) (runs_box _ _) ?_
 rintro _ w1 ⟨b1,rfl,hN3⟩
 have hE4 := hE1.trans hN3.ext
 have hM5 := hM2.new hN3
 refine sgz 7 [.ld (iv (t.at'))] (kOp Y93 [1] 5 []) [(8,.iface 96 (.agg #[iv e,iv (t.at')]))] [cl w1 b1 3 (iv (t.at'))] (A1 (cell_of (hM5.blk 0 rfl) rfl)) ?_
 refine ossP [] (.panic (.iface 96 (.agg #[iv e,iv (t.at')]))) none (kOp Y93 [1] 6 []) [] trivial (runs_panic (Φ := fun _ _ => False) (⟨rfl,hE4⟩)) (fun _ _ h => h) ?_
 exact fun _ _ h => h.elim

set_option maxRecDepth 20000 in
theorem is_any (w0 : World) (bp : Nat) (X : List Res) (s : PSt) (m : PM) (wd : Bytes) (w : World) (hA : ParAt w0 w bp X s m) :
    Does Tryz.prog 88 [pt bp 0,sv wd] w (fun v w' => v = .bool (isS wd s) ∧ w = w') := by
 refine startD (c := Y88) Tryz.func88 rfl (by kernel_rfl) ?_
 show G _ 24 [] _ (kAt Y88 [] []) (stz [(0,pt bp 0),(1,sv wd)]) w
 have hE1 : Ext w0 w := hA.ext
 have hM2 := hA.hold
 have hp3 := hA.inv.pos
 have ha4 := hA.toks.addrE tokCells_len (by decide) hp3
 refine sgz 27 [.ld (.slice m.ta s.ts.length m.tc),.ld (iv s.hd.kind),.sym,.sym,.sym,.sym,.ld (.slice m.ta s.ts.length m.tc),.sym,.sym,.sym,.ld (sv s.hd.text),.sym,.sym] (kAt Y88 [1,1] []) [(4,.bool ((decide ((s.hd.kind : Int) = (1 : Int))) && (decide (s.hd.text = wd))))] ((fun (z1 : Bool) => ([cl w bp 7 (.slice m.ta s.ts.length m.tc),(0 ≤ (0 : Int) ∧ (0 : Int) < (s.ts.length:Int)),(m.ta : Option Addr) = some ⟨(slB m.ta),slO m.ta,none⟩,cl w (slB m.ta) (slO m.ta + 0) (iv s.hd.kind),z1 = true → z1 = true,z1 = true → z1 = true,z1 = true → z1 = true,z1 = true → cl w bp 7 (.slice m.ta s.ts.length m.tc),z1 = true → z1 = true,z1 = true → (0 ≤ (0 : Int) ∧ (0 : Int) < (s.ts.length:Int)),z1 = true → (m.ta : Option Addr) = some ⟨(slB m.ta),slO m.ta,none⟩,z1 = true → z1 = true,z1 = true → z1 = true,z1 = true → cl w (slB m.ta) (slO m.ta + 0 + 1) (sv s.hd.text),z1 = true → z1 = true,z1 = true → z1 = true,z1 = true → z1 = true] : List Prop)) (decide ((s.hd.kind : Int) = (1 : Int)))) (AC (cell_of (hM2.blk 0 rfl) rfl) (AC (by omega) (AC (by assumption) (AC (hE1.cell (hd_cell hA.toks hp3 0 rfl)) (AC (fun h => h) (AC (fun h => h) (AC (fun h => h) (AC (fun _ => cell_of (hM2.blk 0 rfl) rfl) (AC (fun h => h) (AC (by intro h; (try simp only [decide_eq_true_eq] at h); first | done | omega) (AC (by intro _; assumption) (AC (fun h => h) (AC (fun h => h) (AC (fun _ => hE1.cell (hd_cell hA.toks hp3 1 rfl)) (AC (fun h => h) (AC (fun h => h) (A1 (fun h => h)))))))))))))))))) ?_
 exact ret1 (.bool ((decide ((s.hd.kind : Int) = (1 : Int))) && (decide (s.hd.text = wd)))) (⟨rfl,rfl⟩)

set_option maxRecDepth 20000 in
theorem take_any (w0 : World) (bp : Nat) (X : List Res) (s : PSt) (m : PM) (k : Int) (w : World) (hA : ParAt w0 w bp X s m) :
    DoesP Tryz.prog 92 [pt bp 0,iv k] w (fun v w' => ∃ t s' m',takeS k s = .ok (t,s') ∧ v = .agg #[.int .i64 t.kind,.string (bs t.text),.int .i64 t.n,.int .i64 t.at'] ∧ ParAt w0 w' bp X s' m') (PanP (takeS k s) w0) := by
 refine startP (c := Y92) Tryz.func92 rfl (by kernel_rfl) ?_
 show G _ 29 [] _ (kAt Y92 [] []) (stz [(0,pt bp 0),(1,iv k)]) w
 have hE1 : Ext w0 w := hA.ext
 have hM2 := hA.hold
 have hp3 := hA.inv.pos
 have ha4 := hA.toks.addrE tokCells_len (by decide) hp3
 refine sg0 2 (kOp Y92 [0] 0 []) [(0,pt bp 0),(1,iv k)] ?_
 refine os0 (.alloc 49) (some 4) (kOp Y92 [0] 1 []) (runs_alloc (z := .agg #[iv 0,sv ([]),iv 0,iv 0]) (by kernel_rfl)) ?_
 rintro _ w1 ⟨b4,rfl,hN5⟩
 have hE6 := hE1.trans hN5.ext
 have hM7 := hM2.new hN5
 refine sgz 9 [.ld (.slice m.ta s.ts.length m.tc),.ld (vT s.hd)] (kOp Y92 [1,0] 6 []) [(0,pt bp 0),(1,iv k),(4,pt b4 0),(11,(vT s.hd))] [cl w1 bp 7 (.slice m.ta s.ts.length m.tc),(0 ≤ (0 : Int) ∧ (0 : Int) < (s.ts.length:Int)),(m.ta : Option Addr) = some ⟨(slB m.ta),slO m.ta,none⟩,cl w1 (slB m.ta) (slO m.ta + 0) (iv s.hd.kind),cl w1 (slB m.ta) (slO m.ta + 0 + 1) (sv s.hd.text),cl w1 (slB m.ta) (slO m.ta + 0 + 2) (iv s.hd.n),cl w1 (slB m.ta) (slO m.ta + 0 + 3) (iv (s.hd.at'))] (AC (cell_of (hM7.blk 1 rfl) rfl) (AC (by omega) (AC (by assumption) (AC (hE6.cell (hd_cell hA.toks hp3 0 rfl)) (AC (hE6.cell (hd_cell hA.toks hp3 1 rfl)) (AC (hE6.cell (hd_cell hA.toks hp3 2 rfl)) (A1 (hE6.cell (hd_cell hA.toks hp3 3 rfl))))))))) ?_
 refine os0 (.alloc 49) (some 5) (kOp Y92 [1,0] 7 []) (runs_alloc (z := .agg #[iv 0,sv ([]),iv 0,iv 0]) (by kernel_rfl)) ?_
 rintro _ w2 ⟨b5,rfl,hN8⟩
 have hE9 := hE6.trans hN8.ext
 have hM10 := hM7.new hN8
 refine os0 (.store 49 (pt b5 0) (vT s.hd)) none (kOp Y92 [1,0] 8 []) (runs_st (hM10.blk 0 rfl) (by kernel_rfl)) ?_
 rintro _ w3 hC11
 have hE12 := hM10.toExt hE9 hC11 0 rfl
 have hM13 := hM10.set 0 rfl hC11
 refine sgz 9 [.ld (iv s.hd.kind)] (kAt Y92 [1,1,0,1] []) [(0,pt bp 0),(1,iv k),(4,pt b4 0),(5,pt b5 0),(15,.bool (!(decide ((s.hd.kind : Int) = k))))] [cl w3 b5 0 (iv s.hd.kind)] (A1 (cell_of (hM13.blk 0 rfl) rfl)) ?_
 refine brk _ (¬ ((s.hd.kind : Int) = k)) ((iffNot iffDec)) (fun h1 => ?_) (fun h1 => ?_)
 ·refine sgz 2 [.ld (vT s.hd)] (kOp Y92 [1,1,0,1,0] 1 []) [(0,pt bp 0),(1,iv k),(4,pt b4 0),(5,pt b5 0),(16,(vT s.hd))] [cl w3 b5 0 (iv s.hd.kind),cl w3 b5 1 (sv s.hd.text),cl w3 b5 2 (iv s.hd.n),cl w3 b5 3 (iv (s.hd.at'))] (AC (cell_of (hM13.blk 0 rfl) rfl) (AC (cell_of (hM13.blk 0 rfl) rfl) (AC (cell_of (hM13.blk 0 rfl) rfl) (A1 (cell_of (hM13.blk 0 rfl) rfl))))) ?_
  refine ossP [] (.call 93 [(vT s.hd),iv 40]) (some 17) (kOp Y92 [1,1,0,1,0] 2 []) [] trivial (runs_callP E93 (fail_any s.hd 40 w3)) (fun x w' ⟨hx,hE⟩ => ⟨40,s.hd.at',by unfold takeS; rw [if_neg h1],hx,hE12.trans hE⟩) ?_
  rintro _ _ ⟨⟩
 have h1 : s.hd.kind = k := Classical.not_not.1 h1
 refine sg0 7 (kAt Y92 [1,1,1,0,1] []) [(0,pt bp 0),(4,pt b4 0),(5,pt b5 0),(19,.bool (!(decide ((k : Int) = (4 : Int)))))] ?_
 refine brk _ (¬ ((k : Int) = (4 : Int))) ((iffNot iffDec)) (fun h2 => ?_) (fun h2 => ?_)
 ·refine sgz 6 [.ld (.slice m.ta s.ts.length m.tc)] (kOp Y92 [1,1,1,0,1,0] 5 []) [(4,pt b4 0),(5,pt b5 0),(20,pt bp 0),(24,.slice m.ta s.ts.length m.tc)] [cl w3 bp 7 (.slice m.ta s.ts.length m.tc)] (A1 (cell_of (hM13.blk 2 rfl) rfl)) ?_
  refine os0 (.slc 45 (.slice m.ta s.ts.length m.tc) (some (iv 1)) none none) (some 25) (kOp Y92 [1,1,1,0,1,0] 6 []) (runs_slc_lo (l := 1) tokCells_len Tryz.underlying45 (by kernel_rfl) hA.toks (by omega) hA.cap) ?_
  rintro _ _ ⟨rfl,a1,rfl,hc1⟩
  refine sg0 2 (kOp Y92 [1,1,1,0,1,0] 8 []) [(4,pt b4 0),(5,pt b5 0),(25,.slice a1 ((s.ts.drop 1).length) (m.tc - 1)),(27,pt bp 7)] ?_
  refine os0 (.store 45 (pt bp 7) (.slice a1 ((s.ts.drop 1).length) (m.tc - 1))) none (kOp Y92 [1,1,1,0,1,0] 9 []) (runs_st (hM13.blk 2 rfl) (by kernel_rfl)) ?_
  rintro _ w4 hC14
  have hE15 := hM13.toExt hE12 hC14 2 rfl
  have hM16 := hM13.set 2 rfl hC14
  refine sgz 4 [.ld (vT s.hd)] (kOp Y92 (ro1 4 [0]) 1 []) [(4,pt b4 0),(28,(vT s.hd))] [cl w4 b5 0 (iv s.hd.kind),cl w4 b5 1 (sv s.hd.text),cl w4 b5 2 (iv s.hd.n),cl w4 b5 3 (iv (s.hd.at'))] (AC (cell_of (hM16.blk 0 rfl) rfl) (AC (cell_of (hM16.blk 0 rfl) rfl) (AC (cell_of (hM16.blk 0 rfl) rfl) (A1 (cell_of (hM16.blk 0 rfl) rfl))))) ?_
  refine os0 (.store 49 (pt b4 0) (vT s.hd)) none (kOp Y92 (ro1 4 [0]) 2 []) (runs_st (hM16.blk 1 rfl) (by kernel_rfl)) ?_
  rintro _ w5 hC17
  have hE18 := hM16.toExt hE15 hC17 1 rfl
  have hM19 := hM16.set 1 rfl hC17
  refine sg0 1 (kAt Y92 (ro1 5 []) []) [(4,pt b4 0)] ?_
  have hb20 := (hM19.blk 1 rfl)
  exact retP (hs := [(vT s.hd)]) (vs := [(vT s.hd)]) (ps := [w5.cell? ⟨b4,0,none⟩ = some (iv s.hd.kind),w5.cell? ⟨b4,1,none⟩ = some (sv s.hd.text),w5.cell? ⟨b4,2,none⟩ = some (iv s.hd.n),w5.cell? ⟨b4,3,none⟩ = some (iv (s.hd.at'))]) (by kernel_rfl) (AC (cell_of hb20 rfl) (AC (cell_of hb20 rfl) (AC (cell_of hb20 rfl) (A1 (cell_of hb20 rfl))))) (v := (vT s.hd)) rfl (⟨s.hd,⟨s.p,s.ts.drop 1⟩,⟨m.q,a1,m.tc - 1⟩,by unfold takeS; rw [if_pos h1,if_neg h2],rfl,⟨hE18,(hM19.pick 7 [2,3,4,5,6] (by kernel_rfl) (by kernel_rfl)),hA.deq,hc1,(by show (s.ts.drop 1).length ≤ m.tc - 1; have := hA.cap; rw [List.length_drop]; omega),(hA.inv.drop (by rw [h1]; exact h2))⟩⟩)
 have h2 : k = 4 := Classical.not_not.1 h2
 refine sgz 4 [.ld (vT s.hd)] (kOp Y92 (ro1 4 [0]) 1 []) [(4,pt b4 0),(28,(vT s.hd))] [cl w3 b5 0 (iv s.hd.kind),cl w3 b5 1 (sv s.hd.text),cl w3 b5 2 (iv s.hd.n),cl w3 b5 3 (iv (s.hd.at'))] (AC (cell_of (hM13.blk 0 rfl) rfl) (AC (cell_of (hM13.blk 0 rfl) rfl) (AC (cell_of (hM13.blk 0 rfl) rfl) (A1 (cell_of (hM13.blk 0 rfl) rfl))))) ?_
 refine os0 (.store 49 (pt b4 0) (vT s.hd)) none (kOp Y92 (ro1 4 [0]) 2 []) (runs_st (hM13.blk 1 rfl) (by kernel_rfl)) ?_
 rintro _ w4 hC21
 have hE22 := hM13.toExt hE12 hC21 1 rfl
 have hM23 := hM13.set 1 rfl hC21
 refine sg0 1 (kAt Y92 (ro1 5 []) []) [(4,pt b4 0)] ?_
 have hb24 := (hM23.blk 1 rfl)
 exact retP (hs := [(vT s.hd)]) (vs := [(vT s.hd)]) (ps := [w4.cell? ⟨b4,0,none⟩ = some (iv s.hd.kind),w4.cell? ⟨b4,1,none⟩ = some (sv s.hd.text),w4.cell? ⟨b4,2,none⟩ = some (iv s.hd.n),w4.cell? ⟨b4,3,none⟩ = some (iv (s.hd.at'))]) (by kernel_rfl) (AC (cell_of hb24 rfl) (AC (cell_of hb24 rfl) (AC (cell_of hb24 rfl) (A1 (cell_of hb24 rfl))))) (v := (vT s.hd)) rfl (⟨s.hd,s,m,by unfold takeS; rw [if_pos h1,if_pos h2],rfl,⟨hE22,(hM23.pick 7 [2,3,4,5,6] (by kernel_rfl) (by kernel_rfl)),hA.deq,hA.toks,hA.cap,hA.inv⟩⟩)

set_option maxRecDepth 20000 in
theorem word_any (w0 : World) (bp : Nat) (X : List Res) (s : PSt) (m : PM) (wd : Bytes) (w : World) (hA : ParAt w0 w bp X s m) :
    DoesP Tryz.prog 110 [pt bp 0,sv wd] w (fun v w' => ∃ t s' m',wordS wd s = .ok (t,s') ∧ v = .agg #[.int .i64 t.kind,.string (bs t.text),.int .i64 t.n,.int .i64 t.at'] ∧ ParAt w0 w' bp X s' m') (PanP (wordS wd s) w0) := by
 refine startP (c := Y110) Tryz.func110 rfl (by kernel_rfl) ?_
 show G _ 18 [] _ (kAt Y110 [] []) (stz [(0,pt bp 0),(1,sv wd)]) w
 have hE1 : Ext w0 w := hA.ext
 have hM2 := hA.hold
 have hp3 := hA.inv.pos
 have ha4 := hA.toks.addrE tokCells_len (by decide) hp3
 refine sg0 2 (kOp Y110 [0] 0 []) [(0,pt bp 0),(1,sv wd)] ?_
 refine os0 (.alloc 49) (some 4) (kOp Y110 [0] 1 []) (runs_alloc (z := .agg #[iv 0,sv ([]),iv 0,iv 0]) (by kernel_rfl)) ?_
 rintro _ w1 ⟨b4,rfl,hN5⟩
 have hE6 := hE1.trans hN5.ext
 have hM7 := hM2.new hN5
 refine sg0 6 (kOp Y110 [1,0,0] 2 []) [(0,pt bp 0),(4,pt b4 0),(5,pt bp 0),(6,sv wd)] ?_
 have hA8 : ParAt w0 w1 bp ([.blk b4 ([iv 0,sv ([]),iv 0,iv 0]) 49] ++ X) s m := ⟨hE6,(hM7.pick 6 [1,2,3,4,5,0] (by kernel_rfl) (by kernel_rfl)),hA.deq,hA.toks,hA.cap,hA.inv⟩
 refine os0 _ (some 7) (kOp Y110 [1,0,0] 3 []) (runs_call E88 (is_any w0 bp ([.blk b4 ([iv 0,sv ([]),iv 0,iv 0]) 49] ++ X) s m wd w1 hA8)) ?_
 rintro _ _ ⟨rfl,rfl⟩
 refine sg0 2 (kAt Y110 [1,0,1] []) [(0,pt bp 0),(4,pt b4 0),(8,.bool (!(isS wd s)))] ?_
 refine brk _ (¬ ((isS wd s) = true)) ((iffNot Iff.rfl)) (fun h1 => ?_) (fun h1 => ?_)
 ·refine sgz 7 [.ld (.slice m.ta s.ts.length m.tc),.ld (vT s.hd)] (kOp Y110 [1,0,1,0] 6 []) [(0,pt bp 0),(4,pt b4 0),(14,(vT s.hd))] [cl w1 bp 7 (.slice m.ta s.ts.length m.tc),(0 ≤ (0 : Int) ∧ (0 : Int) < (s.ts.length:Int)),(m.ta : Option Addr) = some ⟨(slB m.ta),slO m.ta,none⟩,cl w1 (slB m.ta) (slO m.ta + 0) (iv s.hd.kind),cl w1 (slB m.ta) (slO m.ta + 0 + 1) (sv s.hd.text),cl w1 (slB m.ta) (slO m.ta + 0 + 2) (iv s.hd.n),cl w1 (slB m.ta) (slO m.ta + 0 + 3) (iv (s.hd.at'))] (AC (cell_of (hA8.hold.blk 0 rfl) rfl) (AC (by omega) (AC (by assumption) (AC (hE6.cell (hd_cell hA.toks hp3 0 rfl)) (AC (hE6.cell (hd_cell hA.toks hp3 1 rfl)) (AC (hE6.cell (hd_cell hA.toks hp3 2 rfl)) (A1 (hE6.cell (hd_cell hA.toks hp3 3 rfl))))))))) ?_
  refine ossP [] (.call 93 [(vT s.hd),iv 40]) (some 15) (kOp Y110 [1,0,1,0] 7 []) [] trivial (runs_callP E93 (fail_any s.hd 40 w1)) (fun x w' ⟨hx,hE⟩ => ⟨40,s.hd.at',by unfold wordS; rw [if_neg h1],hx,hE6.trans hE⟩) ?_
  rintro _ _ ⟨⟩
 have h1 : isS wd s = true := Classical.not_not.1 h1
 refine sg0 4 (kOp Y110 [1,1,0] 1 []) [(4,pt b4 0),(16,pt bp 0)] ?_
 have hA9 : ParAt w0 w1 bp ([.blk b4 ([iv 0,sv ([]),iv 0,iv 0]) 49] ++ X) s m := ⟨hE6,hA8.hold,hA.deq,hA.toks,hA.cap,hA.inv⟩
 refine ossP [] (.call 92 [pt bp 0,iv 1]) (some 17) (kOp Y110 [1,1,0] 2 []) [] trivial (runs_callP E92 (take_any w0 bp ([.blk b4 ([iv 0,sv ([]),iv 0,iv 0]) 49] ++ X) s m 1 w1 hA9)) (fun x w' ⟨e,a,he,hx,hE⟩ => ⟨e,a,by simp only [wordS,h1,if_true,he],hx,hE⟩) ?_
 rintro _ w10 ⟨t,s11,m12,hs13,rfl,hA14⟩
 have hE15 : Ext w0 w10 := hA14.ext
 have hM16 := hA14.hold
 have hp17 := hA14.inv.pos
 have ha18 := hA14.toks.addrE tokCells_len (by decide) hp17
 refine os0 (.store 49 (pt b4 0) (vT t)) none (kOp Y110 [1,1,0] 3 []) (runs_st (hM16.blk 5 rfl) (by kernel_rfl)) ?_
 rintro _ w19 hC20
 have hE21 := hM16.toExt hE15 hC20 5 rfl
 have hM22 := hM16.set 5 rfl hC20
 refine sg0 1 (kAt Y110 [1,1,1] []) [(4,pt b4 0)] ?_
 have hb23 := (hM22.blk 5 rfl)
 exact retP (hs := [(vT t)]) (vs := [(vT t)]) (ps := [w19.cell? ⟨b4,0,none⟩ = some (iv t.kind),w19.cell? ⟨b4,1,none⟩ = some (sv t.text),w19.cell? ⟨b4,2,none⟩ = some (iv t.n),w19.cell? ⟨b4,3,none⟩ = some (iv (t.at'))]) (by kernel_rfl) (AC (cell_of hb23 rfl) (AC (cell_of hb23 rfl) (AC (cell_of hb23 rfl) (A1 (cell_of hb23 rfl))))) (v := (vT t)) rfl (⟨t,s11,m12,by unfold wordS; rw [if_pos h1]; exact hs13,rfl,⟨hE21,(hM22.pick 6 [0,1,2,3,4] (by kernel_rfl) (by kernel_rfl)),hA14.deq,hA14.toks,hA14.cap,hA14.inv⟩⟩)

set_option maxRecDepth 20000 in
theorem head_any (w0 : World) (bp : Nat) (X : List Res) (s : PSt) (m : PM) (wd : Bytes) (most many : Int) (w : World) (hA : ParAt w0 w bp X s m) :
    DoesP Tryz.prog 113 [pt bp 0,sv wd,iv most,iv many] w (fun v w' => ∃ s' m',headS wd most many s = .ok s' ∧ v = .tuple #[] ∧ ParAt w0 w' bp X s' m') (PanP (headS wd most many s) w0) := by
 refine startP (c := Y113) Tryz.func113 rfl (by kernel_rfl) ?_
 show G _ 17 [] _ (kAt Y113 [] []) (stz [(0,pt bp 0),(1,sv wd),(2,iv most),(3,iv many)]) w
 have hE1 : Ext w0 w := hA.ext
 have hM2 := hA.hold
 have hp3 := hA.inv.pos
 have ha4 := hA.toks.addrE tokCells_len (by decide) hp3
 refine sg0 4 (kOp Y113 [0] 2 []) [(2,iv most),(3,iv many),(9,pt bp 0),(10,sv wd)] ?_
 have hA5 : ParAt w0 w bp X s m := ⟨hE1,hM2,hA.deq,hA.toks,hA.cap,hA.inv⟩
 refine ossP [] (.call 110 [pt bp 0,sv wd]) (some 11) (kOp Y113 [0] 3 []) [] trivial (runs_callP E110 (word_any w0 bp X s m wd w hA5)) (fun x w' ⟨e,a,he,hx,hE⟩ => ⟨e,a,by simp only [headS,he,andE_error],hx,hE⟩) ?_
 rintro _ w6 ⟨t,s7,m8,hs9,rfl,hA10⟩
 have hE11 : Ext w0 w6 := hA10.ext
 have hM12 := hA10.hold
 have hp13 := hA10.inv.pos
 have ha14 := hA10.toks.addrE tokCells_len (by decide) hp13
 refine os0 (.alloc 49) (some 8) (kOp Y113 [0] 4 []) (runs_alloc (z := .agg #[iv 0,sv ([]),iv 0,iv 0]) (by kernel_rfl)) ?_
 rintro _ w15 ⟨b8,rfl,hN16⟩
 have hE17 := hE11.trans hN16.ext
 have hM18 := hM12.new hN16
 refine os0 (.store 49 (pt b8 0) (vT t)) none (kOp Y113 [0] 5 []) (runs_st (hM18.blk 0 rfl) (by kernel_rfl)) ?_
 rintro _ w19 hC20
 have hE21 := hM18.toExt hE17 hC20 0 rfl
 have hM22 := hM18.set 0 rfl hC20
 refine sg0 7 (kAt Y113 [1,1] []) [(8,pt b8 0),(14,.bool (decide ((most : Int) ≤ many)))] ?_
 refine brd ((most : Int) ≤ many) (fun h1 => ?_) (fun h1 => ?_)
 ·refine sgz 2 [.ld (vT t)] (kOp Y113 [1,1,0] 1 []) [(15,(vT t))] [cl w19 b8 0 (iv t.kind),cl w19 b8 1 (sv t.text),cl w19 b8 2 (iv t.n),cl w19 b8 3 (iv (t.at'))] (AC (cell_of (hM22.blk 0 rfl) rfl) (AC (cell_of (hM22.blk 0 rfl) rfl) (AC (cell_of (hM22.blk 0 rfl) rfl) (A1 (cell_of (hM22.blk 0 rfl) rfl))))) ?_
  refine ossP [] (.call 93 [(vT t),iv 44]) (some 16) (kOp Y113 [1,1,0] 2 []) [] trivial (runs_callP E93 (fail_any t 44 w19)) (fun x w' ⟨hx,hE⟩ => ⟨44,t.at',by simp only [headS,hs9,andE_ok,if_pos h1],hx,hE21.trans hE⟩) ?_
  rintro _ _ ⟨⟩
 refine sgs 1 [] [] [] [] [] trivial ?_
 exact endP (hs := []) (vs := []) (ps := []) (by kernel_rfl) trivial (v := .tuple #[]) rfl (⟨s7,m8,by simp only [headS,hs9,andE_ok,if_neg h1],rfl,⟨hE21,(hM22.pick 6 [1,2,3,4,5] (by kernel_rfl) (by kernel_rfl)),hA10.deq,hA10.toks,hA10.cap,hA10.inv⟩⟩)

set_option maxRecDepth 20000 in
theorem number_anyP (w0 : World) (bp : Nat) (X : List Res) (s : PSt) (m : PM) (l u : Int) (w : World) (hA : ParAt w0 w bp X s m) :
    DoesP Tryz.prog 111 [pt bp 0,iv l,iv u] w (fun v w' => ∃ n s' m',numberS l u s = .ok (n,s') ∧ v = .int .i64 n ∧ ParAt w0 w' bp X s' m') (PanP (numberS l u s) w0) := by
 refine startP (c := Y111) Tryz.func111 rfl (by kernel_rfl) ?_
 show G _ 24 [] _ (kAt Y111 [] []) (stz [(0,pt bp 0),(1,iv l),(2,iv u)]) w
 have hE1 : Ext w0 w := hA.ext
 have hM2 := hA.hold
 have hp3 := hA.inv.pos
 have ha4 := hA.toks.addrE tokCells_len (by decide) hp3
 refine sg0 7 (kOp Y111 [1,0] 1 []) [(1,iv l),(2,iv u),(6,iv 0),(8,pt bp 0)] ?_
 have hA5 : ParAt w0 w bp X s m := ⟨hE1,hM2,hA.deq,hA.toks,hA.cap,hA.inv⟩
 refine ossP [] (.call 92 [pt bp 0,iv 2]) (some 9) (kOp Y111 [1,0] 2 []) [] trivial (runs_callP E92 (take_any w0 bp X s m 2 w hA5)) (fun x w' ⟨e,a,he,hx,hE⟩ => ⟨e,a,by simp only [numberS,he,andE_error],hx,hE⟩) ?_
 rintro _ w6 ⟨t,s7,m8,hs9,rfl,hA10⟩
 have hE11 : Ext w0 w6 := hA10.ext
 have hM12 := hA10.hold
 have hp13 := hA10.inv.pos
 have ha14 := hA10.toks.addrE tokCells_len (by decide) hp13
 refine os0 (.alloc 49) (some 7) (kOp Y111 [1,0] 3 []) (runs_alloc (z := .agg #[iv 0,sv ([]),iv 0,iv 0]) (by kernel_rfl)) ?_
 rintro _ w15 ⟨b8,rfl,hN16⟩
 have hE17 := hE11.trans hN16.ext
 have hM18 := hM12.new hN16
 refine os0 (.store 49 (pt b8 0) (vT t)) none (kOp Y111 [1,0] 4 []) (runs_st (hM18.blk 0 rfl) (by kernel_rfl)) ?_
 rintro _ w19 hC20
 have hE21 := hM18.toExt hE17 hC20 0 rfl
 have hM22 := hM18.set 0 rfl hC20
 refine sgz 15 [.ld (iv t.n),.sym,.sym,.ld (iv t.n),.sym,.sym] (kAt Y111 [1,1,0,1] []) [(6,iv 0),(7,pt b8 0),(19,.bool ((decide ((t.n : Int) < l)) || (decide ((u : Int) < t.n))))] ((fun (z1 : Bool) => ([cl w19 b8 2 (iv t.n),z1 = true → z1 = true,z1 = true → cl w19 b8 2 (iv t.n),z1 = true → z1 = true,z1 = true → z1 = true,z1 = true → z1 = true] : List Prop)) (!(decide ((t.n : Int) < l)))) (AC (cell_of (hM22.blk 0 rfl) rfl) (AC (fun h => h) (AC (fun _ => cell_of (hM22.blk 0 rfl) rfl) (AC (fun h => h) (AC (fun h => h) (A1 (fun h => h))))))) ?_
 refine brk _ (((t.n : Int) < l) ∨ ((u : Int) < t.n)) ((iffOr iffDec iffDec)) (fun h1 => ?_) (fun h1 => ?_)
 ·refine sgz 2 [.ld (vT t)] (kOp Y111 [1,1,0,1,0] 1 []) [(6,iv 0),(7,pt b8 0),(20,(vT t))] [cl w19 b8 0 (iv t.kind),cl w19 b8 1 (sv t.text),cl w19 b8 2 (iv t.n),cl w19 b8 3 (iv (t.at'))] (AC (cell_of (hM22.blk 0 rfl) rfl) (AC (cell_of (hM22.blk 0 rfl) rfl) (AC (cell_of (hM22.blk 0 rfl) rfl) (A1 (cell_of (hM22.blk 0 rfl) rfl))))) ?_
  refine ossP [] (.call 93 [(vT t),iv 42]) (some 21) (kOp Y111 [1,1,0,1,0] 2 []) [] trivial (runs_callP E93 (fail_any t 42 w19)) (fun x w' ⟨hx,hE⟩ => ⟨42,t.at',by simp only [numberS,hs9,andE_ok,if_pos h1],hx,hE21.trans hE⟩) ?_
  rintro _ _ ⟨⟩
 refine sgz 7 [.ld (iv t.n)] (kAt Y111 (ro1 4 []) []) [(6,iv t.n)] [cl w19 b8 2 (iv t.n)] (A1 (cell_of (hM22.blk 0 rfl) rfl)) ?_
 exact retP (hs := []) (vs := [iv t.n]) (ps := []) (by kernel_rfl) trivial (v := iv t.n) rfl (⟨t.n,s7,m8,by simp only [numberS,hs9,andE_ok,if_neg h1],rfl,⟨hE21,(hM22.pick 6 [1,2,3,4,5] (by kernel_rfl) (by kernel_rfl)),hA10.deq,hA10.toks,hA10.cap,hA10.inv⟩⟩)

set_option maxRecDepth 20000 in
theorem stop_any (w0 : World) (bp : Nat) (X : List Res) (s : PSt) (m : PM) (w : World) (hA : ParAt w0 w bp X s m) :
    DoesP Tryz.prog 112 [pt bp 0] w (fun v w' => ∃ s' m',stopS s = .ok s' ∧ v = .tuple #[] ∧ ParAt w0 w' bp X s' m') (PanP (stopS s) w0) := by
 refine startP (c := Y112) Tryz.func112 rfl (by kernel_rfl) ?_
 show G _ 4 [] _ (kAt Y112 [] []) (stz [(0,pt bp 0)]) w
 have hE1 : Ext w0 w := hA.ext
 have hM2 := hA.hold
 have hp3 := hA.inv.pos
 have ha4 := hA.toks.addrE tokCells_len (by decide) hp3
 refine sg0 2 (kOp Y112 [] 1 []) [(2,pt bp 0)] ?_
 have hA5 : ParAt w0 w bp X s m := ⟨hE1,hM2,hA.deq,hA.toks,hA.cap,hA.inv⟩
 refine ossP [] (.call 92 [pt bp 0,iv 3]) (some 3) (kOp Y112 [] 2 []) [] trivial (runs_callP E92 (take_any w0 bp X s m 3 w hA5)) (fun x w' ⟨e,a,he,hx,hE⟩ => ⟨e,a,by simp only [stopS,he,andE_error],hx,hE⟩) ?_
 rintro _ w6 ⟨t,s7,m8,hs9,rfl,hA10⟩
 have hE11 : Ext w0 w6 := hA10.ext
 have hM12 := hA10.hold
 have hp13 := hA10.inv.pos
 have ha14 := hA10.toks.addrE tokCells_len (by decide) hp13
 refine sgs 1 [] [] [] [] [] trivial ?_
 exact endP (hs := []) (vs := []) (ps := []) (by kernel_rfl) trivial (v := .tuple #[]) rfl (⟨s7,m8,by simp only [stopS,hs9,andE_ok],rfl,⟨hE11,hM12,hA10.deq,hA10.toks,hA10.cap,hA10.inv⟩⟩)

end Go.Proofs.YtjhgghpeapmgdaaGreatDoor
