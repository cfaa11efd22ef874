/-
  Texts that belong together: ParA, PlanSort.
-/
import Derived.Test.YtjhgghpeapmgdaaGreatDoorMg1
import Derived.Test.YtjhgghpeapmgdaaGreatDoorParSpec
import Derived.Test.YtjhgghpeapmgdaaGreatDoorPan
import Derived.Test.YtjhgghpeapmgdaaGreatDoorPlanD
import Derived.Test.YtjhgghpeapmgdaaGreatDoorLz
import Derived.Test.YtjhgghpeapmgdaaGreatDoorMg2
import Derived.Test.YtjhgghpeapmgdaaGreatDoorPlanRight
import Derived.Lib.SlicesCompact
import Derived.Lib.Join
/-
  PARSE: what the parser holds; contracts of its small methods.
-/
namespace Go.Proofs.YtjhgghpeapmgdaaGreatDoor
open Go.Bk Go.Proofs

structure PM where
  q : PAd
  ta : Option Addr
  tc : Nat
def origP (ds : List DA) : List Res := ds.map fun x => .row (.slice x.a x.d.origins.length x.c) 3 1 x.d.origins.length (x.d.origins.flatMap intCells)
def parL (bp : Nat) (s : PSt) (m : PM) : List Res :=
  [.blk bp ([iv s.p.proto,iv s.p.cap,iv s.p.k,.slice m.q.a1 s.p.nodes.length m.q.c1,.slice m.q.a2 s.p.links.length m.q.c2,.slice m.q.a3 s.p.dests.length m.q.c3,.slice m.q.a4 s.p.checks.length m.q.c4,.slice m.ta s.ts.length m.tc]) 100,.row (.slice m.q.a1 s.p.nodes.length m.q.c1) 52 2 s.p.nodes.length (s.p.nodes.flatMap nodeC),.row (.slice m.q.a2 s.p.links.length m.q.c2) 61 3 s.p.links.length (s.p.links.flatMap linkC),.row (.slice m.q.a3 s.p.dests.length m.q.c3) 54 2 s.p.dests.length (m.q.ds.flatMap destC),.row (.slice m.q.a4 s.p.checks.length m.q.c4) 67 5 s.p.checks.length (s.p.checks.flatMap checkC)]
structure ParAt (w0 w : World) (bp : Nat) (X : List Res) (s : PSt) (m : PM) : Prop where
  ext : Ext w0 w
  hold : Hold w w0.heap.size (parL bp s m ++ (X ++ origP m.q.ds))
  deq : m.q.ds.map (·.d) = s.p.dests
  toks : Cells w0 m.ta (s.ts.flatMap tokCells)
  cap : s.ts.length ≤ m.tc
  inv : PIn s
def wrongV (e a : Int) : Value := .iface 96 (.agg #[.int .i64 e,.int .i64 a])
def PanP {α : Type} (r : PE α) (w0 : World) (x : Value) (w' : World) : Prop := ∃ e a,r = .error (e,a) ∧ x = wrongV e a ∧ Ext w0 w'
theorem hd_cell {w : World} {a : Option Addr} {s : PSt} (h : Cells w a (s.ts.flatMap tokCells)) (hp : 0 < s.ts.length) (j : Nat) {v : Value} (hv : (tokCells s.hd)[j]? = some v) : w.cell? ⟨slB a,slO a + 0 + j,none⟩ = some v := by
  have := h.elem tokCells_len (i := 0) (j := j) (x := s.hd) (v := v) (by unfold PSt.hd; rw [List.getD_eq_getElem?_getD,List.getElem?_eq_getElem hp]; rfl) hv
  simpa using this
theorem row_atP {w : World} {B : Nat} {e : TypeId} {size n c : Nat} {a : Option Addr} {xs : List Value} (h : w.ownsRow B e size (.slice a n c) n xs) : Cells w a xs ∧ n ≤ c := by
  obtain ⟨a',c',hv,hc⟩ := SlV.of_owns h
  simp only [Value.slice.injEq] at hv
  refine ⟨by rw [hv.1]; exact hc,?_⟩
  rcases h.2 with ⟨_,h0⟩ | ⟨g,cap,cur,hv2,_,_,hle,_⟩
  · omega
  · simp only [Value.slice.injEq] at hv2
    omega
theorem origP_row {w : World} {B : Nat} {A' X : List Res} {ds : List DA} (h : Hold w B (A' ++ (X ++ origP ds))) {i : Nat} (hi : i < ds.length) : w.ownsRow B 3 1 (.slice (ds[i]).a (ds[i]).d.origins.length (ds[i]).c) (ds[i]).d.origins.length ((ds[i]).d.origins.flatMap intCells) :=
  h.tail.tail.row i (by unfold origP; rw [List.getElem?_map,List.getElem?_eq_getElem hi]; rfl)
theorem plan_of_hold {w : World} {B bp : Nat} {X : List Res} {s : PSt} {m : PM} (h : Hold w B (parL bp s m ++ (X ++ origP m.q.ds))) (deq : m.q.ds.map (·.d) = s.p.dests) (inv : PIn s) : PlanAt w s.p m.q := by
  have h1 := row_atP (h.row 1 rfl)
  have h2 := row_atP (h.row 2 rfl)
  have h3 := row_atP (h.row 3 rfl)
  have h4 := row_atP (h.row 4 rfl)
  have := inv.nn
  have := inv.nl
  have := inv.nd
  have := inv.nc
  refine ⟨h1.1,h2.1,h3.1,deq,fun x hx => ?_,h4.1,⟨h1.2,by omega⟩,⟨h2.2,by omega⟩,⟨h3.2,by omega⟩,⟨h4.2,by omega⟩,fun x hx => by have := inv.names x hx; omega⟩
  obtain ⟨i,hi,rfl⟩ := List.getElem_of_mem hx
  have ho := row_atP (origP_row h hi)
  have hm : (m.q.ds[i]).d ∈ s.p.dests := by rw [← deq]; exact List.mem_map_of_mem (List.getElem_mem hi)
  have := inv.orig _ hm
  exact ⟨ho.1,ho.2,by omega⟩
theorem ParAt.plan {w0 w : World} {bp : Nat} {X : List Res} {s : PSt} {m : PM} (h : ParAt w0 w bp X s m) : PlanAt w s.p m.q := plan_of_hold h.hold h.deq h.inv

theorem E93 : Proofs.Enters Tryz.prog 93 := Proofs.enters_of Tryz.func93 (by kernel_rfl) rfl

theorem E88 : Proofs.Enters Tryz.prog 88 := Proofs.enters_of Tryz.func88 (by kernel_rfl) rfl

theorem E92 : Proofs.Enters Tryz.prog 92 := Proofs.enters_of Tryz.func92 (by kernel_rfl) rfl

theorem E110 : Proofs.Enters Tryz.prog 110 := Proofs.enters_of Tryz.func110 (by kernel_rfl) rfl

theorem E113 : Proofs.Enters Tryz.prog 113 := Proofs.enters_of Tryz.func113 (by kernel_rfl) rfl

theorem E111 : Proofs.Enters Tryz.prog 111 := Proofs.enters_of Tryz.func111 (by kernel_rfl) rfl

theorem E114 : Proofs.Enters Tryz.prog 114 := Proofs.enters_of Tryz.func114 (by kernel_rfl) rfl

theorem E116 : Proofs.Enters Tryz.prog 116 := Proofs.enters_of Tryz.func116 (by kernel_rfl) rfl

theorem E115 : Proofs.Enters Tryz.prog 115 := Proofs.enters_of Tryz.func115 (by kernel_rfl) rfl

theorem E122 : Proofs.Enters Tryz.prog 122 := Proofs.enters_of Tryz.func122 (by kernel_rfl) rfl

theorem E112 : Proofs.Enters Tryz.prog 112 := Proofs.enters_of Tryz.func112 (by kernel_rfl) rfl

theorem E85 : Proofs.Enters Tryz.prog 85 := Proofs.enters_of Tryz.func85 (by kernel_rfl) rfl

theorem E86 : Proofs.Enters Tryz.prog 86 := Proofs.enters_of Tryz.func86 (by kernel_rfl) rfl

theorem E87 : Proofs.Enters Tryz.prog 87 := Proofs.enters_of Tryz.func87 (by kernel_rfl) rfl

theorem E89 : Proofs.Enters Tryz.prog 89 := Proofs.enters_of Tryz.func89 (by kernel_rfl) rfl

theorem E90 : Proofs.Enters Tryz.prog 90 := Proofs.enters_of Tryz.func90 (by kernel_rfl) rfl

theorem E91 : Proofs.Enters Tryz.prog 91 := Proofs.enters_of Tryz.func91 (by kernel_rfl) rfl

theorem E63 : Proofs.Enters Tryz.prog 63 := Proofs.enters_of Tryz.func63 (by kernel_rfl) rfl

set_option maxRecDepth 20000 in
theorem fail_any (t : Tok) (e : Int) (w : World)  :
    DoesP Tryz.prog 93 [(vT t),iv e] w (fun _ _ => False) (fun x w' => x = wrongV e t.at' ∧ Ext w w') := by
 refine startZP (c := Y93) Tryz.func93 rfl (by kernel_rfl) ?_
 show H _ 9 [] _ (kAt Y93 [] []) (stz [(0,(vT t)),(1,iv e)]) w
 have hE1 : Ext w w := Ext.refl w
 have hM2 : Hold w w.heap.size [] := Hold.nil hE1.le
 refine Zb 2 49 (vT t) [iv t.kind,sv t.text,iv t.n,iv (t.at')] hE1 hM2 ?_
 intro b1 w1 hE4 hM5
 refine Zh 7 [.c 0 3] hM5 trivial ?_
 refine ZoP 0 [] (.panic (.iface 96 (.agg #[iv e,iv (t.at')]))) [] trivial (runs_panic (Φ := fun _ _ => False) (⟨rfl,hE4⟩)) (fun _ _ h => h) ?_
 exact fun _ _ h => h.elim

set_option maxRecDepth 20000 in
theorem is_any (w0 : World) (bp : Nat) (X : List Res) (s : PSt) (m : PM) (wd : Bytes) (w : World) (hA : ParAt w0 w bp X s m) :
    Does Tryz.prog 88 [pt bp 0,sv wd] w (fun v w' => v = .bool (isS wd s) ∧ w = w') := by
 refine startZ (c := Y88) Tryz.func88 rfl (by kernel_rfl) ?_
 show H _ 24 [] _ (kAt Y88 [] []) (stz [(0,pt bp 0),(1,sv wd)]) w
 have hE1 : Ext w0 w := hA.ext
 have hM2 := hA.hold
 have hp3 := hA.inv.pos
 have ha4 := hA.toks.addrE tokCells_len (by decide) hp3
 refine Zf 27 [.c 0 7,.p (fun _ => (0 ≤ (0 : Int) ∧ (0 : Int) < (s.ts.length:Int))),.p (fun _ => (m.ta : Option Addr) = some ⟨(slB m.ta),slO m.ta,none⟩),.p (fun _ => w.cell? ⟨(slB m.ta),slO m.ta + 0,none⟩ = some (iv s.hd.kind)),.gn 0,.gn 0,.gn 0,.v (iv s.hd.kind),.y,.y,.y,.y,.gc 0 0 7,.gn 0,.p (fun _ => (decide ((s.hd.kind : Int) = (1 : Int))) = true → (0 ≤ (0 : Int) ∧ (0 : Int) < (s.ts.length:Int))),.p (fun _ => (decide ((s.hd.kind : Int) = (1 : Int))) = true → (m.ta : Option Addr) = some ⟨(slB m.ta),slO m.ta,none⟩),.gn 0,.gn 0,.p (fun _ => (decide ((s.hd.kind : Int) = (1 : Int))) = true → cl w (slB m.ta) (slO m.ta + 0 + 1) (sv s.hd.text)),.gn 0,.gn 0,.gn 0,.y,.y,.y,.v (sv s.hd.text),.y,.y] hM2 [] trivial [decide ((s.hd.kind : Int) = (1 : Int))] (AC (by omega) (AC (by assumption) (AC (hE1.cell (hd_cell hA.toks hp3 0 rfl)) (AC (by intro h; (try simp only [decide_eq_true_eq] at h); first | done | omega) (AC (by intro _; assumption) (A1 (fun _ => hE1.cell (hd_cell hA.toks hp3 1 rfl)))))))) ?_
 exact Z1 0 (.bool ((decide ((s.hd.kind : Int) = (1 : Int))) && (decide (s.hd.text = wd)))) (⟨rfl,rfl⟩)

set_option maxRecDepth 20000 in
theorem take_any (w0 : World) (bp : Nat) (X : List Res) (s : PSt) (m : PM) (k : Int) (w : World) (hA : ParAt w0 w bp X s m) :
    DoesP Tryz.prog 92 [pt bp 0,iv k] w (fun v w' => ∃ t s' m',takeS k s = .ok (t,s') ∧ v = .agg #[.int .i64 t.kind,.string (bs t.text),.int .i64 t.n,.int .i64 t.at'] ∧ ParAt w0 w' bp X s' m') (PanP (takeS k s) w0) := by
 refine startZP (c := Y92) Tryz.func92 rfl (by kernel_rfl) ?_
 show H _ 29 [] _ (kAt Y92 [] []) (stz [(0,pt bp 0),(1,iv k)]) w
 have hE1 : Ext w0 w := hA.ext
 have hM2 := hA.hold
 have hp3 := hA.inv.pos
 have ha4 := hA.toks.addrE tokCells_len (by decide) hp3
 refine Za 2 49 [iv 0,sv ([]),iv 0,iv 0] hE1 hM2 ?_
 intro b4 w1 hE6 hM7
 refine Zh 9 [.c 1 7,.p (fun _ => (0 ≤ (0 : Int) ∧ (0 : Int) < (s.ts.length:Int))),.p (fun _ => (m.ta : Option Addr) = some ⟨(slB m.ta),slO m.ta,none⟩),.p (fun _ => w1.cell? ⟨(slB m.ta),slO m.ta + 0,none⟩ = some (iv s.hd.kind)),.p (fun _ => w1.cell? ⟨(slB m.ta),slO m.ta + 0 + 1,none⟩ = some (sv s.hd.text)),.p (fun _ => w1.cell? ⟨(slB m.ta),slO m.ta + 0 + 2,none⟩ = some (iv s.hd.n)),.p (fun _ => w1.cell? ⟨(slB m.ta),slO m.ta + 0 + 3,none⟩ = some (iv (s.hd.at'))),.v (vT s.hd)] hM7 (AC (by omega) (AC (by assumption) (AC (hE6.cell (hd_cell hA.toks hp3 0 rfl)) (AC (hE6.cell (hd_cell hA.toks hp3 1 rfl)) (AC (hE6.cell (hd_cell hA.toks hp3 2 rfl)) (A1 (hE6.cell (hd_cell hA.toks hp3 3 rfl)))))))) ?_
 refine Za 0 49 [iv 0,sv ([]),iv 0,iv 0] hE6 hM7 ?_
 intro b5 w2 hE9 hM10
 refine Zt 0 0 0 (vT s.hd) rfl hE9 hM10 ?_
 intro w3 hE12 hM13
 refine Zh 9 [.c 0 0] hM13 trivial ?_
 refine Zr 0 _ (¬ ((s.hd.kind : Int) = k)) ((iffNot iffDec)) (fun h1 => ?_) (fun h1 => ?_)
 ·refine Zh 2 [.a 0 0 4] hM13 trivial ?_
  refine ZlP 0 E93 (fail_any s.hd 40 w3) (fun x w' ⟨hx,hE⟩ => ⟨40,s.hd.at',by unfold takeS; rw [if_neg h1],hx,hE12.trans hE⟩) ?_
  rintro _ _ ⟨⟩
 have h1 : s.hd.kind = k := Classical.not_not.1 h1
 refine Zr 7 _ (¬ ((k : Int) = (4 : Int))) ((iffNot iffDec)) (fun h2 => ?_) (fun h2 => ?_)
 ·refine Zh 6 [.c 2 7] hM13 trivial ?_
  refine Z0 0 (.slc 45 (.slice m.ta s.ts.length m.tc) (some (iv 1)) none none) (runs_slc_lo (l := 1) tokCells_len Tryz.underlying45 (by kernel_rfl) hA.toks (by omega) hA.cap) ?_
  rintro _ _ ⟨rfl,a1,rfl,hc1⟩
  refine Zt 2 2 7 (.slice a1 ((s.ts.drop 1).length) (m.tc - 1)) rfl hE12 hM13 ?_
  intro w4 hE15 hM16
  refine Zh 4 [.a 0 0 4] hM16 trivial ?_
  refine Zt 0 1 0 (vT s.hd) rfl hE15 hM16 ?_
  intro w5 hE18 hM19
  have hb20 := (hM19.blk 1 rfl)
  exact ZeP 1 [(vT s.hd)] [(vT s.hd)] [w5.cell? ⟨b4,0,none⟩ = some (iv s.hd.kind),w5.cell? ⟨b4,1,none⟩ = some (sv s.hd.text),w5.cell? ⟨b4,2,none⟩ = some (iv s.hd.n),w5.cell? ⟨b4,3,none⟩ = some (iv (s.hd.at'))] (AC (cell_of hb20 rfl) (AC (cell_of hb20 rfl) (AC (cell_of hb20 rfl) (A1 (cell_of hb20 rfl))))) (v := (vT s.hd)) rfl (⟨s.hd,⟨s.p,s.ts.drop 1⟩,⟨m.q,a1,m.tc - 1⟩,by unfold takeS; rw [if_pos h1,if_neg h2],rfl,⟨hE18,(hM19.pick 7 [2,3,4,5,6] (by kernel_rfl) (by kernel_rfl)),hA.deq,hc1,(by show (s.ts.drop 1).length ≤ m.tc - 1; have := hA.cap; rw [List.length_drop]; omega),(hA.inv.drop (by rw [h1]; exact h2))⟩⟩)
 have h2 : k = 4 := Classical.not_not.1 h2
 refine Zh 4 [.a 0 0 4] hM13 trivial ?_
 refine Zt 0 1 0 (vT s.hd) rfl hE12 hM13 ?_
 intro w4 hE22 hM23
 have hb24 := (hM23.blk 1 rfl)
 exact ZeP 1 [(vT s.hd)] [(vT s.hd)] [w4.cell? ⟨b4,0,none⟩ = some (iv s.hd.kind),w4.cell? ⟨b4,1,none⟩ = some (sv s.hd.text),w4.cell? ⟨b4,2,none⟩ = some (iv s.hd.n),w4.cell? ⟨b4,3,none⟩ = some (iv (s.hd.at'))] (AC (cell_of hb24 rfl) (AC (cell_of hb24 rfl) (AC (cell_of hb24 rfl) (A1 (cell_of hb24 rfl))))) (v := (vT s.hd)) rfl (⟨s.hd,s,m,by unfold takeS; rw [if_pos h1,if_pos h2],rfl,⟨hE22,(hM23.pick 7 [2,3,4,5,6] (by kernel_rfl) (by kernel_rfl)),hA.deq,hA.toks,hA.cap,hA.inv⟩⟩)

set_option maxRecDepth 20000 in
theorem word_any (w0 : World) (bp : Nat) (X : List Res) (s : PSt) (m : PM) (wd : Bytes) (w : World) (hA : ParAt w0 w bp X s m) :
    DoesP Tryz.prog 110 [pt bp 0,sv wd] w (fun v w' => ∃ t s' m',wordS wd s = .ok (t,s') ∧ v = .agg #[.int .i64 t.kind,.string (bs t.text),.int .i64 t.n,.int .i64 t.at'] ∧ ParAt w0 w' bp X s' m') (PanP (wordS wd s) w0) := by
 refine startZP (c := Y110) Tryz.func110 rfl (by kernel_rfl) ?_
 show H _ 18 [] _ (kAt Y110 [] []) (stz [(0,pt bp 0),(1,sv wd)]) w
 have hE1 : Ext w0 w := hA.ext
 have hM2 := hA.hold
 have hp3 := hA.inv.pos
 have ha4 := hA.toks.addrE tokCells_len (by decide) hp3
 refine Za 2 49 [iv 0,sv ([]),iv 0,iv 0] hE1 hM2 ?_
 intro b4 w1 hE6 hM7
 have hA8 : ParAt w0 w1 bp ([.blk b4 ([iv 0,sv ([]),iv 0,iv 0]) 49] ++ X) s m := ⟨hE6,(hM7.pick 6 [1,2,3,4,5,0] (by kernel_rfl) (by kernel_rfl)),hA.deq,hA.toks,hA.cap,hA.inv⟩
 refine Zl 6 E88 (is_any w0 bp ([.blk b4 ([iv 0,sv ([]),iv 0,iv 0]) 49] ++ X) s m wd w1 hA8) ?_
 rintro _ _ ⟨rfl,rfl⟩
 refine Zr 2 _ (¬ ((isS wd s) = true)) ((iffNot Iff.rfl)) (fun h1 => ?_) (fun h1 => ?_)
 ·refine Zh 7 [.c 0 7,.p (fun _ => (0 ≤ (0 : Int) ∧ (0 : Int) < (s.ts.length:Int))),.p (fun _ => (m.ta : Option Addr) = some ⟨(slB m.ta),slO m.ta,none⟩),.p (fun _ => w1.cell? ⟨(slB m.ta),slO m.ta + 0,none⟩ = some (iv s.hd.kind)),.p (fun _ => w1.cell? ⟨(slB m.ta),slO m.ta + 0 + 1,none⟩ = some (sv s.hd.text)),.p (fun _ => w1.cell? ⟨(slB m.ta),slO m.ta + 0 + 2,none⟩ = some (iv s.hd.n)),.p (fun _ => w1.cell? ⟨(slB m.ta),slO m.ta + 0 + 3,none⟩ = some (iv (s.hd.at'))),.v (vT s.hd)] hA8.hold (AC (by omega) (AC (by assumption) (AC (hE6.cell (hd_cell hA.toks hp3 0 rfl)) (AC (hE6.cell (hd_cell hA.toks hp3 1 rfl)) (AC (hE6.cell (hd_cell hA.toks hp3 2 rfl)) (A1 (hE6.cell (hd_cell hA.toks hp3 3 rfl)))))))) ?_
  refine ZlP 0 E93 (fail_any s.hd 40 w1) (fun x w' ⟨hx,hE⟩ => ⟨40,s.hd.at',by unfold wordS; rw [if_neg h1],hx,hE6.trans hE⟩) ?_
  rintro _ _ ⟨⟩
 have h1 : isS wd s = true := Classical.not_not.1 h1
 have hA9 : ParAt w0 w1 bp ([.blk b4 ([iv 0,sv ([]),iv 0,iv 0]) 49] ++ X) s m := ⟨hE6,hA8.hold,hA.deq,hA.toks,hA.cap,hA.inv⟩
 refine ZlP 4 E92 (take_any w0 bp ([.blk b4 ([iv 0,sv ([]),iv 0,iv 0]) 49] ++ X) s m 1 w1 hA9) (fun x w' ⟨e,a,he,hx,hE⟩ => ⟨e,a,by simp only [wordS,h1,if_true,he],hx,hE⟩) ?_
 rintro _ w10 ⟨t,s11,m12,hs13,rfl,hA14⟩
 have hE15 : Ext w0 w10 := hA14.ext
 have hM16 := hA14.hold
 have hp17 := hA14.inv.pos
 have ha18 := hA14.toks.addrE tokCells_len (by decide) hp17
 refine Zt 0 5 0 (vT t) rfl hE15 hM16 ?_
 intro w19 hE21 hM22
 have hb23 := (hM22.blk 5 rfl)
 exact ZeP 1 [(vT t)] [(vT t)] [w19.cell? ⟨b4,0,none⟩ = some (iv t.kind),w19.cell? ⟨b4,1,none⟩ = some (sv t.text),w19.cell? ⟨b4,2,none⟩ = some (iv t.n),w19.cell? ⟨b4,3,none⟩ = some (iv (t.at'))] (AC (cell_of hb23 rfl) (AC (cell_of hb23 rfl) (AC (cell_of hb23 rfl) (A1 (cell_of hb23 rfl))))) (v := (vT t)) rfl (⟨t,s11,m12,by unfold wordS; rw [if_pos h1]; exact hs13,rfl,⟨hE21,(hM22.pick 6 [0,1,2,3,4] (by kernel_rfl) (by kernel_rfl)),hA14.deq,hA14.toks,hA14.cap,hA14.inv⟩⟩)

set_option maxRecDepth 20000 in
theorem head_any (w0 : World) (bp : Nat) (X : List Res) (s : PSt) (m : PM) (wd : Bytes) (most many : Int) (w : World) (hA : ParAt w0 w bp X s m) :
    DoesP Tryz.prog 113 [pt bp 0,sv wd,iv most,iv many] w (fun v w' => ∃ s' m',headS wd most many s = .ok s' ∧ v = .tuple #[] ∧ ParAt w0 w' bp X s' m') (PanP (headS wd most many s) w0) := by
 refine startZP (c := Y113) Tryz.func113 rfl (by kernel_rfl) ?_
 show H _ 17 [] _ (kAt Y113 [] []) (stz [(0,pt bp 0),(1,sv wd),(2,iv most),(3,iv many)]) w
 have hE1 : Ext w0 w := hA.ext
 have hM2 := hA.hold
 have hp3 := hA.inv.pos
 have ha4 := hA.toks.addrE tokCells_len (by decide) hp3
 have hA5 : ParAt w0 w bp X s m := ⟨hE1,hM2,hA.deq,hA.toks,hA.cap,hA.inv⟩
 refine ZlP 4 E110 (word_any w0 bp X s m wd w hA5) (fun x w' ⟨e,a,he,hx,hE⟩ => ⟨e,a,by simp only [headS,he,andE_error],hx,hE⟩) ?_
 rintro _ w6 ⟨t,s7,m8,hs9,rfl,hA10⟩
 have hE11 : Ext w0 w6 := hA10.ext
 have hM12 := hA10.hold
 have hp13 := hA10.inv.pos
 have ha14 := hA10.toks.addrE tokCells_len (by decide) hp13
 refine Za 0 49 [iv 0,sv ([]),iv 0,iv 0] hE11 hM12 ?_
 intro b8 w15 hE17 hM18
 refine Zt 0 0 0 (vT t) rfl hE17 hM18 ?_
 intro w19 hE21 hM22
 refine Zq 7 ((most : Int) ≤ many) (fun h1 => ?_) (fun h1 => ?_)
 ·refine Zh 2 [.a 0 0 4] hM22 trivial ?_
  refine ZlP 0 E93 (fail_any t 44 w19) (fun x w' ⟨hx,hE⟩ => ⟨44,t.at',by simp only [headS,hs9,andE_ok,if_pos h1],hx,hE21.trans hE⟩) ?_
  rintro _ _ ⟨⟩
 exact ZeP 1 [] [] [] trivial (v := .tuple #[]) rfl (⟨s7,m8,by simp only [headS,hs9,andE_ok,if_neg h1],rfl,⟨hE21,(hM22.pick 6 [1,2,3,4,5] (by kernel_rfl) (by kernel_rfl)),hA10.deq,hA10.toks,hA10.cap,hA10.inv⟩⟩)

set_option maxRecDepth 20000 in
theorem number_anyP (w0 : World) (bp : Nat) (X : List Res) (s : PSt) (m : PM) (l u : Int) (w : World) (hA : ParAt w0 w bp X s m) :
    DoesP Tryz.prog 111 [pt bp 0,iv l,iv u] w (fun v w' => ∃ n s' m',numberS l u s = .ok (n,s') ∧ v = .int .i64 n ∧ ParAt w0 w' bp X s' m') (PanP (numberS l u s) w0) := by
 refine startZP (c := Y111) Tryz.func111 rfl (by kernel_rfl) ?_
 show H _ 24 [] _ (kAt Y111 [] []) (stz [(0,pt bp 0),(1,iv l),(2,iv u)]) w
 have hE1 : Ext w0 w := hA.ext
 have hM2 := hA.hold
 have hp3 := hA.inv.pos
 have ha4 := hA.toks.addrE tokCells_len (by decide) hp3
 have hA5 : ParAt w0 w bp X s m := ⟨hE1,hM2,hA.deq,hA.toks,hA.cap,hA.inv⟩
 refine ZlP 7 E92 (take_any w0 bp X s m 2 w hA5) (fun x w' ⟨e,a,he,hx,hE⟩ => ⟨e,a,by simp only [numberS,he,andE_error],hx,hE⟩) ?_
 rintro _ w6 ⟨t,s7,m8,hs9,rfl,hA10⟩
 have hE11 : Ext w0 w6 := hA10.ext
 have hM12 := hA10.hold
 have hp13 := hA10.inv.pos
 have ha14 := hA10.toks.addrE tokCells_len (by decide) hp13
 refine Za 0 49 [iv 0,sv ([]),iv 0,iv 0] hE11 hM12 ?_
 intro b8 w15 hE17 hM18
 refine Zt 0 0 0 (vT t) rfl hE17 hM18 ?_
 intro w19 hE21 hM22
 refine Zf 15 [.c 0 2,.gn 0,.y,.y,.gc 0 0 2,.gn 0,.gn 0,.gn 0,.y,.y] hM22 [] trivial [!(decide ((t.n : Int) < l))] trivial ?_
 refine Zr 0 _ (((t.n : Int) < l) ∨ ((u : Int) < t.n)) ((iffOr iffDec iffDec)) (fun h1 => ?_) (fun h1 => ?_)
 ·refine Zh 2 [.a 0 0 4] hM22 trivial ?_
  refine ZlP 0 E93 (fail_any t 42 w19) (fun x w' ⟨hx,hE⟩ => ⟨42,t.at',by simp only [numberS,hs9,andE_ok,if_pos h1],hx,hE21.trans hE⟩) ?_
  rintro _ _ ⟨⟩
 refine Zh 7 [.c 0 2] hM22 trivial ?_
 exact ZeP 0 [] [iv t.n] [] trivial (v := iv t.n) rfl (⟨t.n,s7,m8,by simp only [numberS,hs9,andE_ok,if_neg h1],rfl,⟨hE21,(hM22.pick 6 [1,2,3,4,5] (by kernel_rfl) (by kernel_rfl)),hA10.deq,hA10.toks,hA10.cap,hA10.inv⟩⟩)

set_option maxRecDepth 20000 in
theorem stop_any (w0 : World) (bp : Nat) (X : List Res) (s : PSt) (m : PM) (w : World) (hA : ParAt w0 w bp X s m) :
    DoesP Tryz.prog 112 [pt bp 0] w (fun v w' => ∃ s' m',stopS s = .ok s' ∧ v = .tuple #[] ∧ ParAt w0 w' bp X s' m') (PanP (stopS s) w0) := by
 refine startZP (c := Y112) Tryz.func112 rfl (by kernel_rfl) ?_
 show H _ 4 [] _ (kAt Y112 [] []) (stz [(0,pt bp 0)]) w
 have hE1 : Ext w0 w := hA.ext
 have hM2 := hA.hold
 have hp3 := hA.inv.pos
 have ha4 := hA.toks.addrE tokCells_len (by decide) hp3
 have hA5 : ParAt w0 w bp X s m := ⟨hE1,hM2,hA.deq,hA.toks,hA.cap,hA.inv⟩
 refine ZlP 2 E92 (take_any w0 bp X s m 3 w hA5) (fun x w' ⟨e,a,he,hx,hE⟩ => ⟨e,a,by simp only [stopS,he,andE_error],hx,hE⟩) ?_
 rintro _ w6 ⟨t,s7,m8,hs9,rfl,hA10⟩
 have hE11 : Ext w0 w6 := hA10.ext
 have hM12 := hA10.hold
 have hp13 := hA10.inv.pos
 have ha14 := hA10.toks.addrE tokCells_len (by decide) hp13
 exact ZeP 1 [] [] [] trivial (v := .tuple #[]) rfl (⟨s7,m8,by simp only [stopS,hs9,andE_ok],rfl,⟨hE11,hM12,hA10.deq,hA10.toks,hA10.cap,hA10.inv⟩⟩)

end Go.Proofs.YtjhgghpeapmgdaaGreatDoor
/-
  PLAN, PLAIN: sorted, and cut to one of each kind, a list is as long as before just if no two were the same; joined words. No program here.
-/
namespace Go.Bk
open Go

def sortB (l : List Bytes) : List Bytes := l.mergeSort fun x y => decide (x ≤ y)
theorem sortB_perm (l : List Bytes) : (sortB l).Perm l := List.mergeSort_perm _ _
theorem sortB_len (l : List Bytes) : (sortB l).length = l.length := (sortB_perm l).length_eq
theorem sortB_sorted (l : List Bytes) : (sortB l).Pairwise (· ≤ ·) := by
 have := List.pairwise_mergeSort (le := fun x y : Bytes => decide (x ≤ y)) (fun a b c h1 h2 => by simp only [decide_eq_true_eq] at *; exact List.le_trans h1 h2) (fun a b => by simp only [Bool.or_eq_true,decide_eq_true_eq]; exact List.le_total a b) l
 exact this.imp fun h => by simpa using h
theorem compactUpTo_len {α : Type} [Inhabited α] [DecidableEq α] (d : Array α) : ∀ m,(Lib.compactUpTo d m).length ≤ m ∧ ((Lib.compactUpTo d m).length = m ↔ ∀ j,j < m → Lib.keeps d j = true)
 | 0 => by simp [Lib.compactUpTo]
 | m + 1 => by
  obtain ⟨h1,h2⟩ := compactUpTo_len d m
  rw [Lib.compactUpTo_succ,List.length_append]
  by_cases h : Lib.keeps d m = true
  ·rw [if_pos h]
   refine ⟨by simp; omega,?_⟩
   constructor
   ·intro e j hj
    have e2 := h2.1 (by simpa using e)
    by_cases e3 : j = m
    ·subst e3; exact h
    ·exact e2 j (by omega)
   ·intro hall
    rw [h2.2 fun j hj => hall j (by omega)]; rfl
  ·rw [if_neg h]
   refine ⟨by simp; omega,?_⟩
   constructor
   ·intro e
    simp at e
    omega
   ·intro hall
    exact absurd (hall m (by omega)) h
theorem compact_sorted {zs : List Bytes} (hs : zs.Pairwise (· ≤ ·)) : (Lib.compact zs).length = zs.length ↔ zs.Nodup := by
 unfold Lib.compact
 rw [(compactUpTo_len zs.toArray zs.length).2]
 have key : ∀ j,j < zs.length → (Lib.keeps zs.toArray j = true ↔ (j = 0 ∨ zs[j]? ≠ zs[j - 1]?)) := by
  intro j hj
  unfold Lib.keeps
  rw [decide_eq_true_eq]
  have e1 : (zs.toArray)[j]! = zs[j] := by simp [getElem!_pos,hj]
  by_cases h0 : j = 0
  ·simp [h0]
  ·have e2 : (zs.toArray)[j - 1]! = zs[j - 1] := by simp [getElem!_pos,show j - 1 < zs.length by omega]
   rw [e1,e2,List.getElem?_eq_getElem hj,List.getElem?_eq_getElem (by omega : j - 1 < zs.length)]
   simp
 rw [List.pairwise_iff_getElem] at hs
 rw [List.nodup_iff_pairwise_ne,List.pairwise_iff_getElem]
 constructor
 ·intro hall i j hi hj hij e
  have hk := (key j hj).1 (hall j hj)
  rcases hk with h0 | hne
  ·omega
  ·apply hne
   rw [List.getElem?_eq_getElem hj,List.getElem?_eq_getElem (by omega : j - 1 < zs.length)]
   congr 1
   have h2 := hs (j - 1) j (by omega) hj (by omega)
   by_cases h3 : i = j - 1
   ·subst h3; exact e.symm
   ·have h4 := hs i (j - 1) hi (by omega) (by omega)
    rw [e] at h4
    exact List.le_antisymm h4 h2
 ·intro hall j hj
  rw [key j hj]
  by_cases h0 : j = 0
  ·exact .inl h0
  ·refine .inr fun e => ?_
   rw [List.getElem?_eq_getElem hj,List.getElem?_eq_getElem (by omega : j - 1 < zs.length)] at e
   exact hall (j - 1) j (by omega) hj (by omega) (Option.some.inj e).symm
theorem compact_sortB (l : List Bytes) : (Lib.compact (sortB l)).length = l.length ↔ l.Nodup := by
 rw [← sortB_len l,compact_sorted (sortB_sorted l)]
 exact (sortB_perm l).nodup_iff
theorem any_sortB (l : List Bytes) (p : Bytes → Bool) : (sortB l).any p = l.any p := by
 rw [Bool.eq_iff_iff,List.any_eq_true,List.any_eq_true]
 constructor
 ·rintro ⟨x,hx,h⟩; exact ⟨x,(sortB_perm l).mem_iff.1 hx,h⟩
 ·rintro ⟨x,hx,h⟩; exact ⟨x,(sortB_perm l).mem_iff.2 hx,h⟩
theorem joinW_eq : ∀ (ws : List Bytes),Lib.join ws [32] = joinW ws
 | [] => rfl
 | [w] => Lib.join_one w [32]
 | w :: v :: r => by
  rw [Lib.join_cons,joinW,← joinW_eq (v :: r),Lib.join_cons]
  simp [Lib.joinTail]
  intro h; cases h
end Go.Bk
