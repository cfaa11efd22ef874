/-
  Texts that belong together: PlanH, PlanI.
-/
import Derived.Test.YtjhgghpeapmgdaaGreatDoorPlanG
import Derived.Test.YtjhgghpeapmgdaaGreatDoorLz
import Derived.Test.YtjhgghpeapmgdaaGreatDoorMg2
/-
  PLAN: contracts of strings.Builder inside the printer.
-/
namespace Go.Proofs.YtjhgghpeapmgdaaGreatDoor
open Go.Bk Go.Proofs

theorem E103 : Proofs.Enters Tryz.prog 103 := Proofs.enters_of Tryz.func103 (by kernel_rfl) rfl

theorem E71 : Proofs.Enters Tryz.prog 71 := Proofs.enters_of Tryz.func71 (by kernel_rfl) rfl

theorem E34 : Proofs.Enters Tryz.prog 34 := Proofs.enters_of Tryz.func34 (by kernel_rfl) rfl

def Bld (w : World) (B b : Nat) (l : Bytes) : Prop := Lib.IsBuilder 74 5 B b (Lib.byteCells l) w
theorem Bld.ext {w w' : World} {B b : Nat} {l : Bytes} (h : Bld w B b l) (hE : Ext w w') : Bld w' B b l := by
  rcases h with ⟨h1,v,h2,h3,h4⟩ | ⟨h1,v,h2,h3,h4⟩
  · exact .inl ⟨h1,v,hE.heap h2,ownsRow_ext h3 hE,h4⟩
  · exact .inr ⟨h1,v,hE.heap h2,ownsRow_ext h3 hE,h4⟩
theorem Bld.lt {w : World} {B b : Nat} {l : Bytes} (h : Bld w B b l) : B ≤ b ∧ b < w.heap.size := by
  rcases h with ⟨h1,v,h2,h3,h4⟩ | ⟨h1,v,h2,h3,h4⟩ <;> exact ⟨h1,heap_lt h2⟩
def KeepT (w w' : World) (b : Nat) : Prop := ∀ (k : Nat) (cs : Array Value) (t : TypeId) (fz : Nat × Nat),w.heap[k]? = some (.cells cs t fz) → t ≠ 5 → k ≠ b → w'.heap[k]? = some (.cells cs t fz)
theorem KeepT.ext {w w' : World} {b : Nat} (h : Ext w w') : KeepT w w' b := fun _ _ _ _ hk _ _ => h.heap hk
theorem KeepT.trans {w w' w2 : World} {b : Nat} (h : KeepT w w' b) (k : KeepT w' w2 b) : KeepT w w2 b := fun _ _ _ _ hk ht hb => k _ _ _ _ (h _ _ _ _ hk ht hb) ht hb
theorem KeepT.chg {w w' : World} {b : Nat} {o : Obj} (h : Chg w w' b o) : KeepT w w' b := fun _ _ _ _ hk _ hb => h.heap hk hb
theorem KeepT.grown {w w' : World} {b B n : Nat} {v : Value} {xs : List Value} (hg : w.grownBy w' v.ownBlock) (h : w.ownsRow B 5 1 v n xs) : KeepT w w' b := by
  intro k cs t fz hk ht _
  refine grown_heap hg hk (fun e => ?_)
  obtain ⟨_,h2⟩ := h
  rcases h2 with ⟨hv,_⟩ | ⟨g,cap,cur,hv,_,hh,_⟩
  · rw [hv] at e; cases e
  · rw [hv] at e
    simp only [Value.ownBlock,Option.some.injEq] at e
    subst e
    rw [hh] at hk
    simp only [Option.some.injEq,Obj.cells.injEq] at hk
    exact ht hk.2.1.symm
theorem shape_of {w : World} {b : Nat} {cs : Array Value} {t : TypeId} {fz : Nat × Nat} (h : w.heap[b]? = some (.cells cs t fz)) : w.shape? b = some (t,cs.size) := by simp [World.shape?,h]

theorem freeze_other {w : World} {b g n : Nat} {o : Obj} (hne : g ≠ b) (h : w.heap[b]? = some o) : (w.freeze ⟨g,0,none⟩ n).heap[b]? = some o := by
  unfold World.freeze
  split
  · exact h
  · simp [Array.getElem?_modify,hne,h]

set_option maxRecDepth 20000 in
theorem copy_used (b : Nat) (w : World) (v : Value) (hb : w.heap[b]? = some (.cells #[.pointer (some ⟨b,0,none⟩),v] 74 (0,0))) :
    Does Tryz.prog 103 [pt b 0] w (fun r w' => r = .tuple #[] ∧ w = w') := by
 refine startZ (c := Y103) Tryz.func103 rfl (by kernel_rfl) ?_
 show H _ 20 [] _ (kAt Y103 [] []) (stz [(0,pt b 0)]) w
 refine Zi 20 [.v (pt b 0),.sg 0,.v (pt b 0),.sf,.g 0,.p (fun _ => (⟨b,0,none⟩ : Addr) = ⟨b,0,none⟩),.g 1] [cl w b 0 (pt b 0),false = false] (AC (cell_of hb rfl) (A1 rfl)) [] (A1 rfl) ?_
 exact Ze 0 [] [] [] trivial (v := .tuple #[]) rfl (⟨rfl,rfl⟩)

set_option maxRecDepth 20000 in
theorem copy_fresh (b : Nat) (w : World) (v : Value) (hb : w.heap[b]? = some (.cells #[.pointer none,v] 74 (0,0))) :
    Does Tryz.prog 103 [pt b 0] w (fun r w' => r = .tuple #[] ∧ Chg w w' b (.cells #[.pointer (some ⟨b,0,none⟩),v] 74 (0,0))) := by
 refine startZ (c := Y103) Tryz.func103 rfl (by kernel_rfl) ?_
 show H _ 20 [] _ (kAt Y103 [] []) (stz [(0,pt b 0)]) w
 obtain ⟨j,hj,hjs⟩ := Option.map_eq_some_iff.1 (show (Tryz.prog.info? 72).map (·.size) = some 2 by kernel_rfl)
 refine Zs 12 [.ld (.pointer none),.exec] [cl w b 0 (.pointer none),true = true] (AC (cell_of hb rfl) (A1 rfl)) ?_
 refine Z0 0 (.conv 70 143 (pt b 0)) (runs_to_unsafe Tryz.underlying70 Tryz.underlying143 hj (by rw [hjs]; decide) (shape_of hb) (Nat.zero_lt_succ 1)) ?_
 rintro _ _ ⟨rfl,rfl⟩
 refine Z0 0 (.call 127 [pt b 0]) (runs_noEscape Tryz.func127 (by kernel_rfl) (by kernel_rfl) (by kernel_rfl) (by kernel_rfl) _) ?_
 rintro _ _ ⟨rfl,rfl⟩
 refine Z0 0 (.conv 143 70 (pt b 0)) (runs_from_unsafe Tryz.underlying143 Tryz.underlying70 hj (shape_of hb) (by kernel_rfl)) ?_
 rintro _ _ ⟨rfl,rfl⟩
 refine Z0 2 (.store 70 (pt b 0) (pt b 0)) ((runs_store (s := 1) (cs := [.pointer none,v]) (by kernel_rfl) hb rfl (Nat.le_of_ble_eq_true rfl) (by simp [Value.cells,Value.oneCell'])).mono (Ψ := fun _ w' => Chg w w' b (.cells #[.pointer (some ⟨b,0,none⟩),v] 74 (0,0))) fun _ _ h => h) ?_
 rintro _ w1 hC
 exact Ze 1 [] [] [] trivial (v := .tuple #[]) rfl (⟨rfl,hC⟩)

theorem copy_any {w0 : World} (B b : Nat) (l : Bytes) (w : World) (hE : Ext w0 w) (hB : w0.heap.size ≤ B) (h : Bld w B b l) : Does Tryz.prog 103 [.pointer (some ⟨b,0,none⟩)] w fun r w' => r = .tuple #[] ∧ Lib.BuilderAt 74 5 B b (.pointer (some ⟨b,0,none⟩)) (Lib.byteCells l) w' ∧ Ext w0 w' ∧ KeepT w w' b := by
  rcases h with ⟨h1,v,h2,h3,h4⟩ | ⟨h1,v,h2,h3,h4⟩
  · exact (copy_fresh b w v h2).mono fun r w' ⟨e,hC⟩ => ⟨e,⟨h1,v,hC.own,ownsRow_chg h3 hC h4,h4⟩,hC.ext hE (Nat.le_trans hB h1),KeepT.chg hC⟩
  · exact (copy_used b w v h2).mono fun r w' ⟨e,hw⟩ => hw ▸ ⟨e,⟨h1,v,h2,h3,h4⟩,hE,KeepT.ext (Ext.refl _)⟩

set_option maxRecDepth 20000 in
theorem write_any {w0 : World} (B b : Nat) (l s : Bytes) (w : World) (hE : Ext w0 w) (hB : w0.heap.size ≤ B) (h : Bld w B b l) (hl : l.length + s.length ≤ 140737488355328) :
    Does Tryz.prog 71 [pt b 0,sv s] w (fun r w' => r = .tuple #[.int .i64 (s.length:Int),.nilIface] ∧ Bld w' B b (l ++ s) ∧ Ext w0 w' ∧ KeepT w w' b) := by
 refine startZ (c := Y71) Tryz.func71 rfl (by kernel_rfl) ?_
 show H _ 19 [] _ (kAt Y71 [] []) (stz [(0,pt b 0),(1,sv s)]) w
 refine Zl 8 E103 (copy_any B b l w hE hB h) ?_
 rintro _ w1 ⟨rfl,⟨h1,v,hb,hown,hne⟩,hE1,hK1⟩
 rw [Lib.byteCells_length] at hown
 refine Zs 9 [.ld (v)] [cl w1 b 1 (v)] (A1 (cell_of hb rfl)) ?_
 refine Z0 0 (.builtin .append #[41,9] 41 #[false,false] [v,sv s]) (runs_app_str (e := 5) (by kernel_rfl) (by kernel_rfl) Tryz.underlying9 hown s hl (Nat.le_trans (Nat.le_of_lt_succ (Nat.lt_succ_of_le h1)) (Nat.le_of_lt (heap_lt hb)))) ?_
 rintro v2 w2 ⟨hown2,hg⟩
 obtain ⟨a2,c2,rfl⟩ : ∃ a c,v2 = .slice a (l.length + s.length) c := by obtain ⟨a,c,h,_⟩ := SlV.of_owns hown2; exact ⟨a,c,h⟩
 have hb2 := grown_heap hg hb hne
 have hE2 := grown_ext hg hE1 hown hB
 have hne2 := Lib.ownBlock_ne hown2 hb2 (by decide)
 refine Z0 2 (.store 41 (pt b 1) (.slice a2 (l.length + s.length) c2)) ((runs_store (s := 1) (cs := [.pointer (some ⟨b,0,none⟩),v]) (by kernel_rfl) hb2 rfl (Nat.le_of_ble_eq_true rfl) (by simp [Value.cells,Value.oneCell'])).mono (Ψ := fun _ w' => Chg w2 w' b (.cells #[.pointer (some ⟨b,0,none⟩),.slice a2 (l.length + s.length) c2] 74 (0,0))) fun _ _ h => h) ?_
 rintro _ w3 hC
 exact Z2 8 (iv (((s).length:Nat):Int)) .nilIface (⟨rfl,.inr ⟨h1,_,hC.own,by rw [Lib.byteCells_length,List.length_append,show Lib.byteCells (l ++ s) = Lib.byteCells l ++ Lib.byteCells s by simp [Lib.byteCells]]; exact ownsRow_chg hown2 hC hne2,hne2⟩,hC.ext hE2 (Nat.le_trans hB h1),(hK1.trans (KeepT.grown hg hown)).trans (KeepT.chg hC)⟩)

set_option maxRecDepth 20000 in
theorem string_any {w0 : World} (B b : Nat) (l : Bytes) (w : World) (hE : Ext w0 w) (hB : w0.heap.size ≤ B) (h : Bld w B b l) (h0 : l ≠ []) (hl : l.length ≤ 140737488355328) :
    Does Tryz.prog 34 [pt b 0] w (fun r w' => r = .string (bs l) ∧ Ext w0 w') := by
 refine startZ (c := Y34) Tryz.func34 rfl (by kernel_rfl) ?_
 show H _ 14 [] _ (kAt Y34 [] []) (stz [(0,pt b 0)]) w
 obtain ⟨pp,h1,v,hb,hown,hne⟩ : ∃ pp,Lib.BuilderAt 74 5 B b pp (Lib.byteCells l) w := by rcases h with h | h; exact ⟨_,h⟩; exact ⟨_,h⟩
 rw [Lib.byteCells_length] at hown
 have hpos : 0 < l.length := List.length_pos_iff.2 h0
 obtain ⟨g,cap,cur,rfl,hbg,hg,hnc,hcm,hcs,htake⟩ : ∃ g cap cur,v = .slice (some ⟨g,0,none⟩) l.length cap ∧ B ≤ g ∧ w.heap[g]? = some (.cells cur 5 (0,0)) ∧ l.length ≤ cap ∧ cap ≤ maxLen ∧ cur.size = cap * 1 ∧ cur.toList.take (l.length * 1) = Lib.byteCells l := by
   rcases hown.2 with ⟨_,hz⟩ | ⟨g,cap,cur,hv,r⟩
   · omega
   · exact ⟨g,cap,cur,hv,r⟩
 have hcell := hown.cells (g := g) rfl
 have hE1 : Ext w w := Ext.refl w
 refine Zs 5 [] [] trivial ?_
 refine ZB 12 (kAt Y34 [1,1] []) 1 (opsAt (cAt Y34 [1,0])) (fun _ w' => w'.heap[b]? = some (.cells #[pp,.slice (some ⟨g,0,none⟩) l.length cap] 74 (0,0))) ?_
 intro w2 hx3
 have hE4 := hE1.trans hx3
 refine dx [0,1,2,3,5,6,7,8,9] [.ld (.slice (some ⟨g,0,none⟩) l.length cap),.ld (.slice (some ⟨g,0,none⟩) l.length cap)] 3 (lb 12 1007) (fun w' => [cl w' b 1 (.slice (some ⟨g,0,none⟩) l.length cap),cl w' b 1 (.slice (some ⟨g,0,none⟩) l.length cap)]) (fun w' hS => (AC (cell_of hS rfl) (A1 (cell_of hS rfl)))) ((Ext.heap hx3 hb)) ?_
 refine d1 4 ?_
 refine Wo [] (.builtin .unsafeSliceData #[41] 111 #[false] [.slice (some ⟨g,0,none⟩) l.length cap]) [] trivial (runs_sliceData (by omega)) ?_
 rintro _ _ ⟨rfl,rfl⟩
 refine ⟨(Ext.heap hx3 hb),?_⟩
 refine d1 10 ?_
 refine Wo [] (.builtin .unsafeString #[111,3] 9 #[false,false] [pt g 0,iv (l.length:Int)]) [] trivial (runs_unsafeString Tryz.underlying111 (by kernel_rfl) (shape_of (Ext.heap hx3 hg)) h0 (by omega) (by omega) (fun j x hx => Ext.cell hx3 (hcell j _ (by simp [Lib.byteCells,hx])))) ?_
 rintro _ w2 ⟨rfl,rfl⟩
 refine ⟨(freeze_other (fun e => hne (by rw [e]; rfl)) (Ext.heap hx3 hb)),?_⟩
 refine dx0 [11] [] 0 (lb 12 4095) ((freeze_other (fun e => hne (by rw [e]; rfl)) (Ext.heap hx3 hb))) ?_
 refine ZD ?_
 exact Z1 0 (sv l) (⟨rfl,Lib.below_freeze (hE.trans hx3) (p := ⟨g,0,none⟩) (Nat.le_trans hB hbg) _⟩)

end Go.Proofs.YtjhgghpeapmgdaaGreatDoor
/-
  PLAN: contracts of the printer's line, number, check, and of Print.
-/
namespace Go.Proofs.YtjhgghpeapmgdaaGreatDoor
open Go.Bk Go.Proofs

theorem E31 : Proofs.Enters Tryz.prog 31 := Proofs.enters_of Tryz.func31 (by kernel_rfl) rfl

theorem E33 : Proofs.Enters Tryz.prog 33 := Proofs.enters_of Tryz.func33 (by kernel_rfl) rfl

theorem E32 : Proofs.Enters Tryz.prog 32 := Proofs.enters_of Tryz.func32 (by kernel_rfl) rfl

theorem E15 : Proofs.Enters Tryz.prog 15 := Proofs.enters_of Tryz.func15 (by kernel_rfl) rfl

set_option maxRecDepth 20000 in
theorem line_any {w0 : World} (B b : Nat) (l : Bytes) (bw n c : Nat) (ws : List Bytes) (w : World) (hn : ws.length = n) (hE : Ext w0 w) (hB : w0.heap.size ≤ B) (h : Bld w B b l) (hc : Cells w (some ⟨bw,0,none⟩) (ws.flatMap strC)) (hbw : bw < w.heap.size) (hcap : n ≤ c) (hN : n ≤ 140737488355328) (hl : l.length + (lineW ws).length ≤ 140737488355328) :
    Does Tryz.prog 31 [pt b 0,.slice (some ⟨bw,0,none⟩) n c] w (fun r w' => r = .tuple #[] ∧ Bld w' B b (l ++ lineW ws) ∧ Ext w0 w' ∧ KeepT w w' b) := by
 refine startZ (c := Y31) Tryz.func31 rfl (by kernel_rfl) ?_
 show H _ 11 [] _ (kAt Y31 [] []) (stz [(0,pt b 0),(1,.slice (some ⟨bw,0,none⟩) n c)]) w
 have hl2 : (lineW ws).length = (joinW ws).length + 2 := by simp [lineW]
 have hE1 : Ext w w := Ext.refl w
 refine ZB 7 [] 0 (opsAt (cAt Y31 [])) (fun _ _ => True) ?_
 intro w2 hx3
 have hE4 := hE1.trans hx3
 refine dx0 [0,1,2,3] [] 3 (lb 7 15) (trivial) ?_
 refine d1 4 ?_
 refine Wl E72 (join_any bw n c ws hn w2 (hc.ext hx3) (Nat.lt_of_lt_of_le hbw hx3.le) hcap (by omega) hN) ?_
 rintro _ w2 ⟨rfl,hx2⟩
 have hE5 := hE4.trans hx2
 refine ⟨trivial,?_⟩
 refine dx [5] [] 1 (lb 7 63) (fun w' => [(joinW ws).length + ([59,10]).length ≤ 9223372036854775807]) (fun w' hS => (A1 (by simp only [List.length_cons,List.length_nil]; omega))) (trivial) ?_
 refine d1 6 ?_
 refine Wl E71 (by have h := write_any B b l (lineW ws) w2 (hE.trans hE5) hB (h.ext hE5) hl; exact h) ?_
 rintro _ w3 ⟨rfl,hB3,hE3,hK3⟩
 refine ⟨trivial,?_⟩
 refine ZD ?_
 exact Ze 0 [] [] [] trivial (v := .tuple #[]) rfl (⟨rfl,hB3,hE3,(KeepT.ext hE5).trans hK3⟩)

set_option maxRecDepth 20000 in
theorem number_any (n : Int) (w : World) (h0 : -9223372036854775808 ≤ n) (h1 : n ≤ 9223372036854775807) (hG : Glob w) :
    Does Tryz.prog 32 [iv n] w (fun v w' => v = .string (bs (Lib.itoa n)) ∧ Ext w w') := by
 refine startZ (c := Y32) Tryz.func32 rfl (by kernel_rfl) ?_
 show H _ 5 [] _ (kAt Y32 [] []) (stz [(0,iv n)]) w
 have hE1 : Ext w w := Ext.refl w
 refine Zl 7 E73 (itoa_any n h0 h1 w hG) ?_
 rintro _ w1 ⟨rfl,hx⟩
 have hE2 := hE1.trans hx
 exact Z1 2 (sv (Lib.itoa n)) (⟨rfl,hE2⟩)

set_option maxRecDepth 20000 in
theorem pcheck_any {w0 : World} (B b : Nat) (l : Bytes) (p : PPlan) (q : PAd) (c : PCheck) (w : World) (hP : PlanAt w p q) (hR : RightP p) (hm : c ∈ p.checks) (hG : Glob w) (hE : Ext w0 w) (hB : w0.heap.size ≤ B) (h : Bld w B b l) (hl : l.length + (checkL p c).length ≤ 140737488355328) :
    Does Tryz.prog 33 [pt b 0,(pv p q),(vC c)] w (fun r w' => r = .tuple #[] ∧ Bld w' B b (l ++ checkL p c) ∧ Ext w0 w') := by
 refine startZ (c := Y33) Tryz.func33 rfl (by kernel_rfl) ?_
 show H _ 65 [] _ (kAt Y33 [] []) (stz [(0,pt b 0),(1,(pv p q)),(2,(vC c))]) w
 have hcb := checkN_bounds (n := p.nodes.length) (d := p.dests.length) (by have := hR.n0; omega) (hR.check c hm)
 have hq := hP.dlen
 have hl1 := hP.l1
 have hl3 := hP.l3
 have hn1 : c.node.toNat < p.nodes.length := by omega
 have hn2 : c.other.toNat < p.nodes.length := by omega
 have hn3 : c.dest.toNat < q.ds.length := by omega
 have ha := hP.nodes.addrE nodeC_len (by decide) hn1
 have hb := hP.dests.addrE destC_len (by decide) hn3
 have k1 : w.cell? ⟨slB q.a1,slO q.a1 + c.node.toNat * 2,none⟩ = some (.string (bs (nmN p c.node))) := cellAt nodeC_len d0N hP.nodes hn1 (j := 0) rfl
 have k2 : w.cell? ⟨slB q.a1,slO q.a1 + c.other.toNat * 2,none⟩ = some (.string (bs (nmN p c.other))) := cellAt nodeC_len d0N hP.nodes hn2 (j := 0) rfl
 have k3 : w.cell? ⟨slB q.a3,slO q.a3 + c.dest.toNat * 2,none⟩ = some (.string (bs (nmD p c.dest))) := by have h := cellAt destC_len d0A hP.dests hn3 (j := 0) rfl; rw [hP.dget] at h; exact h
 have hE1 : Ext w w := Ext.refl w
 have hM2 : Hold w w.heap.size [] := Hold.nil hE1.le
 refine Zb 2 29 (pv p q) (pc p q) hE1 hM2 ?_
 intro b4 w1 hE4 hM5
 refine Zb 0 67 (vC c) [iv c.kind,iv c.node,iv c.dest,iv c.limit,iv c.other] hE4 hM5 ?_
 intro b5 w2 hE7 hM8
 refine Zs 2 [] [] trivial ?_
 refine ZB 24 (kAt Y33 [1,1] []) 1 (opsAt (cAt Y33 [1,0])) (fun w1 => Ext w1) ?_
 intro w9 hx10
 obtain ⟨hE11,hM12⟩ := Xt hE7 hM8 hx10
 refine dh [0,1,2,3,4,5,6,7,8,9,10,11,12,13,14,15,16,17,18,19,20,21,22,23] [.c 1 3,.c 0 1,.p (fun _ => (0 ≤ c.node ∧ c.node < (p.nodes.length:Int))),.g 0,.p (fun w' => (w').cell? ⟨(slB q.a1),slO q.a1 + ((c.node).toNat) * 2,none⟩ = some (sv (nmN p c.node))),.v (sv (nmN p c.node)),.c 1 5,.c 0 2,.p (fun _ => (0 ≤ c.dest ∧ c.dest < (p.dests.length:Int))),.p (fun _ => (q.a3 : Option Addr) = some ⟨(slB q.a3),slO q.a3,none⟩),.p (fun w' => (w').cell? ⟨(slB q.a3),slO q.a3 + ((c.dest).toNat) * 2,none⟩ = some (sv (nmD p c.dest))),.v (sv (nmD p c.dest)),.c 1 3,.c 0 4,.p (fun _ => (0 ≤ c.other ∧ c.other < (p.nodes.length:Int))),.g 0,.p (fun w' => (w').cell? ⟨(slB q.a1),slO q.a1 + ((c.other).toNat) * 2,none⟩ = some (sv (nmN p c.other))),.v (sv (nmN p c.other))] 0 (lb 24 16777215) hM12 (fun _ h => h) [(q.a1 : Option Addr) = some ⟨(slB q.a1),slO q.a1,none⟩] (A1 (by assumption)) [] (fun w' hS => (AC (by omega) (AC (hS.cell (hE11.cell k1)) (AC (by omega) (AC (by assumption) (AC (hS.cell (hE11.cell k3)) (AC (by omega) (A1 (hS.cell (hE11.cell k2)))))))))) (Ext.refl _) ?_
 refine ZD ?_
 refine Zh 11 [.c 0 0] hM12 trivial ?_
 refine Zq 0 ((c.kind : Int) = (1 : Int)) (fun h1 => ?_) (fun h1 => ?_)
 ·have hck : checkL p c = lineW [wdCheck,wdReach,nmN p c.node,nmD p c.dest] := by unfold checkL; rw [if_pos h1]
  refine Zz 0 (kAt Y33 [1,1,1,0,1,0] []) [(0,pt b 0),(6,sv (nmN p c.node)),(7,sv (nmD p c.dest))] ?_
  rw [hck] at hl ⊢
  refine Zd 4 4 [sv ([99,104,101,99,107]),sv ([114,101,97,99,104]),sv (nmN p c.node),sv (nmD p c.dest)] 9 hE11 hM12 ?_
  intro bw w6 hE14 hM15
  refine Zl 0 E31 (line_any B b l bw 4 4 [wdCheck,wdReach,nmN p c.node,nmD p c.dest] w6 rfl (hE.trans hE14) hB (h.ext hE14) (blk_cells (hM15.blk 0 rfl)) (heap_lt (hM15.blk 0 rfl)) (Nat.le_refl _) (by decide) hl) ?_
  rintro _ w7 ⟨rfl,hB7,hE7,hK7⟩
  exact Ze 2 [] [] [] trivial (v := .tuple #[]) rfl (⟨rfl,hB7,hE7⟩)
 refine Zq 5 ((c.kind : Int) = (2 : Int)) (fun h2 => ?_) (fun h2 => ?_)
 ·have hck : checkL p c = lineW [wdCheck,wdWithin,nmN p c.node,nmD p c.dest,Lib.itoa c.limit] := by unfold checkL; rw [if_neg h1,if_pos h2]
  refine Zz 0 (kAt Y33 [1,1,1,0,1,1,1,0] []) [(0,pt b 0),(5,pt b5 0),(6,sv (nmN p c.node)),(7,sv (nmD p c.dest))] ?_
  rw [hck] at hl ⊢
  refine Zh 6 [.c 0 3] hM12 trivial ?_
  refine Zl 0 E32 (number_any c.limit w9 (by omega) (by omega) (hG.ext hE11)) ?_
  rintro _ w5 ⟨rfl,hx5⟩
  obtain ⟨hE16,hM17⟩ := Xt hE11 hM12 hx5
  refine Zd 0 5 [sv ([99,104,101,99,107]),sv ([119,105,116,104,105,110]),sv (nmN p c.node),sv (nmD p c.dest),sv (Lib.itoa c.limit)] 9 hE16 hM17 ?_
  intro bw w6 hE19 hM20
  refine Zl 0 E31 (line_any B b l bw 5 5 [wdCheck,wdWithin,nmN p c.node,nmD p c.dest,Lib.itoa c.limit] w6 rfl (hE.trans hE19) hB (h.ext hE19) (blk_cells (hM20.blk 0 rfl)) (heap_lt (hM20.blk 0 rfl)) (Nat.le_refl _) (by decide) hl) ?_
  rintro _ w7 ⟨rfl,hB7,hE7,hK7⟩
  exact Ze 2 [] [] [] trivial (v := .tuple #[]) rfl (⟨rfl,hB7,hE7⟩)
 refine Zq 5 ((c.kind : Int) = (3 : Int)) (fun h3 => ?_) (fun h3 => ?_)
 ·have hck : checkL p c = lineW [wdCheck,wdWaypoint,nmN p c.node,nmD p c.dest,nmN p c.other] := by unfold checkL; rw [if_neg h1,if_neg h2,if_pos h3]
  refine Zz 0 (kAt Y33 [1,1,1,0,1,1,1,1,1,0] []) [(0,pt b 0),(6,sv (nmN p c.node)),(7,sv (nmD p c.dest)),(8,sv (nmN p c.other))] ?_
  rw [hck] at hl ⊢
  refine Zd 5 5 [sv ([99,104,101,99,107]),sv ([119,97,121,112,111,105,110,116]),sv (nmN p c.node),sv (nmD p c.dest),sv (nmN p c.other)] 9 hE11 hM12 ?_
  intro bw w6 hE22 hM23
  refine Zl 0 E31 (line_any B b l bw 5 5 [wdCheck,wdWaypoint,nmN p c.node,nmD p c.dest,nmN p c.other] w6 rfl (hE.trans hE22) hB (h.ext hE22) (blk_cells (hM23.blk 0 rfl)) (heap_lt (hM23.blk 0 rfl)) (Nat.le_refl _) (by decide) hl) ?_
  rintro _ w7 ⟨rfl,hB7,hE7,hK7⟩
  exact Ze 2 [] [] [] trivial (v := .tuple #[]) rfl (⟨rfl,hB7,hE7⟩)
 refine Zq 5 ((c.kind : Int) = (4 : Int)) (fun h4 => ?_) (fun h4 => ?_)
 ·have hck : checkL p c = lineW [wdCheck,wdEqual,nmN p c.node,nmN p c.other,nmD p c.dest] := by unfold checkL; rw [if_neg h1,if_neg h2,if_neg h3,if_pos h4]
  refine Zz 0 (kAt Y33 [1,1,1,0,1,1,1,1,1,1,1,0] []) [(0,pt b 0),(6,sv (nmN p c.node)),(7,sv (nmD p c.dest)),(8,sv (nmN p c.other))] ?_
  rw [hck] at hl ⊢
  refine Zd 5 5 [sv ([99,104,101,99,107]),sv ([101,113,117,97,108]),sv (nmN p c.node),sv (nmN p c.other),sv (nmD p c.dest)] 9 hE11 hM12 ?_
  intro bw w6 hE25 hM26
  refine Zl 0 E31 (line_any B b l bw 5 5 [wdCheck,wdEqual,nmN p c.node,nmN p c.other,nmD p c.dest] w6 rfl (hE.trans hE25) hB (h.ext hE25) (blk_cells (hM26.blk 0 rfl)) (heap_lt (hM26.blk 0 rfl)) (Nat.le_refl _) (by decide) hl) ?_
  rintro _ w7 ⟨rfl,hB7,hE7,hK7⟩
  exact Ze 2 [] [] [] trivial (v := .tuple #[]) rfl (⟨rfl,hB7,hE7⟩)
 exfalso; omega

end Go.Proofs.YtjhgghpeapmgdaaGreatDoor
