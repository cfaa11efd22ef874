/-
  Texts that belong together: PlanH, PlanI.
-/
import Derived.Test.YtjhgghpeapmgdaaGreatDoorPlanG
import Derived.Test.YtjhgghpeapmgdaaGreatDoorMg2
/-
  PLAN: contracts of strings.Builder inside the printer.
-/
namespace Go.Proofs.YtjhgghpeapmgdaaGreatDoor
open Go.Bk Go.Proofs

theorem E103 : Proofs.Enters Tryz.prog 103 := Proofs.enters_of Tryz.func103 (by kernel_rfl) rfl

theorem E71 : Proofs.Enters Tryz.prog 71 := Proofs.enters_of Tryz.func71 (by kernel_rfl) rfl

theorem E34 : Proofs.Enters Tryz.prog 34 := Proofs.enters_of Tryz.func34 (by kernel_rfl) rfl

def Bld (w : World) (B b : Nat) (l : Bytes) : Prop := Lib.IsBuilder 74 5 B b (Lib.byteCells l) w
theorem Bld.ext {w w' : World} {B b : Nat} {l : Bytes} (h : Bld w B b l) (hE : Ext w w') : Bld w' B b l := by
  rcases h with ⟨h1,v,h2,h3,h4⟩ | ⟨h1,v,h2,h3,h4⟩
  · exact .inl ⟨h1,v,hE.heap h2,ownsRow_ext h3 hE,h4⟩
  · exact .inr ⟨h1,v,hE.heap h2,ownsRow_ext h3 hE,h4⟩
theorem Bld.lt {w : World} {B b : Nat} {l : Bytes} (h : Bld w B b l) : B ≤ b ∧ b < w.heap.size := by
  rcases h with ⟨h1,v,h2,h3,h4⟩ | ⟨h1,v,h2,h3,h4⟩ <;> exact ⟨h1,heap_lt h2⟩
def KeepT (w w' : World) (b : Nat) : Prop := ∀ (k : Nat) (cs : Array Value) (t : TypeId) (fz : Nat × Nat),w.heap[k]? = some (.cells cs t fz) → t ≠ 5 → k ≠ b → w'.heap[k]? = some (.cells cs t fz)
theorem KeepT.ext {w w' : World} {b : Nat} (h : Ext w w') : KeepT w w' b := fun _ _ _ _ hk _ _ => h.heap hk
theorem KeepT.trans {w w' w2 : World} {b : Nat} (h : KeepT w w' b) (k : KeepT w' w2 b) : KeepT w w2 b := fun _ _ _ _ hk ht hb => k _ _ _ _ (h _ _ _ _ hk ht hb) ht hb
theorem KeepT.chg {w w' : World} {b : Nat} {o : Obj} (h : Chg w w' b o) : KeepT w w' b := fun _ _ _ _ hk _ hb => h.heap hk hb
theorem KeepT.grown {w w' : World} {b B n : Nat} {v : Value} {xs : List Value} (hg : w.grownBy w' v.ownBlock) (h : w.ownsRow B 5 1 v n xs) : KeepT w w' b := by
  intro k cs t fz hk ht _
  refine grown_heap hg hk (fun e => ?_)
  obtain ⟨_,h2⟩ := h
  rcases h2 with ⟨hv,_⟩ | ⟨g,cap,cur,hv,_,hh,_⟩
  · rw [hv] at e; cases e
  · rw [hv] at e
    simp only [Value.ownBlock,Option.some.injEq] at e
    subst e
    rw [hh] at hk
    simp only [Option.some.injEq,Obj.cells.injEq] at hk
    exact ht hk.2.1.symm
theorem shape_of {w : World} {b : Nat} {cs : Array Value} {t : TypeId} {fz : Nat × Nat} (h : w.heap[b]? = some (.cells cs t fz)) : w.shape? b = some (t,cs.size) := by simp [World.shape?,h]

theorem freeze_other {w : World} {b g n : Nat} {o : Obj} (hne : g ≠ b) (h : w.heap[b]? = some o) : (w.freeze ⟨g,0,none⟩ n).heap[b]? = some o := by
  unfold World.freeze
  split
  · exact h
  · simp [Array.getElem?_modify,hne,h]

set_option maxRecDepth 20000 in
theorem copy_used (b : Nat) (w : World) (v : Value) (hb : w.heap[b]? = some (.cells #[.pointer (some ⟨b,0,none⟩),v] 74 (0,0))) :
    Does Tryz.prog 103 [pt b 0] w (fun r w' => r = .tuple #[] ∧ w = w') := by
 refine startD (c := Y103) Tryz.func103 rfl (by kernel_rfl) ?_
 show G _ 20 [] _ (kAt Y103 [] []) (stz [(0,pt b 0)]) w
 refine sgs 20 [.ld (pt b 0),.skip,.ld (pt b 0),.skip] [] [] [] [cl w b 0 (pt b 0),false = false,cl w b 0 (pt b 0),(⟨b,0,none⟩ : Addr) = ⟨b,0,none⟩,false = false] (AC (cell_of hb rfl) (AC rfl (AC (cell_of hb rfl) (AC rfl (A1 rfl))))) ?_
 exact endD (hs := []) (vs := []) (ps := []) (by kernel_rfl) trivial (v := .tuple #[]) rfl (⟨rfl,rfl⟩)

set_option maxRecDepth 20000 in
theorem copy_fresh (b : Nat) (w : World) (v : Value) (hb : w.heap[b]? = some (.cells #[.pointer none,v] 74 (0,0))) :
    Does Tryz.prog 103 [pt b 0] w (fun r w' => r = .tuple #[] ∧ Chg w w' b (.cells #[.pointer (some ⟨b,0,none⟩),v] 74 (0,0))) := by
 refine startD (c := Y103) Tryz.func103 rfl (by kernel_rfl) ?_
 show G _ 20 [] _ (kAt Y103 [] []) (stz [(0,pt b 0)]) w
 obtain ⟨j,hj,hjs⟩ := Option.map_eq_some_iff.1 (show (Tryz.prog.info? 72).map (·.size) = some 2 by kernel_rfl)
 refine sgz 12 [.ld (.pointer none),.exec] (kOp Y103 [1,0] 2 []) [(7,pt b 0),(8,pt b 0)] [cl w b 0 (.pointer none),true = true] (AC (cell_of hb rfl) (A1 rfl)) ?_
 refine os0 (.conv 70 143 (pt b 0)) (some 9) (kOp Y103 [1,0] 3 []) (runs_to_unsafe Tryz.underlying70 Tryz.underlying143 hj (by rw [hjs]; decide) (shape_of hb) (Nat.zero_lt_succ 1)) ?_
 rintro _ _ ⟨rfl,rfl⟩
 refine os0 (.call 127 [pt b 0]) (some 10) (kOp Y103 [1,0] 4 []) (runs_noEscape Tryz.func127 (by kernel_rfl) (by kernel_rfl) (by kernel_rfl) (by kernel_rfl) _) ?_
 rintro _ _ ⟨rfl,rfl⟩
 refine os0 (.conv 143 70 (pt b 0)) (some 11) (kOp Y103 [1,0] 5 []) (runs_from_unsafe Tryz.underlying143 Tryz.underlying70 hj (shape_of hb) (by kernel_rfl)) ?_
 rintro _ _ ⟨rfl,rfl⟩
 refine sg0 2 (kOp Y103 [1,0] 7 []) [(11,pt b 0),(13,pt b 0)] ?_
 refine os0 (.store 70 (pt b 0) (pt b 0)) none (kOp Y103 [1,0] 8 []) ((runs_store (s := 1) (cs := [.pointer none,v]) (by kernel_rfl) hb rfl (Nat.le_of_ble_eq_true rfl) (by simp [Value.cells,Value.oneCell'])).mono (Ψ := fun _ w' => Chg w w' b (.cells #[.pointer (some ⟨b,0,none⟩),v] 74 (0,0))) fun _ _ h => h) ?_
 rintro _ w1 hC
 refine sgs 1 [] [] [] [] [] trivial ?_
 exact endD (hs := []) (vs := []) (ps := []) (by kernel_rfl) trivial (v := .tuple #[]) rfl (⟨rfl,hC⟩)

theorem copy_any {w0 : World} (B b : Nat) (l : Bytes) (w : World) (hE : Ext w0 w) (hB : w0.heap.size ≤ B) (h : Bld w B b l) : Does Tryz.prog 103 [.pointer (some ⟨b,0,none⟩)] w fun r w' => r = .tuple #[] ∧ Lib.BuilderAt 74 5 B b (.pointer (some ⟨b,0,none⟩)) (Lib.byteCells l) w' ∧ Ext w0 w' ∧ KeepT w w' b := by
  rcases h with ⟨h1,v,h2,h3,h4⟩ | ⟨h1,v,h2,h3,h4⟩
  · exact (copy_fresh b w v h2).mono fun r w' ⟨e,hC⟩ => ⟨e,⟨h1,v,hC.own,ownsRow_chg h3 hC h4,h4⟩,hC.ext hE (Nat.le_trans hB h1),KeepT.chg hC⟩
  · exact (copy_used b w v h2).mono fun r w' ⟨e,hw⟩ => hw ▸ ⟨e,⟨h1,v,h2,h3,h4⟩,hE,KeepT.ext (Ext.refl _)⟩

set_option maxRecDepth 20000 in
theorem write_any {w0 : World} (B b : Nat) (l s : Bytes) (w : World) (hE : Ext w0 w) (hB : w0.heap.size ≤ B) (h : Bld w B b l) (hl : l.length + s.length ≤ 140737488355328) :
    Does Tryz.prog 71 [pt b 0,sv s] w (fun r w' => r = .tuple #[.int .i64 (s.length:Int),.nilIface] ∧ Bld w' B b (l ++ s) ∧ Ext w0 w' ∧ KeepT w w' b) := by
 refine startD (c := Y71) Tryz.func71 rfl (by kernel_rfl) ?_
 show G _ 19 [] _ (kAt Y71 [] []) (stz [(0,pt b 0),(1,sv s)]) w
 refine sg0 8 (kOp Y71 [1,0] 1 []) [(0,pt b 0),(1,sv s),(4,iv 0),(5,.nilIface),(6,pt b 0)] ?_
 refine os0 _ (some 7) (kOp Y71 [1,0] 2 []) (runs_call E103 (copy_any B b l w hE hB h)) ?_
 rintro _ w1 ⟨rfl,⟨h1,v,hb,hown,hne⟩,hE1,hK1⟩
 rw [Lib.byteCells_length] at hown
 refine sgz 9 [.ld (v)] (kOp Y71 [1,1,0] 6 []) [(1,sv s),(4,iv 0),(5,.nilIface),(8,pt b 0),(12,v),(13,sv s)] [cl w1 b 1 (v)] (A1 (cell_of hb rfl)) ?_
 refine os0 (.builtin .append #[41,9] 41 #[false,false] [v,sv s]) (some 14) (kOp Y71 [1,1,0] 7 []) (runs_app_str (e := 5) (by kernel_rfl) (by kernel_rfl) Tryz.underlying9 hown s hl (Nat.le_trans (Nat.le_of_lt_succ (Nat.lt_succ_of_le h1)) (Nat.le_of_lt (heap_lt hb)))) ?_
 rintro v2 w2 ⟨hown2,hg⟩
 obtain ⟨a2,c2,rfl⟩ : ∃ a c,v2 = .slice a (l.length + s.length) c := by obtain ⟨a,c,h,_⟩ := SlV.of_owns hown2; exact ⟨a,c,h⟩
 have hb2 := grown_heap hg hb hne
 have hE2 := grown_ext hg hE1 hown hB
 have hne2 := Lib.ownBlock_ne hown2 hb2 (by decide)
 refine sg0 2 (kOp Y71 [1,1,0] 9 []) [(1,sv s),(4,iv 0),(5,.nilIface),(14,.slice a2 (l.length + s.length) c2),(16,pt b 1)] ?_
 refine os0 (.store 41 (pt b 1) (.slice a2 (l.length + s.length) c2)) none (kOp Y71 [1,1,0] 10 []) ((runs_store (s := 1) (cs := [.pointer (some ⟨b,0,none⟩),v]) (by kernel_rfl) hb2 rfl (Nat.le_of_ble_eq_true rfl) (by simp [Value.cells,Value.oneCell'])).mono (Ψ := fun _ w' => Chg w2 w' b (.cells #[.pointer (some ⟨b,0,none⟩),.slice a2 (l.length + s.length) c2] 74 (0,0))) fun _ _ h => h) ?_
 rintro _ w3 hC
 refine sg0 8 (kAt Y71 (ro1 4 []) []) [(4,iv (((s).length:Nat):Int)),(5,.nilIface)] ?_
 exact ret2 (iv (((s).length:Nat):Int)) .nilIface (⟨rfl,.inr ⟨h1,_,hC.own,by rw [Lib.byteCells_length,List.length_append,show Lib.byteCells (l ++ s) = Lib.byteCells l ++ Lib.byteCells s by simp [Lib.byteCells]]; exact ownsRow_chg hown2 hC hne2,hne2⟩,hC.ext hE2 (Nat.le_trans hB h1),(hK1.trans (KeepT.grown hg hown)).trans (KeepT.chg hC)⟩)

set_option maxRecDepth 20000 in
theorem string_any {w0 : World} (B b : Nat) (l : Bytes) (w : World) (hE : Ext w0 w) (hB : w0.heap.size ≤ B) (h : Bld w B b l) (h0 : l ≠ []) (hl : l.length ≤ 140737488355328) :
    Does Tryz.prog 34 [pt b 0] w (fun r w' => r = .string (bs l) ∧ Ext w0 w') := by
 refine startD (c := Y34) Tryz.func34 rfl (by kernel_rfl) ?_
 show G _ 14 [] _ (kAt Y34 [] []) (stz [(0,pt b 0)]) w
 obtain ⟨pp,h1,v,hb,hown,hne⟩ : ∃ pp,Lib.BuilderAt 74 5 B b pp (Lib.byteCells l) w := by rcases h with h | h; exact ⟨_,h⟩; exact ⟨_,h⟩
 rw [Lib.byteCells_length] at hown
 have hpos : 0 < l.length := List.length_pos_iff.2 h0
 obtain ⟨g,cap,cur,rfl,hbg,hg,hnc,hcm,hcs,htake⟩ : ∃ g cap cur,v = .slice (some ⟨g,0,none⟩) l.length cap ∧ B ≤ g ∧ w.heap[g]? = some (.cells cur 5 (0,0)) ∧ l.length ≤ cap ∧ cap ≤ maxLen ∧ cur.size = cap * 1 ∧ cur.toList.take (l.length * 1) = Lib.byteCells l := by
   rcases hown.2 with ⟨_,hz⟩ | ⟨g,cap,cur,hv,r⟩
   · omega
   · exact ⟨g,cap,cur,hv,r⟩
 have hcell := hown.cells (g := g) rfl
 refine sg0 5 (kAt Y34 [1,0] []) [(0,pt b 0),(2,sv ([]))] ?_
 have hE1 : Ext w w := Ext.refl w
 refine dBegin (k' := (kAt Y34 [1,1] [])) (id := 1) (m := 12) (ops := opsAt (cAt Y34 [1,0])) (fun _ w' => w'.heap[b]? = some (.cells #[pp,.slice (some ⟨g,0,none⟩) l.length cap] 74 (0,0))) (by kernel_rfl) (PQ.body _ _ _) (by kernel_rfl) (by kernel_rfl) ?_
 intro w2 hx3
 have hE4 := hE1.trans hx3
 refine dtz [0,1,2,3,5,6,7,8,9] [.ld (.slice (some ⟨g,0,none⟩) l.length cap),.ld (.slice (some ⟨g,0,none⟩) l.length cap)] 3 (lb 12 1007) [(2,sv ([])),(6,.slice (some ⟨g,0,none⟩) l.length cap),(12,iv (l.length:Int))] (fun w' => [cl w' b 1 (.slice (some ⟨g,0,none⟩) l.length cap),cl w' b 1 (.slice (some ⟨g,0,none⟩) l.length cap)]) (fun w' hS => (AC (cell_of hS rfl) (A1 (cell_of hS rfl)))) ((Ext.heap hx3 hb)) ?_
 refine dAll 4 [] (by kernel_rfl) ?_
 refine dos [] (.builtin .unsafeSliceData #[41] 111 #[false] [.slice (some ⟨g,0,none⟩) l.length cap]) (some 7) [] (lb 12 1023) trivial (runs_sliceData (by omega)) ?_
 rintro _ _ ⟨rfl,rfl⟩
 refine ⟨(Ext.heap hx3 hb),?_⟩
 refine dAll 10 [] (by kernel_rfl) ?_
 refine dos [] (.builtin .unsafeString #[111,3] 9 #[false,false] [pt g 0,iv (l.length:Int)]) (some 13) [] (lb 12 2047) trivial (runs_unsafeString Tryz.underlying111 (by kernel_rfl) (shape_of (Ext.heap hx3 hg)) h0 (by omega) (by omega) (fun j x hx => Ext.cell hx3 (hcell j _ (by simp [Lib.byteCells,hx])))) ?_
 rintro _ w2 ⟨rfl,rfl⟩
 refine ⟨(freeze_other (fun e => hne (by rw [e]; rfl)) (Ext.heap hx3 hb)),?_⟩
 refine dtz [11] [] 0 (lb 12 4095) [(2,sv l)] (fun w' => []) (fun w' hS => trivial) ((freeze_other (fun e => hne (by rw [e]; rfl)) (Ext.heap hx3 hb))) ?_
 refine dDone (by kernel_rfl) ?_
 exact ret1 (sv l) (⟨rfl,Lib.below_freeze (hE.trans hx3) (p := ⟨g,0,none⟩) (Nat.le_trans hB hbg) _⟩)

end Go.Proofs.YtjhgghpeapmgdaaGreatDoor
/-
  PLAN: contracts of the printer's line, number, check, and of Print.
-/
namespace Go.Proofs.YtjhgghpeapmgdaaGreatDoor
open Go.Bk Go.Proofs

theorem E31 : Proofs.Enters Tryz.prog 31 := Proofs.enters_of Tryz.func31 (by kernel_rfl) rfl

theorem E33 : Proofs.Enters Tryz.prog 33 := Proofs.enters_of Tryz.func33 (by kernel_rfl) rfl

theorem E32 : Proofs.Enters Tryz.prog 32 := Proofs.enters_of Tryz.func32 (by kernel_rfl) rfl

theorem E15 : Proofs.Enters Tryz.prog 15 := Proofs.enters_of Tryz.func15 (by kernel_rfl) rfl

set_option maxRecDepth 20000 in
theorem line_any {w0 : World} (B b : Nat) (l : Bytes) (bw n c : Nat) (ws : List Bytes) (w : World) (hn : ws.length = n) (hE : Ext w0 w) (hB : w0.heap.size ≤ B) (h : Bld w B b l) (hc : Cells w (some ⟨bw,0,none⟩) (ws.flatMap strC)) (hbw : bw < w.heap.size) (hcap : n ≤ c) (hN : n ≤ 140737488355328) (hl : l.length + (lineW ws).length ≤ 140737488355328) :
    Does Tryz.prog 31 [pt b 0,.slice (some ⟨bw,0,none⟩) n c] w (fun r w' => r = .tuple #[] ∧ Bld w' B b (l ++ lineW ws) ∧ Ext w0 w' ∧ KeepT w w' b) := by
 refine startD (c := Y31) Tryz.func31 rfl (by kernel_rfl) ?_
 show G _ 11 [] _ (kAt Y31 [] []) (stz [(0,pt b 0),(1,.slice (some ⟨bw,0,none⟩) n c)]) w
 have hl2 : (lineW ws).length = (joinW ws).length + 2 := by simp [lineW]
 have hE1 : Ext w w := Ext.refl w
 refine dBegin (k' := []) (id := 0) (m := 7) (ops := opsAt (cAt Y31 [])) (fun _ _ => True) (by kernel_rfl) (PQ.body _ _ _) (by kernel_rfl) (by kernel_rfl) ?_
 intro w2 hx3
 have hE4 := hE1.trans hx3
 refine dtz [0,1,2,3] [] 3 (lb 7 15) [(6,pt b 0),(7,.slice (some ⟨bw,0,none⟩) n c)] (fun w' => []) (fun w' hS => trivial) (trivial) ?_
 refine dAll 4 [] (by kernel_rfl) ?_
 refine dos [] (.call 72 [.slice (some ⟨bw,0,none⟩) n c,sv ([32])]) (some 8) [] (lb 7 31) trivial (runs_call E72 (join_any bw n c ws hn w2 (hc.ext hx3) (Nat.lt_of_lt_of_le hbw hx3.le) hcap (by omega) hN)) ?_
 rintro _ w2 ⟨rfl,hx2⟩
 have hE5 := hE4.trans hx2
 refine ⟨trivial,?_⟩
 refine dtz [5] [] 1 (lb 7 63) [(6,pt b 0),(9,sv ((joinW ws) ++ ([59,10])))] (fun w' => [(joinW ws).length + ([59,10]).length ≤ 9223372036854775807]) (fun w' hS => (A1 (by simp only [List.length_cons,List.length_nil]; omega))) (trivial) ?_
 refine dAll 6 [] (by kernel_rfl) ?_
 refine dos [] (.call 71 [pt b 0,sv ((joinW ws) ++ ([59,10]))]) (some 10) [] (lb 7 127) trivial (runs_call E71 (by have h := write_any B b l (lineW ws) w2 (hE.trans hE5) hB (h.ext hE5) hl; exact h)) ?_
 rintro _ w3 ⟨rfl,hB3,hE3,hK3⟩
 refine ⟨trivial,?_⟩
 refine dDone (by kernel_rfl) ?_
 exact endD (hs := []) (vs := []) (ps := []) (by kernel_rfl) trivial (v := .tuple #[]) rfl (⟨rfl,hB3,hE3,(KeepT.ext hE5).trans hK3⟩)

set_option maxRecDepth 20000 in
theorem number_any (n : Int) (w : World) (h0 : -9223372036854775808 ≤ n) (h1 : n ≤ 9223372036854775807) (hG : Glob w) :
    Does Tryz.prog 32 [iv n] w (fun v w' => v = .string (bs (Lib.itoa n)) ∧ Ext w w') := by
 refine startD (c := Y32) Tryz.func32 rfl (by kernel_rfl) ?_
 show G _ 5 [] _ (kAt Y32 [] []) (stz [(0,iv n)]) w
 have hE1 : Ext w w := Ext.refl w
 refine sg0 7 (kOp Y32 [1,0] 1 []) [(2,sv ([])),(3,iv n)] ?_
 refine os0 _ (some 4) (kOp Y32 [1,0] 2 []) (runs_call E73 (itoa_any n h0 h1 w hG)) ?_
 rintro _ w1 ⟨rfl,hx⟩
 have hE2 := hE1.trans hx
 refine sg0 2 (kAt Y32 [1,1] []) [(2,sv (Lib.itoa n))] ?_
 exact ret1 (sv (Lib.itoa n)) (⟨rfl,hE2⟩)

set_option maxRecDepth 20000 in
theorem pcheck_any {w0 : World} (B b : Nat) (l : Bytes) (p : PPlan) (q : PAd) (c : PCheck) (w : World) (hP : PlanAt w p q) (hR : RightP p) (hm : c ∈ p.checks) (hG : Glob w) (hE : Ext w0 w) (hB : w0.heap.size ≤ B) (h : Bld w B b l) (hl : l.length + (checkL p c).length ≤ 140737488355328) :
    Does Tryz.prog 33 [pt b 0,(pv p q),(vC c)] w (fun r w' => r = .tuple #[] ∧ Bld w' B b (l ++ checkL p c) ∧ Ext w0 w') := by
 refine startD (c := Y33) Tryz.func33 rfl (by kernel_rfl) ?_
 show G _ 65 [] _ (kAt Y33 [] []) (stz [(0,pt b 0),(1,(pv p q)),(2,(vC c))]) w
 have hcb := checkN_bounds (n := p.nodes.length) (d := p.dests.length) (by have := hR.n0; omega) (hR.check c hm)
 have hq := hP.dlen
 have hl1 := hP.l1
 have hl3 := hP.l3
 have hn1 : c.node.toNat < p.nodes.length := by omega
 have hn2 : c.other.toNat < p.nodes.length := by omega
 have hn3 : c.dest.toNat < q.ds.length := by omega
 have ha := hP.nodes.addrE nodeC_len (by decide) hn1
 have hb := hP.dests.addrE destC_len (by decide) hn3
 have k1 : w.cell? ⟨slB q.a1,slO q.a1 + c.node.toNat * 2,none⟩ = some (.string (bs (nmN p c.node))) := cellAt nodeC_len d0N hP.nodes hn1 (j := 0) rfl
 have k2 : w.cell? ⟨slB q.a1,slO q.a1 + c.other.toNat * 2,none⟩ = some (.string (bs (nmN p c.other))) := cellAt nodeC_len d0N hP.nodes hn2 (j := 0) rfl
 have k3 : w.cell? ⟨slB q.a3,slO q.a3 + c.dest.toNat * 2,none⟩ = some (.string (bs (nmD p c.dest))) := by have h := cellAt destC_len d0A hP.dests hn3 (j := 0) rfl; rw [hP.dget] at h; exact h
 have hE1 : Ext w w := Ext.refl w
 have hM2 : Hold w w.heap.size [] := Hold.nil hE1.le
 refine sg0 2 (kOp Y33 [0] 0 []) [(0,pt b 0),(1,(pv p q)),(2,(vC c))] ?_
 refine os0 (.box 29 (pv p q)) (some 4) (kOp Y33 [0] 1 []) (runs_box _ _) ?_
 rintro _ w1 ⟨b4,rfl,hN3⟩
 have hE4 := hE1.trans hN3.ext
 have hM5 := hM2.new hN3
 refine os0 (.box 67 (vC c)) (some 5) (kOp Y33 [0] 2 []) (runs_box _ _) ?_
 rintro _ w2 ⟨b5,rfl,hN6⟩
 have hE7 := hE4.trans hN6.ext
 have hM8 := hM5.new hN6
 refine sg0 2 (kAt Y33 [1,0] []) [(0,pt b 0),(4,pt b4 0),(5,pt b5 0)] ?_
 refine dBegin (k' := (kAt Y33 [1,1] [])) (id := 1) (m := 24) (ops := opsAt (cAt Y33 [1,0])) (fun w1 => Ext w1) (by kernel_rfl) (PQ.body _ _ _) (by kernel_rfl) (by kernel_rfl) ?_
 intro w9 hx10
 have hE11 := hE7.trans hx10
 have hM12 := hM8.ext hx10
 refine dtz [0,1,2,3,4,5,6,7,8,9,10,11,12,13,14,15,16,17,18,19,20,21,22,23] [.ld (.slice q.a1 p.nodes.length q.c1),.ld (iv c.node),.ld (sv (nmN p c.node)),.ld (.slice q.a3 p.dests.length q.c3),.ld (iv c.dest),.ld (sv (nmD p c.dest)),.ld (.slice q.a1 p.nodes.length q.c1),.ld (iv c.other),.ld (sv (nmN p c.other))] 0 (lb 24 16777215) [(0,pt b 0),(5,pt b5 0),(6,sv (nmN p c.node)),(7,sv (nmD p c.dest)),(8,sv (nmN p c.other))] (fun w' => [cl w' b4 3 (.slice q.a1 p.nodes.length q.c1),cl w' b5 1 (iv c.node),(0 ≤ c.node ∧ c.node < (p.nodes.length:Int)),(q.a1 : Option Addr) = some ⟨(slB q.a1),slO q.a1,none⟩,cl w' (slB q.a1) (slO q.a1 + ((c.node).toNat) * 2) (sv (nmN p c.node)),cl w' b4 5 (.slice q.a3 p.dests.length q.c3),cl w' b5 2 (iv c.dest),(0 ≤ c.dest ∧ c.dest < (p.dests.length:Int)),(q.a3 : Option Addr) = some ⟨(slB q.a3),slO q.a3,none⟩,cl w' (slB q.a3) (slO q.a3 + ((c.dest).toNat) * 2) (sv (nmD p c.dest)),cl w' b4 3 (.slice q.a1 p.nodes.length q.c1),cl w' b5 4 (iv c.other),(0 ≤ c.other ∧ c.other < (p.nodes.length:Int)),(q.a1 : Option Addr) = some ⟨(slB q.a1),slO q.a1,none⟩,cl w' (slB q.a1) (slO q.a1 + ((c.other).toNat) * 2) (sv (nmN p c.other))]) (fun w' hS => (AC (hS.cell (cell_of (hM12.blk 1 rfl) rfl)) (AC (hS.cell (cell_of (hM12.blk 0 rfl) rfl)) (AC (by omega) (AC (by assumption) (AC (hS.cell (hE11.cell k1)) (AC (hS.cell (cell_of (hM12.blk 1 rfl) rfl)) (AC (hS.cell (cell_of (hM12.blk 0 rfl) rfl)) (AC (by omega) (AC (by assumption) (AC (hS.cell (hE11.cell k3)) (AC (hS.cell (cell_of (hM12.blk 1 rfl) rfl)) (AC (hS.cell (cell_of (hM12.blk 0 rfl) rfl)) (AC (by omega) (AC (by assumption) (A1 (hS.cell (hE11.cell k2)))))))))))))))))) (Ext.refl _) ?_
 refine dDone (by kernel_rfl) ?_
 refine sgz 11 [.ld (iv c.kind)] (kAt Y33 [1,1,1,0,1] []) [(0,pt b 0),(5,pt b5 0),(6,sv (nmN p c.node)),(7,sv (nmD p c.dest)),(8,sv (nmN p c.other)),(31,iv c.kind),(32,.bool (decide ((c.kind : Int) = (1 : Int))))] [cl w9 b5 0 (iv c.kind)] (A1 (cell_of (hM12.blk 0 rfl) rfl)) ?_
 refine brd ((c.kind : Int) = (1 : Int)) (fun h1 => ?_) (fun h1 => ?_)
 ·have hck : checkL p c = lineW [wdCheck,wdReach,nmN p c.node,nmD p c.dest] := by unfold checkL; rw [if_pos h1]
  rw [hck] at hl ⊢
  refine sg0 4 (kOp Y33 [1,1,1,0,1,0] 3 []) [(34,pt b 0),(35,sv (nmN p c.node)),(36,sv (nmD p c.dest))] ?_
  refine os0 (.bslice 37 4 [(0,sv ([99,104,101,99,107])),(1,sv ([114,101,97,99,104])),(2,sv (nmN p c.node)),(3,sv (nmD p c.dest))]) (some 37) (kOp Y33 [1,1,1,0,1,0] 4 []) (runs_bslice (cs := [sv ([99,104,101,99,107]),sv ([114,101,97,99,104]),sv (nmN p c.node),sv (nmD p c.dest)]) (e := 9) (by kernel_rfl)) ?_
  rintro _ w6 ⟨bw,rfl,hN13⟩
  have hE14 := hE11.trans hN13.ext
  have hM15 := hM12.new hN13
  refine os0 _ (some 38) (kOp Y33 [1,1,1,0,1,0] 5 []) (runs_call E31 (line_any B b l bw 4 4 [wdCheck,wdReach,nmN p c.node,nmD p c.dest] w6 rfl (hE.trans hE14) hB (h.ext hE14) (blk_cells (hM15.blk 0 rfl)) (heap_lt (hM15.blk 0 rfl)) (Nat.le_refl _) (by decide) hl)) ?_
  rintro _ w7 ⟨rfl,hB7,hE7,hK7⟩
  refine sgs 2 [] [] [] [] [] trivial ?_
  exact endD (hs := []) (vs := []) (ps := []) (by kernel_rfl) trivial (v := .tuple #[]) rfl (⟨rfl,hB7,hE7⟩)
 refine sg0 5 (kAt Y33 [1,1,1,0,1,1,1] []) [(0,pt b 0),(5,pt b5 0),(6,sv (nmN p c.node)),(7,sv (nmD p c.dest)),(8,sv (nmN p c.other)),(31,iv c.kind),(39,.bool (decide ((c.kind : Int) = (2 : Int))))] ?_
 refine brd ((c.kind : Int) = (2 : Int)) (fun h2 => ?_) (fun h2 => ?_)
 ·have hck : checkL p c = lineW [wdCheck,wdWithin,nmN p c.node,nmD p c.dest,Lib.itoa c.limit] := by unfold checkL; rw [if_neg h1,if_pos h2]
  rw [hck] at hl ⊢
  refine sgz 6 [.ld (iv c.limit)] (kOp Y33 [1,1,1,0,1,1,1,0] 5 []) [(41,pt b 0),(42,sv (nmN p c.node)),(43,sv (nmD p c.dest)),(45,iv c.limit)] [cl w9 b5 3 (iv c.limit)] (A1 (cell_of (hM12.blk 0 rfl) rfl)) ?_
  refine os0 _ (some 46) (kOp Y33 [1,1,1,0,1,1,1,0] 6 []) (runs_call E32 (number_any c.limit w9 (by omega) (by omega) (hG.ext hE11))) ?_
  rintro _ w5 ⟨rfl,hx5⟩
  have hE16 := hE11.trans hx5
  have hM17 := hM12.ext hx5
  refine os0 (.bslice 37 5 [(0,sv ([99,104,101,99,107])),(1,sv ([119,105,116,104,105,110])),(2,sv (nmN p c.node)),(3,sv (nmD p c.dest)),(4,sv (Lib.itoa c.limit))]) (some 47) (kOp Y33 [1,1,1,0,1,1,1,0] 7 []) (runs_bslice (cs := [sv ([99,104,101,99,107]),sv ([119,105,116,104,105,110]),sv (nmN p c.node),sv (nmD p c.dest),sv (Lib.itoa c.limit)]) (e := 9) (by kernel_rfl)) ?_
  rintro _ w6 ⟨bw,rfl,hN18⟩
  have hE19 := hE16.trans hN18.ext
  have hM20 := hM17.new hN18
  refine os0 _ (some 48) (kOp Y33 [1,1,1,0,1,1,1,0] 8 []) (runs_call E31 (line_any B b l bw 5 5 [wdCheck,wdWithin,nmN p c.node,nmD p c.dest,Lib.itoa c.limit] w6 rfl (hE.trans hE19) hB (h.ext hE19) (blk_cells (hM20.blk 0 rfl)) (heap_lt (hM20.blk 0 rfl)) (Nat.le_refl _) (by decide) hl)) ?_
  rintro _ w7 ⟨rfl,hB7,hE7,hK7⟩
  refine sgs 2 [] [] [] [] [] trivial ?_
  exact endD (hs := []) (vs := []) (ps := []) (by kernel_rfl) trivial (v := .tuple #[]) rfl (⟨rfl,hB7,hE7⟩)
 refine sg0 5 (kAt Y33 [1,1,1,0,1,1,1,1,1] []) [(0,pt b 0),(6,sv (nmN p c.node)),(7,sv (nmD p c.dest)),(8,sv (nmN p c.other)),(31,iv c.kind),(49,.bool (decide ((c.kind : Int) = (3 : Int))))] ?_
 refine brd ((c.kind : Int) = (3 : Int)) (fun h3 => ?_) (fun h3 => ?_)
 ·have hck : checkL p c = lineW [wdCheck,wdWaypoint,nmN p c.node,nmD p c.dest,nmN p c.other] := by unfold checkL; rw [if_neg h1,if_neg h2,if_pos h3]
  rw [hck] at hl ⊢
  refine sg0 5 (kOp Y33 [1,1,1,0,1,1,1,1,1,0] 4 []) [(51,pt b 0),(52,sv (nmN p c.node)),(53,sv (nmD p c.dest)),(54,sv (nmN p c.other))] ?_
  refine os0 (.bslice 37 5 [(0,sv ([99,104,101,99,107])),(1,sv ([119,97,121,112,111,105,110,116])),(2,sv (nmN p c.node)),(3,sv (nmD p c.dest)),(4,sv (nmN p c.other))]) (some 55) (kOp Y33 [1,1,1,0,1,1,1,1,1,0] 5 []) (runs_bslice (cs := [sv ([99,104,101,99,107]),sv ([119,97,121,112,111,105,110,116]),sv (nmN p c.node),sv (nmD p c.dest),sv (nmN p c.other)]) (e := 9) (by kernel_rfl)) ?_
  rintro _ w6 ⟨bw,rfl,hN21⟩
  have hE22 := hE11.trans hN21.ext
  have hM23 := hM12.new hN21
  refine os0 _ (some 56) (kOp Y33 [1,1,1,0,1,1,1,1,1,0] 6 []) (runs_call E31 (line_any B b l bw 5 5 [wdCheck,wdWaypoint,nmN p c.node,nmD p c.dest,nmN p c.other] w6 rfl (hE.trans hE22) hB (h.ext hE22) (blk_cells (hM23.blk 0 rfl)) (heap_lt (hM23.blk 0 rfl)) (Nat.le_refl _) (by decide) hl)) ?_
  rintro _ w7 ⟨rfl,hB7,hE7,hK7⟩
  refine sgs 2 [] [] [] [] [] trivial ?_
  exact endD (hs := []) (vs := []) (ps := []) (by kernel_rfl) trivial (v := .tuple #[]) rfl (⟨rfl,hB7,hE7⟩)
 refine sg0 5 (kAt Y33 [1,1,1,0,1,1,1,1,1,1,1] []) [(0,pt b 0),(6,sv (nmN p c.node)),(7,sv (nmD p c.dest)),(8,sv (nmN p c.other)),(57,.bool (decide ((c.kind : Int) = (4 : Int))))] ?_
 refine brd ((c.kind : Int) = (4 : Int)) (fun h4 => ?_) (fun h4 => ?_)
 ·have hck : checkL p c = lineW [wdCheck,wdEqual,nmN p c.node,nmN p c.other,nmD p c.dest] := by unfold checkL; rw [if_neg h1,if_neg h2,if_neg h3,if_pos h4]
  rw [hck] at hl ⊢
  refine sg0 5 (kOp Y33 [1,1,1,0,1,1,1,1,1,1,1,0] 4 []) [(59,pt b 0),(60,sv (nmN p c.node)),(61,sv (nmN p c.other)),(62,sv (nmD p c.dest))] ?_
  refine os0 (.bslice 37 5 [(0,sv ([99,104,101,99,107])),(1,sv ([101,113,117,97,108])),(2,sv (nmN p c.node)),(3,sv (nmN p c.other)),(4,sv (nmD p c.dest))]) (some 63) (kOp Y33 [1,1,1,0,1,1,1,1,1,1,1,0] 5 []) (runs_bslice (cs := [sv ([99,104,101,99,107]),sv ([101,113,117,97,108]),sv (nmN p c.node),sv (nmN p c.other),sv (nmD p c.dest)]) (e := 9) (by kernel_rfl)) ?_
  rintro _ w6 ⟨bw,rfl,hN24⟩
  have hE25 := hE11.trans hN24.ext
  have hM26 := hM12.new hN24
  refine os0 _ (some 64) (kOp Y33 [1,1,1,0,1,1,1,1,1,1,1,0] 6 []) (runs_call E31 (line_any B b l bw 5 5 [wdCheck,wdEqual,nmN p c.node,nmN p c.other,nmD p c.dest] w6 rfl (hE.trans hE25) hB (h.ext hE25) (blk_cells (hM26.blk 0 rfl)) (heap_lt (hM26.blk 0 rfl)) (Nat.le_refl _) (by decide) hl)) ?_
  rintro _ w7 ⟨rfl,hB7,hE7,hK7⟩
  refine sgs 2 [] [] [] [] [] trivial ?_
  exact endD (hs := []) (vs := []) (ps := []) (by kernel_rfl) trivial (v := .tuple #[]) rfl (⟨rfl,hB7,hE7⟩)
 exfalso; omega

end Go.Proofs.YtjhgghpeapmgdaaGreatDoor
