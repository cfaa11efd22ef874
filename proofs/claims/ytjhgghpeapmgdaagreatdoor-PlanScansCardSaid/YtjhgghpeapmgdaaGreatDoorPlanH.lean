/-
  PLAN: contracts of strings.Builder inside the printer.
-/
import Derived.Test.YtjhgghpeapmgdaaGreatDoorPlanG
namespace Go.Proofs.YtjhgghpeapmgdaaGreatDoor
open Go.Bk Go.Proofs

theorem E103 : Proofs.Enters Tryz.prog 103 := Proofs.enters_of Tryz.func103 (by kernel_rfl) rfl

theorem E71 : Proofs.Enters Tryz.prog 71 := Proofs.enters_of Tryz.func71 (by kernel_rfl) rfl

theorem E34 : Proofs.Enters Tryz.prog 34 := Proofs.enters_of Tryz.func34 (by kernel_rfl) rfl

/-- The printer in block b holds these bytes. -/
def Bld (w : World) (B b : Nat) (l : Bytes) : Prop := Lib.IsBuilder 74 5 B b (Lib.byteCells l) w
theorem Bld.ext {w w' : World} {B b : Nat} {l : Bytes} (h : Bld w B b l) (hE : Ext w w') : Bld w' B b l := by
  rcases h with ⟨h1,v,h2,h3,h4⟩ | ⟨h1,v,h2,h3,h4⟩
  · exact .inl ⟨h1,v,hE.heap h2,ownsRow_ext h3 hE,h4⟩
  · exact .inr ⟨h1,v,hE.heap h2,ownsRow_ext h3 hE,h4⟩
theorem Bld.lt {w : World} {B b : Nat} {l : Bytes} (h : Bld w B b l) : B ≤ b ∧ b < w.heap.size := by
  rcases h with ⟨h1,v,h2,h3,h4⟩ | ⟨h1,v,h2,h3,h4⟩ <;> exact ⟨h1,heap_lt h2⟩
/-- All blocks but b, and but rows of bytes, are as they were. -/
def KeepT (w w' : World) (b : Nat) : Prop := ∀ (k : Nat) (cs : Array Value) (t : TypeId) (fz : Nat × Nat),w.heap[k]? = some (.cells cs t fz) → t ≠ 5 → k ≠ b → w'.heap[k]? = some (.cells cs t fz)
theorem KeepT.ext {w w' : World} {b : Nat} (h : Ext w w') : KeepT w w' b := fun _ _ _ _ hk _ _ => h.heap hk
theorem KeepT.trans {w w' w2 : World} {b : Nat} (h : KeepT w w' b) (k : KeepT w' w2 b) : KeepT w w2 b := fun _ _ _ _ hk ht hb => k _ _ _ _ (h _ _ _ _ hk ht hb) ht hb
theorem KeepT.chg {w w' : World} {b : Nat} {o : Obj} (h : Chg w w' b o) : KeepT w w' b := fun _ _ _ _ hk _ hb => h.heap hk hb
theorem KeepT.grown {w w' : World} {b B n : Nat} {v : Value} {xs : List Value} (hg : w.grownBy w' v.ownBlock) (h : w.ownsRow B 5 1 v n xs) : KeepT w w' b := by
  intro k cs t fz hk ht _
  refine grown_heap hg hk (fun e => ?_)
  obtain ⟨_,h2⟩ := h
  rcases h2 with ⟨hv,_⟩ | ⟨g,cap,cur,hv,_,hh,_⟩
  · rw [hv] at e; cases e
  · rw [hv] at e
    simp only [Value.ownBlock,Option.some.injEq] at e
    subst e
    rw [hh] at hk
    simp only [Option.some.injEq,Obj.cells.injEq] at hk
    exact ht hk.2.1.symm
theorem shape_of {w : World} {b : Nat} {cs : Array Value} {t : TypeId} {fz : Nat × Nat} (h : w.heap[b]? = some (.cells cs t fz)) : w.shape? b = some (t,cs.size) := by simp [World.shape?,h]

theorem freeze_other {w : World} {b g n : Nat} {o : Obj} (hne : g ≠ b) (h : w.heap[b]? = some o) : (w.freeze ⟨g,0,none⟩ n).heap[b]? = some o := by
  unfold World.freeze
  split
  · exact h
  · simp [Array.getElem?_modify,hne,h]

set_option maxRecDepth 20000 in
theorem copy_used (b : Nat) (w : World) (v : Value) (hb : w.heap[b]? = some (.cells #[.pointer (some ⟨b,0,none⟩),v] 74 (0,0))) :
    Does Tryz.prog 103 [pt b 0] w (fun r w' => r = .tuple #[] ∧ w = w') := by
 refine startD (c := (bodyOf Tryz.f103)) Tryz.func103 rfl (by kernel_rfl) ?_
 show G _ 20 [] _ (kAt (bodyOf Tryz.f103) [] []) (stz [(0,pt b 0)]) w
 refine sgs 20 [.ld (pt b 0),.skip,.ld (pt b 0),.skip] [] [] [] [w.cell? ⟨b,0,none⟩ = some (pt b 0),false = false,w.cell? ⟨b,0,none⟩ = some (pt b 0),(⟨b,0,none⟩ : Addr) = ⟨b,0,none⟩,false = false] (AC (cell_of hb rfl) (AC rfl (AC (cell_of hb rfl) (AC rfl (A1 rfl))))) ?_
 exact endD (hs := []) (vs := []) (ps := []) (by kernel_rfl) trivial (v := .tuple #[]) rfl (⟨rfl,rfl⟩)

set_option maxRecDepth 20000 in
theorem copy_fresh (b : Nat) (w : World) (v : Value) (hb : w.heap[b]? = some (.cells #[.pointer none,v] 74 (0,0))) :
    Does Tryz.prog 103 [pt b 0] w (fun r w' => r = .tuple #[] ∧ Chg w w' b (.cells #[.pointer (some ⟨b,0,none⟩),v] 74 (0,0))) := by
 refine startD (c := (bodyOf Tryz.f103)) Tryz.func103 rfl (by kernel_rfl) ?_
 show G _ 20 [] _ (kAt (bodyOf Tryz.f103) [] []) (stz [(0,pt b 0)]) w
 obtain ⟨j,hj,hjs⟩ := Option.map_eq_some_iff.1 (show (Tryz.prog.info? 72).map (·.size) = some 2 by kernel_rfl)
 refine sgz 12 [.ld (.pointer none),.exec] (kOp (bodyOf Tryz.f103) [1,0] 2 []) [(7,pt b 0),(8,pt b 0)] [w.cell? ⟨b,0,none⟩ = some (.pointer none),true = true] (AC (cell_of hb rfl) (A1 rfl)) ?_
 refine oss [] (.conv 70 143 (pt b 0)) (some 9) (kOp (bodyOf Tryz.f103) [1,0] 3 []) [] trivial (runs_to_unsafe Tryz.underlying70 Tryz.underlying143 hj (by rw [hjs]; decide) (shape_of hb) (Nat.zero_lt_succ 1)) ?_
 rintro _ _ ⟨rfl,rfl⟩
 refine oss [] (.call 127 [pt b 0]) (some 10) (kOp (bodyOf Tryz.f103) [1,0] 4 []) [] trivial (runs_noEscape Tryz.func127 (by kernel_rfl) (by kernel_rfl) (by kernel_rfl) (by kernel_rfl) _) ?_
 rintro _ _ ⟨rfl,rfl⟩
 refine oss [] (.conv 143 70 (pt b 0)) (some 11) (kOp (bodyOf Tryz.f103) [1,0] 5 []) [] trivial (runs_from_unsafe Tryz.underlying143 Tryz.underlying70 hj (shape_of hb) (by kernel_rfl)) ?_
 rintro _ _ ⟨rfl,rfl⟩
 refine sgz 2 [] (kOp (bodyOf Tryz.f103) [1,0] 7 []) [(11,pt b 0),(13,pt b 0)] [] trivial ?_
 refine oss [] (.store 70 (pt b 0) (pt b 0)) none (kOp (bodyOf Tryz.f103) [1,0] 8 []) [] trivial ((runs_store (s := 1) (cs := [.pointer none,v]) (by kernel_rfl) hb rfl (Nat.le_of_ble_eq_true rfl) (by simp [Value.cells,Value.oneCell'])).mono (Ψ := fun _ w' => Chg w w' b (.cells #[.pointer (some ⟨b,0,none⟩),v] 74 (0,0))) fun _ _ h => h) ?_
 rintro _ w1 hC
 refine sgs 1 [] [] [] [] [] trivial ?_
 exact endD (hs := []) (vs := []) (ps := []) (by kernel_rfl) trivial (v := .tuple #[]) rfl (⟨rfl,hC⟩)

theorem copy_any {w0 : World} (B b : Nat) (l : Bytes) (w : World) (hE : Ext w0 w) (hB : w0.heap.size ≤ B) (h : Bld w B b l) : Does Tryz.prog 103 [.pointer (some ⟨b,0,none⟩)] w fun r w' => r = .tuple #[] ∧ Lib.BuilderAt 74 5 B b (.pointer (some ⟨b,0,none⟩)) (Lib.byteCells l) w' ∧ Ext w0 w' ∧ KeepT w w' b := by
  rcases h with ⟨h1,v,h2,h3,h4⟩ | ⟨h1,v,h2,h3,h4⟩
  · exact (copy_fresh b w v h2).mono fun r w' ⟨e,hC⟩ => ⟨e,⟨h1,v,hC.own,ownsRow_chg h3 hC h4,h4⟩,hC.ext hE (Nat.le_trans hB h1),KeepT.chg hC⟩
  · exact (copy_used b w v h2).mono fun r w' ⟨e,hw⟩ => hw ▸ ⟨e,⟨h1,v,h2,h3,h4⟩,hE,KeepT.ext (Ext.refl _)⟩

set_option maxRecDepth 20000 in
theorem write_any {w0 : World} (B b : Nat) (l s : Bytes) (w : World) (hE : Ext w0 w) (hB : w0.heap.size ≤ B) (h : Bld w B b l) (hl : l.length + s.length ≤ 140737488355328) :
    Does Tryz.prog 71 [pt b 0,sv s] w (fun r w' => r = .tuple #[.int .i64 ((s.length:Nat):Int),.nilIface] ∧ Bld w' B b (l ++ s) ∧ Ext w0 w' ∧ KeepT w w' b) := by
 refine startD (c := (bodyOf Tryz.f71)) Tryz.func71 rfl (by kernel_rfl) ?_
 show G _ 19 [] _ (kAt (bodyOf Tryz.f71) [] []) (stz [(0,pt b 0),(1,sv s)]) w
 refine sgz 8 [] (kOp (bodyOf Tryz.f71) [1,0] 1 []) [(0,pt b 0),(1,sv s),(4,iv (0 : Int)),(5,.nilIface),(6,pt b 0)] [] trivial ?_
 refine oss [] (.call 103 [pt b 0]) (some 7) (kOp (bodyOf Tryz.f71) [1,0] 2 []) [] trivial (runs_call E103 (copy_any B b l w hE hB h)) ?_
 rintro _ w1 ⟨rfl,⟨h1,v,hb,hown,hne⟩,hE1,hK1⟩
 rw [Lib.byteCells_length] at hown
 refine sgz 9 [.ld (v)] (kOp (bodyOf Tryz.f71) [1,1,0] 6 []) [(1,sv s),(4,iv (0 : Int)),(5,.nilIface),(8,pt b 0),(12,v),(13,sv s)] [w1.cell? ⟨b,1,none⟩ = some (v)] (A1 (cell_of hb rfl)) ?_
 refine oss [] (.builtin .append #[41,9] 41 #[false,false] [v,sv s]) (some 14) (kOp (bodyOf Tryz.f71) [1,1,0] 7 []) [] trivial (runs_app_str (e := 5) (by kernel_rfl) (by kernel_rfl) Tryz.underlying9 hown s hl (Nat.le_trans (Nat.le_of_lt_succ (Nat.lt_succ_of_le h1)) (Nat.le_of_lt (heap_lt hb)))) ?_
 rintro v2 w2 ⟨hown2,hg⟩
 obtain ⟨a2,c2,rfl⟩ : ∃ a c,v2 = .slice a (l.length + s.length) c := by obtain ⟨a,c,h,_⟩ := SlV.of_owns hown2; exact ⟨a,c,h⟩
 have hb2 := grown_heap hg hb hne
 have hE2 := grown_ext hg hE1 hown hB
 have hne2 := Lib.ownBlock_ne hown2 hb2 (by decide)
 refine sgz 2 [] (kOp (bodyOf Tryz.f71) [1,1,0] 9 []) [(1,sv s),(4,iv (0 : Int)),(5,.nilIface),(14,.slice a2 (l.length + s.length) c2),(16,pt b 1)] [] trivial ?_
 refine oss [] (.store 41 (pt b 1) (.slice a2 (l.length + s.length) c2)) none (kOp (bodyOf Tryz.f71) [1,1,0] 10 []) [] trivial ((runs_store (s := 1) (cs := [.pointer (some ⟨b,0,none⟩),v]) (by kernel_rfl) hb2 rfl (Nat.le_of_ble_eq_true rfl) (by simp [Value.cells,Value.oneCell'])).mono (Ψ := fun _ w' => Chg w2 w' b (.cells #[.pointer (some ⟨b,0,none⟩),.slice a2 (l.length + s.length) c2] 74 (0,0))) fun _ _ h => h) ?_
 rintro _ w3 hC
 refine sgz 8 [] (kAt (bodyOf Tryz.f71) (ro1 4 []) []) [(4,iv (((s).length:Nat):Int)),(5,.nilIface)] [] trivial ?_
 exact retD (hs := []) (vs := [iv (((s).length:Nat):Int),.nilIface]) (ps := []) (by kernel_rfl) trivial (v := .tuple #[iv (((s).length:Nat):Int),.nilIface]) rfl (⟨rfl,.inr ⟨h1,_,hC.own,by rw [Lib.byteCells_length,List.length_append,show Lib.byteCells (l ++ s) = Lib.byteCells l ++ Lib.byteCells s by simp [Lib.byteCells]]; exact ownsRow_chg hown2 hC hne2,hne2⟩,hC.ext hE2 (Nat.le_trans hB h1),(hK1.trans (KeepT.grown hg hown)).trans (KeepT.chg hC)⟩)

set_option maxRecDepth 20000 in
theorem string_any {w0 : World} (B b : Nat) (l : Bytes) (w : World) (hE : Ext w0 w) (hB : w0.heap.size ≤ B) (h : Bld w B b l) (h0 : l ≠ []) (hl : l.length ≤ 140737488355328) :
    Does Tryz.prog 34 [pt b 0] w (fun r w' => r = .string (bs l) ∧ Ext w0 w') := by
 refine startD (c := (bodyOf Tryz.f34)) Tryz.func34 rfl (by kernel_rfl) ?_
 show G _ 14 [] _ (kAt (bodyOf Tryz.f34) [] []) (stz [(0,pt b 0)]) w
 obtain ⟨pp,h1,v,hb,hown,hne⟩ : ∃ pp,Lib.BuilderAt 74 5 B b pp (Lib.byteCells l) w := by rcases h with h | h; exact ⟨_,h⟩; exact ⟨_,h⟩
 rw [Lib.byteCells_length] at hown
 have hpos : 0 < l.length := List.length_pos_iff.2 h0
 obtain ⟨g,cap,cur,rfl,hbg,hg,hnc,hcm,hcs,htake⟩ : ∃ g cap cur,v = .slice (some ⟨g,0,none⟩) l.length cap ∧ B ≤ g ∧ w.heap[g]? = some (.cells cur 5 (0,0)) ∧ l.length ≤ cap ∧ cap ≤ maxLen ∧ cur.size = cap * 1 ∧ cur.toList.take (l.length * 1) = Lib.byteCells l := by
   rcases hown.2 with ⟨_,hz⟩ | ⟨g,cap,cur,hv,r⟩
   · omega
   · exact ⟨g,cap,cur,hv,r⟩
 have hcell := hown.cells (g := g) rfl
 refine sgz 5 [] (kAt (bodyOf Tryz.f34) [1,0] []) [(0,pt b 0),(2,sv ([]))] [] trivial ?_
 have hE1 : Ext w w := Ext.refl w
 refine dBegin (k' := (kAt (bodyOf Tryz.f34) [1,1] [])) (id := 1) (m := 12) (ops := opsAt (cAt (bodyOf Tryz.f34) [1,0])) (fun _ w' => w'.heap[b]? = some (.cells #[pp,.slice (some ⟨g,0,none⟩) l.length cap] 74 (0,0))) (by kernel_rfl) (PQ.body _ _ _) (by kernel_rfl) (by kernel_rfl) ?_
 intro w2 hx3
 have hE4 := hE1.trans hx3
 refine dtz [0,1,2,3,5,6,7,8,9] [.ld (.slice (some ⟨g,0,none⟩) l.length cap),.ld (.slice (some ⟨g,0,none⟩) l.length cap)] 3 (lb 12 1007) [(2,sv ([])),(6,.slice (some ⟨g,0,none⟩) l.length cap),(12,iv ((l.length:Nat):Int))] (fun w' => [(w').cell? ⟨b,1,none⟩ = some (.slice (some ⟨g,0,none⟩) l.length cap),(w').cell? ⟨b,1,none⟩ = some (.slice (some ⟨g,0,none⟩) l.length cap)]) (fun w' hS => (AC (cell_of hS rfl) (A1 (cell_of hS rfl)))) ((Ext.heap hx3 hb)) ?_
 refine dAll 4 [] (by kernel_rfl) ?_
 refine dos [] (.builtin .unsafeSliceData #[41] 111 #[false] [.slice (some ⟨g,0,none⟩) l.length cap]) (some 7) [] (lb 12 1023) trivial (runs_sliceData (by omega)) ?_
 rintro _ _ ⟨rfl,rfl⟩
 refine ⟨(Ext.heap hx3 hb),?_⟩
 refine dAll 10 [] (by kernel_rfl) ?_
 refine dos [] (.builtin .unsafeString #[111,3] 9 #[false,false] [pt g 0,iv ((l.length:Nat):Int)]) (some 13) [] (lb 12 2047) trivial (runs_unsafeString Tryz.underlying111 (by kernel_rfl) (shape_of (Ext.heap hx3 hg)) h0 (by omega) (by omega) (fun j x hx => Ext.cell hx3 (hcell j _ (by simp [Lib.byteCells,hx])))) ?_
 rintro _ w2 ⟨rfl,rfl⟩
 refine ⟨(freeze_other (fun e => hne (by rw [e]; rfl)) (Ext.heap hx3 hb)),?_⟩
 refine dtz [11] [] 0 (lb 12 4095) [(2,sv l)] (fun w' => []) (fun w' hS => trivial) ((freeze_other (fun e => hne (by rw [e]; rfl)) (Ext.heap hx3 hb))) ?_
 refine dDone (by kernel_rfl) ?_
 exact retD (hs := []) (vs := [sv l]) (ps := []) (by kernel_rfl) trivial (v := sv l) rfl (⟨rfl,Lib.below_freeze (hE.trans hx3) (p := ⟨g,0,none⟩) (Nat.le_trans hB hbg) _⟩)

end Go.Proofs.YtjhgghpeapmgdaaGreatDoor
