/-
  PLAN: contracts of strings.Builder inside the printer.
-/
import Derived.Test.YtcbclephakfemaaGreatRRRDoorPlanG
import Derived.Test.YtcbclephakfemaaGreatRRRDoorLz
import Derived.Test.YtcbclephakfemaaGreatRRRDoorFns
namespace Go.Proofs.YtcbclephakfemaaGreatRRRDoor
open Go.Bk Go.Proofs

theorem E65 : Proofs.Enters Tryz.prog 65 := Proofs.enters_of Tryz.func65 (by kernel_rfl) rfl

theorem E50 : Proofs.Enters Tryz.prog 50 := Proofs.enters_of Tryz.func50 (by kernel_rfl) rfl

theorem E21 : Proofs.Enters Tryz.prog 21 := Proofs.enters_of Tryz.func21 (by kernel_rfl) rfl

def Bld (w : World) (B b : Nat) (l : Bytes) : Prop := Lib.IsBuilder 59 5 B b (Lib.byteCells l) w
theorem Bld.ext {w w' : World} {B b : Nat} {l : Bytes} (h : Bld w B b l) (hE : Ext w w') : Bld w' B b l := by
  rcases h with ⟨h1,v,h2,h3,h4⟩ | ⟨h1,v,h2,h3,h4⟩
  · exact .inl ⟨h1,v,hE.heap h2,ownsRow_ext h3 hE,h4⟩
  · exact .inr ⟨h1,v,hE.heap h2,ownsRow_ext h3 hE,h4⟩
theorem Bld.lt {w : World} {B b : Nat} {l : Bytes} (h : Bld w B b l) : B ≤ b ∧ b < w.heap.size := by
  rcases h with ⟨h1,v,h2,h3,h4⟩ | ⟨h1,v,h2,h3,h4⟩ <;> exact ⟨h1,heap_lt h2⟩
def KeepT (w w' : World) (b : Nat) : Prop := ∀ (k : Nat) (cs : Array Value) (t : TypeId) (fz : Nat × Nat),w.heap[k]? = some (.cells cs t fz) → t ≠ 5 → k ≠ b → w'.heap[k]? = some (.cells cs t fz)
theorem KeepT.ext {w w' : World} {b : Nat} (h : Ext w w') : KeepT w w' b := fun _ _ _ _ hk _ _ => h.heap hk
theorem KeepT.trans {w w' w2 : World} {b : Nat} (h : KeepT w w' b) (k : KeepT w' w2 b) : KeepT w w2 b := fun _ _ _ _ hk ht hb => k _ _ _ _ (h _ _ _ _ hk ht hb) ht hb
theorem KeepT.chg {w w' : World} {b : Nat} {o : Obj} (h : Chg w w' b o) : KeepT w w' b := fun _ _ _ _ hk _ hb => h.heap hk hb
theorem KeepT.grown {w w' : World} {b B n : Nat} {v : Value} {xs : List Value} (hg : w.grownBy w' v.ownBlock) (h : w.ownsRow B 5 1 v n xs) : KeepT w w' b := by
  intro k cs t fz hk ht _
  refine grown_heap hg hk (fun e => ?_)
  obtain ⟨_,h2⟩ := h
  rcases h2 with ⟨hv,_⟩ | ⟨g,cap,cur,hv,_,hh,_⟩
  · rw [hv] at e; cases e
  · rw [hv] at e
    simp only [Value.ownBlock,Option.some.injEq] at e
    subst e
    rw [hh] at hk
    simp only [Option.some.injEq,Obj.cells.injEq] at hk
    exact ht hk.2.1.symm
theorem shape_of {w : World} {b : Nat} {cs : Array Value} {t : TypeId} {fz : Nat × Nat} (h : w.heap[b]? = some (.cells cs t fz)) : w.shape? b = some (t,cs.size) := by simp [World.shape?,h]

theorem freeze_other {w : World} {b g n : Nat} {o : Obj} (hne : g ≠ b) (h : w.heap[b]? = some o) : (w.freeze ⟨g,0,none⟩ n).heap[b]? = some o := by
  unfold World.freeze
  split
  · exact h
  · simp [Array.getElem?_modify,hne,h]

set_option maxRecDepth 20000 in
theorem copy_used (b : Nat) (w : World) (v : Value) (hb : w.heap[b]? = some (.cells #[.pointer (some ⟨b,0,none⟩),v] 59 (0,0))) :
    Does Tryz.prog 65 [pt b 0] w (fun r w' => r = .tuple #[] ∧ w = w') := by
 refine startZ (c := Y65) Tryz.func65 rfl (by kernel_rfl) ?_
 show H _ 20 [] _ (kAt Y65 [] []) (stz [(0,pt b 0)]) w
 refine Zi 20 [.v (pt b 0),.sg 0,.v (pt b 0),.sf,.g 0,.p (fun _ => (⟨b,0,none⟩ : Addr) = ⟨b,0,none⟩),.g 1] [cl w b 0 (pt b 0),false = false] (AC (cell_of hb rfl) (A1 rfl)) [] (A1 rfl) ?_
 exact Ze 0 [] [] [] trivial (v := .tuple #[]) rfl (⟨rfl,rfl⟩)

set_option maxRecDepth 20000 in
theorem copy_fresh (b : Nat) (w : World) (v : Value) (hb : w.heap[b]? = some (.cells #[.pointer none,v] 59 (0,0))) :
    Does Tryz.prog 65 [pt b 0] w (fun r w' => r = .tuple #[] ∧ Chg w w' b (.cells #[.pointer (some ⟨b,0,none⟩),v] 59 (0,0))) := by
 refine startZ (c := Y65) Tryz.func65 rfl (by kernel_rfl) ?_
 show H _ 20 [] _ (kAt Y65 [] []) (stz [(0,pt b 0)]) w
 obtain ⟨j,hj,hjs⟩ := Option.map_eq_some_iff.1 (show (Tryz.prog.info? 57).map (·.size) = some 2 by kernel_rfl)
 refine Zs 12 [.ld (.pointer none),.exec] [cl w b 0 (.pointer none),true = true] (AC (cell_of hb rfl) (A1 rfl)) ?_
 refine Z0 0 (.conv 54 107 (pt b 0)) (runs_to_unsafe Tryz.underlying54 Tryz.underlying107 hj (by rw [hjs]; decide) (shape_of hb) (Nat.zero_lt_succ 1)) ?_
 rintro _ _ ⟨rfl,rfl⟩
 refine Z0 0 (.call 78 [pt b 0]) (runs_noEscape Tryz.func78 (by kernel_rfl) (by kernel_rfl) (by kernel_rfl) (by kernel_rfl) _) ?_
 rintro _ _ ⟨rfl,rfl⟩
 refine Z0 0 (.conv 107 54 (pt b 0)) (runs_from_unsafe Tryz.underlying107 Tryz.underlying54 hj (shape_of hb) (by kernel_rfl)) ?_
 rintro _ _ ⟨rfl,rfl⟩
 refine Z0 2 (.store 54 (pt b 0) (pt b 0)) ((runs_store (s := 1) (cs := [.pointer none,v]) (by kernel_rfl) hb rfl (Nat.le_of_ble_eq_true rfl) (by simp [Value.cells,Value.oneCell'])).mono (Ψ := fun _ w' => Chg w w' b (.cells #[.pointer (some ⟨b,0,none⟩),v] 59 (0,0))) fun _ _ h => h) ?_
 rintro _ w1 hC
 exact Ze 1 [] [] [] trivial (v := .tuple #[]) rfl (⟨rfl,hC⟩)

theorem copy_any {w0 : World} (B b : Nat) (l : Bytes) (w : World) (hE : Ext w0 w) (hB : w0.heap.size ≤ B) (h : Bld w B b l) : Does Tryz.prog 65 [.pointer (some ⟨b,0,none⟩)] w fun r w' => r = .tuple #[] ∧ Lib.BuilderAt 59 5 B b (.pointer (some ⟨b,0,none⟩)) (Lib.byteCells l) w' ∧ Ext w0 w' ∧ KeepT w w' b := by
  rcases h with ⟨h1,v,h2,h3,h4⟩ | ⟨h1,v,h2,h3,h4⟩
  · exact (copy_fresh b w v h2).mono fun r w' ⟨e,hC⟩ => ⟨e,⟨h1,v,hC.own,ownsRow_chg h3 hC h4,h4⟩,hC.ext hE (Nat.le_trans hB h1),KeepT.chg hC⟩
  · exact (copy_used b w v h2).mono fun r w' ⟨e,hw⟩ => hw ▸ ⟨e,⟨h1,v,h2,h3,h4⟩,hE,KeepT.ext (Ext.refl _)⟩

set_option maxRecDepth 20000 in
theorem write_any {w0 : World} (B b : Nat) (l s : Bytes) (w : World) (hE : Ext w0 w) (hB : w0.heap.size ≤ B) (h : Bld w B b l) (hl : l.length + s.length ≤ 140737488355328) :
    Does Tryz.prog 50 [pt b 0,sv s] w (fun r w' => r = .tuple #[.int .i64 (s.length:Int),.nilIface] ∧ Bld w' B b (l ++ s) ∧ Ext w0 w' ∧ KeepT w w' b) := by
 refine startZ (c := Y50) Tryz.func50 rfl (by kernel_rfl) ?_
 show H _ 19 [] _ (kAt Y50 [] []) (stz [(0,pt b 0),(1,sv s)]) w
 refine Zl 8 E65 (copy_any B b l w hE hB h) ?_
 rintro _ w1 ⟨rfl,⟨h1,v,hb,hown,hne⟩,hE1,hK1⟩
 rw [Lib.byteCells_length] at hown
 refine Zs 9 [.ld (v)] [cl w1 b 1 (v)] (A1 (cell_of hb rfl)) ?_
 refine Z0 0 (.builtin .append #[55,9] 55 #[false,false] [v,sv s]) (runs_app_str (e := 5) (by kernel_rfl) (by kernel_rfl) Tryz.underlying9 hown s hl (Nat.le_trans (Nat.le_of_lt_succ (Nat.lt_succ_of_le h1)) (Nat.le_of_lt (heap_lt hb)))) ?_
 rintro v2 w2 ⟨hown2,hg⟩
 obtain ⟨a2,c2,rfl⟩ : ∃ a c,v2 = .slice a (l.length + s.length) c := by obtain ⟨a,c,h,_⟩ := SlV.of_owns hown2; exact ⟨a,c,h⟩
 have hb2 := grown_heap hg hb hne
 have hE2 := grown_ext hg hE1 hown hB
 have hne2 := Lib.ownBlock_ne hown2 hb2 (by decide)
 refine Z0 2 (.store 55 (pt b 1) (.slice a2 (l.length + s.length) c2)) ((runs_store (s := 1) (cs := [.pointer (some ⟨b,0,none⟩),v]) (by kernel_rfl) hb2 rfl (Nat.le_of_ble_eq_true rfl) (by simp [Value.cells,Value.oneCell'])).mono (Ψ := fun _ w' => Chg w2 w' b (.cells #[.pointer (some ⟨b,0,none⟩),.slice a2 (l.length + s.length) c2] 59 (0,0))) fun _ _ h => h) ?_
 rintro _ w3 hC
 exact Z2 8 (iv (((s).length:Nat):Int)) .nilIface (⟨rfl,.inr ⟨h1,_,hC.own,by rw [Lib.byteCells_length,List.length_append,show Lib.byteCells (l ++ s) = Lib.byteCells l ++ Lib.byteCells s by simp [Lib.byteCells]]; exact ownsRow_chg hown2 hC hne2,hne2⟩,hC.ext hE2 (Nat.le_trans hB h1),(hK1.trans (KeepT.grown hg hown)).trans (KeepT.chg hC)⟩)

set_option maxRecDepth 20000 in
theorem string_any {w0 : World} (B b : Nat) (l : Bytes) (w : World) (hE : Ext w0 w) (hB : w0.heap.size ≤ B) (h : Bld w B b l) (h0 : l ≠ []) (hl : l.length ≤ 140737488355328) :
    Does Tryz.prog 21 [pt b 0] w (fun r w' => r = .string (bs l) ∧ Ext w0 w') := by
 refine startZ (c := Y21) Tryz.func21 rfl (by kernel_rfl) ?_
 show H _ 14 [] _ (kAt Y21 [] []) (stz [(0,pt b 0)]) w
 obtain ⟨pp,h1,v,hb,hown,hne⟩ : ∃ pp,Lib.BuilderAt 59 5 B b pp (Lib.byteCells l) w := by rcases h with h | h; exact ⟨_,h⟩; exact ⟨_,h⟩
 rw [Lib.byteCells_length] at hown
 have hpos : 0 < l.length := List.length_pos_iff.2 h0
 obtain ⟨g,cap,cur,rfl,hbg,hg,hnc,hcm,hcs,htake⟩ : ∃ g cap cur,v = .slice (some ⟨g,0,none⟩) l.length cap ∧ B ≤ g ∧ w.heap[g]? = some (.cells cur 5 (0,0)) ∧ l.length ≤ cap ∧ cap ≤ maxLen ∧ cur.size = cap * 1 ∧ cur.toList.take (l.length * 1) = Lib.byteCells l := by
   rcases hown.2 with ⟨_,hz⟩ | ⟨g,cap,cur,hv,r⟩
   · omega
   · exact ⟨g,cap,cur,hv,r⟩
 have hcell := hown.cells (g := g) rfl
 have hE1 : Ext w w := Ext.refl w
 refine Zs 5 [] [] trivial ?_
 refine ZB 12 (kAt Y21 [1,1] []) 1 (opsAt (cAt Y21 [1,0])) (fun _ w' => w'.heap[b]? = some (.cells #[pp,.slice (some ⟨g,0,none⟩) l.length cap] 59 (0,0))) ?_
 intro w2 hx3
 have hE4 := hE1.trans hx3
 refine dx [0,1,2,3,5,6,7,8,9] [.ld (.slice (some ⟨g,0,none⟩) l.length cap),.ld (.slice (some ⟨g,0,none⟩) l.length cap)] 3 (lb 12 1007) (fun w' => [cl w' b 1 (.slice (some ⟨g,0,none⟩) l.length cap),cl w' b 1 (.slice (some ⟨g,0,none⟩) l.length cap)]) (fun w' hS => (AC (cell_of hS rfl) (A1 (cell_of hS rfl)))) ((Ext.heap hx3 hb)) ?_
 refine d1 4 ?_
 refine Wo [] (.builtin .unsafeSliceData #[55] 88 #[false] [.slice (some ⟨g,0,none⟩) l.length cap]) [] trivial (runs_sliceData (by omega)) ?_
 rintro _ _ ⟨rfl,rfl⟩
 refine ⟨(Ext.heap hx3 hb),?_⟩
 refine d1 10 ?_
 refine Wo [] (.builtin .unsafeString #[88,3] 9 #[false,false] [pt g 0,iv (l.length:Int)]) [] trivial (runs_unsafeString Tryz.underlying88 (by kernel_rfl) (shape_of (Ext.heap hx3 hg)) h0 (by omega) (by omega) (fun j x hx => Ext.cell hx3 (hcell j _ (by simp [Lib.byteCells,hx])))) ?_
 rintro _ w2 ⟨rfl,rfl⟩
 refine ⟨(freeze_other (fun e => hne (by rw [e]; rfl)) (Ext.heap hx3 hb)),?_⟩
 refine dx0 [11] [] 0 (lb 12 4095) ((freeze_other (fun e => hne (by rw [e]; rfl)) (Ext.heap hx3 hb))) ?_
 refine ZD ?_
 exact Z1 0 (sv l) (⟨rfl,Lib.below_freeze (hE.trans hx3) (p := ⟨g,0,none⟩) (Nat.le_trans hB hbg) _⟩)

end Go.Proofs.YtcbclephakfemaaGreatRRRDoor
