/-
  PLAN: contracts of strings.Builder inside the printer.
-/
import Derived.Test.YtedojnihfnkmmaaDoorPlanG
namespace Go.Proofs.YtedojnihfnkmmaaDoor
open Go.Bk Go.Proofs

theorem E57 : Proofs.Enters Tryd.prog 57 := Proofs.enters_of Tryd.func57 (by kernel_rfl) rfl

theorem E44 : Proofs.Enters Tryd.prog 44 := Proofs.enters_of Tryd.func44 (by kernel_rfl) rfl

theorem E22 : Proofs.Enters Tryd.prog 22 := Proofs.enters_of Tryd.func22 (by kernel_rfl) rfl

/-- The printer in block b holds these bytes. -/
def Bld (w : World) (B b : Nat) (l : Bytes) : Prop := Lib.IsBuilder 63 5 B b (Lib.byteCells l) w
theorem Bld.ext {w w' : World} {B b : Nat} {l : Bytes} (h : Bld w B b l) (hE : Ext w w') : Bld w' B b l := by
  rcases h with ⟨h1, v, h2, h3, h4⟩ | ⟨h1, v, h2, h3, h4⟩
  · exact .inl ⟨h1, v, hE.heap h2, ownsRow_ext h3 hE, h4⟩
  · exact .inr ⟨h1, v, hE.heap h2, ownsRow_ext h3 hE, h4⟩
theorem Bld.lt {w : World} {B b : Nat} {l : Bytes} (h : Bld w B b l) : B ≤ b ∧ b < w.heap.size := by
  rcases h with ⟨h1, v, h2, h3, h4⟩ | ⟨h1, v, h2, h3, h4⟩ <;> exact ⟨h1, heap_lt h2⟩
/-- All blocks but b, and but rows of bytes, are as they were. -/
def KeepT (w w' : World) (b : Nat) : Prop := ∀ (k : Nat) (cs : Array Value) (t : TypeId) (fz : Nat × Nat), w.heap[k]? = some (.cells cs t fz) → t ≠ 5 → k ≠ b → w'.heap[k]? = some (.cells cs t fz)
theorem KeepT.ext {w w' : World} {b : Nat} (h : Ext w w') : KeepT w w' b := fun _ _ _ _ hk _ _ => h.heap hk
theorem KeepT.trans {w w' w2 : World} {b : Nat} (h : KeepT w w' b) (k : KeepT w' w2 b) : KeepT w w2 b := fun _ _ _ _ hk ht hb => k _ _ _ _ (h _ _ _ _ hk ht hb) ht hb
theorem KeepT.chg {w w' : World} {b : Nat} {o : Obj} (h : Chg w w' b o) : KeepT w w' b := fun _ _ _ _ hk _ hb => h.heap hk hb
theorem KeepT.grown {w w' : World} {b B n : Nat} {v : Value} {xs : List Value} (hg : w.grownBy w' v.ownBlock) (h : w.ownsRow B 5 1 v n xs) : KeepT w w' b := by
  intro k cs t fz hk ht _
  refine grown_heap hg hk (fun e => ?_)
  obtain ⟨_, h2⟩ := h
  rcases h2 with ⟨hv, _⟩ | ⟨g, cap, cur, hv, _, hh, _⟩
  · rw [hv] at e; cases e
  · rw [hv] at e
    simp only [Value.ownBlock, Option.some.injEq] at e
    subst e
    rw [hh] at hk
    simp only [Option.some.injEq, Obj.cells.injEq] at hk
    exact ht hk.2.1.symm
theorem shape_of {w : World} {b : Nat} {cs : Array Value} {t : TypeId} {fz : Nat × Nat} (h : w.heap[b]? = some (.cells cs t fz)) : w.shape? b = some (t, cs.size) := by simp [World.shape?, h]

theorem freeze_other {w : World} {b g n : Nat} {o : Obj} (hne : g ≠ b) (h : w.heap[b]? = some o) : (w.freeze ⟨g, 0, none⟩ n).heap[b]? = some o := by
  unfold World.freeze
  split
  · exact h
  · simp [Array.getElem?_modify, hne, h]

set_option maxRecDepth 20000 in
theorem copy_used (b : Nat) (w : World) (v : Value) (hb : w.heap[b]? = some (.cells #[.pointer (some ⟨b, 0, none⟩), v] 63 (0, 0))) :
    Does Tryd.prog 57 [.pointer (some ⟨b, 0, none⟩)] w (fun r w' => r = .tuple #[] ∧ w = w') := by
 refine startD (c := (bodyOf Tryd.f57)) Tryd.func57 rfl (by kernel_rfl) ?_
 show G _ 20 [] _ (kAt (bodyOf Tryd.f57) [] []) [(0, none, .pointer (some ⟨b, 0, none⟩))] w
 refine sgs 20 [.ld (.pointer (some ⟨b, 0, none⟩)), .skip, .ld (.pointer (some ⟨b, 0, none⟩)), .skip] [] [] [] [w.cell? ⟨b, 0, none⟩ = some (.pointer (some ⟨b, 0, none⟩)), false = false, w.cell? ⟨b, 0, none⟩ = some (.pointer (some ⟨b, 0, none⟩)), (⟨b, 0, none⟩ : Addr) = ⟨b, 0, none⟩, false = false] ⟨(cell_of hb rfl), (rfl), (cell_of hb rfl), (rfl), (show false = false from rfl)⟩ ?_
 exact endD (hs := []) (vs := []) (ps := []) (by kernel_rfl) trivial (v := .tuple #[]) rfl (⟨rfl, rfl⟩)

set_option maxRecDepth 20000 in
theorem copy_fresh (b : Nat) (w : World) (v : Value) (hb : w.heap[b]? = some (.cells #[.pointer none, v] 63 (0, 0))) :
    Does Tryd.prog 57 [.pointer (some ⟨b, 0, none⟩)] w (fun r w' => r = .tuple #[] ∧ Chg w w' b (.cells #[.pointer (some ⟨b, 0, none⟩), v] 63 (0, 0))) := by
 refine startD (c := (bodyOf Tryd.f57)) Tryd.func57 rfl (by kernel_rfl) ?_
 show G _ 20 [] _ (kAt (bodyOf Tryd.f57) [] []) [(0, none, .pointer (some ⟨b, 0, none⟩))] w
 obtain ⟨j, hj, hjs⟩ := Option.map_eq_some_iff.1 (show (Tryd.prog.info? 61).map (·.size) = some 2 by kernel_rfl)
 refine sgs 12 [.ld (.pointer none), .exec] [7, 8] (kOp (bodyOf Tryd.f57) [1, 0] 2 []) [(7, none, .pointer (some ⟨b, 0, none⟩)), (8, none, .pointer (some ⟨b, 0, none⟩))] [w.cell? ⟨b, 0, none⟩ = some (.pointer none), true = true] ⟨(cell_of hb rfl), (show true = true from rfl)⟩ ?_
 refine oss [] (.conv 59 107 (.pointer (some ⟨b, 0, none⟩))) (some 9) (kOp (bodyOf Tryd.f57) [1, 0] 3 []) [] trivial (runs_to_unsafe Tryd.underlying59 Tryd.underlying107 hj (by rw [hjs]; decide) (shape_of hb) (Nat.zero_lt_succ 1)) ?_
 rintro _ _ ⟨rfl, rfl⟩
 refine oss [] (.call 67 [.pointer (some ⟨b, 0, none⟩)]) (some 10) (kOp (bodyOf Tryd.f57) [1, 0] 4 []) [] trivial (runs_noEscape Tryd.func67 (by kernel_rfl) (by kernel_rfl) (by kernel_rfl) (by kernel_rfl) _) ?_
 rintro _ _ ⟨rfl, rfl⟩
 refine oss [] (.conv 107 59 (.pointer (some ⟨b, 0, none⟩))) (some 11) (kOp (bodyOf Tryd.f57) [1, 0] 5 []) [] trivial (runs_from_unsafe Tryd.underlying107 Tryd.underlying59 hj (shape_of hb) (by kernel_rfl)) ?_
 rintro _ _ ⟨rfl, rfl⟩
 refine sgs 2 [] [11, 13] (kOp (bodyOf Tryd.f57) [1, 0] 7 []) [(11, none, .pointer (some ⟨b, 0, none⟩)), (13, none, .pointer (some ⟨b, 0, none⟩))] [] trivial ?_
 refine oss [] (.store 59 (.pointer (some ⟨b, 0, none⟩)) (.pointer (some ⟨b, 0, none⟩))) none (kOp (bodyOf Tryd.f57) [1, 0] 8 []) [] trivial ((runs_store (s := 1) (cs := [.pointer none, v]) (by kernel_rfl) hb rfl (Nat.le_of_ble_eq_true rfl) (by simp [Value.cells, Value.oneCell'])).mono (Ψ := fun _ w' => Chg w w' b (.cells #[.pointer (some ⟨b, 0, none⟩), v] 63 (0, 0))) fun _ _ h => h) ?_
 rintro _ w1 hC
 refine sgs 1 [] [] [] [] [] trivial ?_
 exact endD (hs := []) (vs := []) (ps := []) (by kernel_rfl) trivial (v := .tuple #[]) rfl (⟨rfl, hC⟩)

theorem copy_any {w0 : World} (B b : Nat) (l : Bytes) (w : World) (hE : Ext w0 w) (hB : w0.heap.size ≤ B) (h : Bld w B b l) : Does Tryd.prog 57 [.pointer (some ⟨b, 0, none⟩)] w fun r w' => r = .tuple #[] ∧ Lib.BuilderAt 63 5 B b (.pointer (some ⟨b, 0, none⟩)) (Lib.byteCells l) w' ∧ Ext w0 w' ∧ KeepT w w' b := by
  rcases h with ⟨h1, v, h2, h3, h4⟩ | ⟨h1, v, h2, h3, h4⟩
  · exact (copy_fresh b w v h2).mono fun r w' ⟨e, hC⟩ => ⟨e, ⟨h1, v, hC.own, ownsRow_chg h3 hC h4, h4⟩, hC.ext hE (Nat.le_trans hB h1), KeepT.chg hC⟩
  · exact (copy_used b w v h2).mono fun r w' ⟨e, hw⟩ => hw ▸ ⟨e, ⟨h1, v, h2, h3, h4⟩, hE, KeepT.ext (Ext.refl _)⟩

set_option maxRecDepth 20000 in
theorem write_any {w0 : World} (B b : Nat) (l s : Bytes) (w : World) (hE : Ext w0 w) (hB : w0.heap.size ≤ B) (h : Bld w B b l) (hl : l.length + s.length ≤ 140737488355328) :
    Does Tryd.prog 44 [.pointer (some ⟨b, 0, none⟩), .string (bs s)] w (fun r w' => r = .tuple #[.int .i64 ((s.length : Nat) : Int), .nilIface] ∧ Bld w' B b (l ++ s) ∧ Ext w0 w' ∧ KeepT w w' b) := by
 refine startD (c := (bodyOf Tryd.f44)) Tryd.func44 rfl (by kernel_rfl) ?_
 show G _ 19 [] _ (kAt (bodyOf Tryd.f44) [] []) [(0, none, .pointer (some ⟨b, 0, none⟩)), (1, none, .string (bs s))] w
 refine sgs 8 [] [0, 1, 4, 5, 6] (kOp (bodyOf Tryd.f44) [1, 0] 1 []) [(0, none, .pointer (some ⟨b, 0, none⟩)), (1, none, .string (bs s)), (4, none, .int .i64 (0 : Int)), (5, none, .nilIface), (6, none, .pointer (some ⟨b, 0, none⟩))] [] trivial ?_
 refine oss [] (.call 57 [.pointer (some ⟨b, 0, none⟩)]) (some 7) (kOp (bodyOf Tryd.f44) [1, 0] 2 []) [] trivial (runs_call E57 (copy_any B b l w hE hB h)) ?_
 rintro _ w1 ⟨rfl, ⟨h1, v, hb, hown, hne⟩, hE1, hK1⟩
 rw [Lib.byteCells_length] at hown
 refine sgs 9 [.ld (v)] [1, 4, 5, 8, 12, 13] (kOp (bodyOf Tryd.f44) [1, 1, 0] 6 []) [(1, none, .string (bs s)), (4, none, .int .i64 (0 : Int)), (5, none, .nilIface), (8, none, .pointer (some ⟨b, 0, none⟩)), (12, none, v), (13, none, .string (bs s))] [w1.cell? ⟨b, 1, none⟩ = some (v)] (show w1.cell? ⟨b, 1, none⟩ = some (v) from cell_of hb rfl) ?_
 refine oss [] (.builtin .append #[50, 9] 50 #[false, false] [v, .string (bs s)]) (some 14) (kOp (bodyOf Tryd.f44) [1, 1, 0] 7 []) [] trivial (runs_app_str (e := 5) (by kernel_rfl) (by kernel_rfl) Tryd.underlying9 hown s hl (Nat.le_trans (Nat.le_of_lt_succ (Nat.lt_succ_of_le h1)) (Nat.le_of_lt (heap_lt hb)))) ?_
 rintro v2 w2 ⟨hown2, hg⟩
 obtain ⟨a2, c2, rfl⟩ : ∃ a c, v2 = .slice a (l.length + s.length) c := by obtain ⟨a, c, h, _⟩ := SlV.of_owns hown2; exact ⟨a, c, h⟩
 have hb2 := grown_heap hg hb hne
 have hE2 := grown_ext hg hE1 hown hB
 have hne2 := Lib.ownBlock_ne hown2 hb2 (by decide)
 refine sgs 2 [] [1, 4, 5, 14, 16] (kOp (bodyOf Tryd.f44) [1, 1, 0] 9 []) [(1, none, .string (bs s)), (4, none, .int .i64 (0 : Int)), (5, none, .nilIface), (14, none, .slice a2 (l.length + s.length) c2), (16, none, .pointer (some ⟨b, 1, none⟩))] [] trivial ?_
 refine oss [] (.store 50 (.pointer (some ⟨b, 1, none⟩)) (.slice a2 (l.length + s.length) c2)) none (kOp (bodyOf Tryd.f44) [1, 1, 0] 10 []) [] trivial ((runs_store (s := 1) (cs := [.pointer (some ⟨b, 0, none⟩), v]) (by kernel_rfl) hb2 rfl (Nat.le_of_ble_eq_true rfl) (by simp [Value.cells, Value.oneCell'])).mono (Ψ := fun _ w' => Chg w2 w' b (.cells #[.pointer (some ⟨b, 0, none⟩), .slice a2 (l.length + s.length) c2] 63 (0, 0))) fun _ _ h => h) ?_
 rintro _ w3 hC
 refine sgs 8 [] [4, 5] (kAt (bodyOf Tryd.f44) [1, 1, 1, 1] []) [(4, none, .int .i64 (((s).length : Nat) : Int)), (5, none, .nilIface)] [] trivial ?_
 exact retD (hs := []) (vs := [.int .i64 (((s).length : Nat) : Int), .nilIface]) (ps := []) (by kernel_rfl) trivial (v := .tuple #[.int .i64 (((s).length : Nat) : Int), .nilIface]) rfl (⟨rfl, .inr ⟨h1, _, hC.own, by rw [Lib.byteCells_length, List.length_append, show Lib.byteCells (l ++ s) = Lib.byteCells l ++ Lib.byteCells s by simp [Lib.byteCells]]; exact ownsRow_chg hown2 hC hne2, hne2⟩, hC.ext hE2 (Nat.le_trans hB h1), (hK1.trans (KeepT.grown hg hown)).trans (KeepT.chg hC)⟩)

set_option maxRecDepth 20000 in
theorem string_any {w0 : World} (B b : Nat) (l : Bytes) (w : World) (hE : Ext w0 w) (hB : w0.heap.size ≤ B) (h : Bld w B b l) (h0 : l ≠ []) (hl : l.length ≤ 140737488355328) :
    Does Tryd.prog 22 [.pointer (some ⟨b, 0, none⟩)] w (fun r w' => r = .string (bs l) ∧ Ext w0 w') := by
 refine startD (c := (bodyOf Tryd.f22)) Tryd.func22 rfl (by kernel_rfl) ?_
 show G _ 14 [] _ (kAt (bodyOf Tryd.f22) [] []) [(0, none, .pointer (some ⟨b, 0, none⟩))] w
 obtain ⟨pp, h1, v, hb, hown, hne⟩ : ∃ pp, Lib.BuilderAt 63 5 B b pp (Lib.byteCells l) w := by rcases h with h | h; exact ⟨_, h⟩; exact ⟨_, h⟩
 rw [Lib.byteCells_length] at hown
 have hpos : 0 < l.length := List.length_pos_iff.2 h0
 obtain ⟨g, cap, cur, rfl, hbg, hg, hnc, hcm, hcs, htake⟩ : ∃ g cap cur, v = .slice (some ⟨g, 0, none⟩) l.length cap ∧ B ≤ g ∧ w.heap[g]? = some (.cells cur 5 (0, 0)) ∧ l.length ≤ cap ∧ cap ≤ maxLen ∧ cur.size = cap * 1 ∧ cur.toList.take (l.length * 1) = Lib.byteCells l := by
   rcases hown.2 with ⟨_, hz⟩ | ⟨g, cap, cur, hv, r⟩
   · omega
   · exact ⟨g, cap, cur, hv, r⟩
 have hcell := hown.cells (g := g) rfl
 refine sgs 5 [] [0, 2] (kAt (bodyOf Tryd.f22) [1, 0] []) [(0, none, .pointer (some ⟨b, 0, none⟩)), (2, none, .string (bs ([])))] [] trivial ?_
 have hE1 : Ext w w := Ext.refl w
 refine dBegin (k' := (kAt (bodyOf Tryd.f22) [1, 1] [])) (id := 1) (m := 12) (ops := opsAt (cAt (bodyOf Tryd.f22) [1, 0])) (fun _ w' => w'.heap[b]? = some (.cells #[pp, .slice (some ⟨g, 0, none⟩) l.length cap] 63 (0, 0))) (by kernel_rfl) (PQ.body _ _ _) (by kernel_rfl) (by kernel_rfl) ?_
 intro w2 hx3
 have hE4 := hE1.trans hx3
 refine dts [0, 1, 2, 3, 5, 6, 7, 8, 9] [.ld (.slice (some ⟨g, 0, none⟩) l.length cap), .ld (.slice (some ⟨g, 0, none⟩) l.length cap)] [2, 6, 12] 3 (lb 12 1007) [(2, none, .string (bs ([]))), (6, none, .slice (some ⟨g, 0, none⟩) l.length cap), (12, none, .int .i64 ((l.length : Nat) : Int))] (fun w' => [(w').cell? ⟨b, 1, none⟩ = some (.slice (some ⟨g, 0, none⟩) l.length cap), (w').cell? ⟨b, 1, none⟩ = some (.slice (some ⟨g, 0, none⟩) l.length cap)]) (fun w' hS => ⟨(cell_of hS rfl), (show (w').cell? ⟨b, 1, none⟩ = some (.slice (some ⟨g, 0, none⟩) l.length cap) from cell_of hS rfl)⟩) ((Ext.heap hx3 hb)) ?_
 refine dAll 4 [] (by kernel_rfl) ?_
 refine dos [] (.builtin .unsafeSliceData #[50] 88 #[false] [.slice (some ⟨g, 0, none⟩) l.length cap]) (some 7) [] (lb 12 1023) trivial (runs_sliceData (by omega)) ?_
 rintro _ _ ⟨rfl, rfl⟩
 refine ⟨(Ext.heap hx3 hb), ?_⟩
 refine dAll 10 [] (by kernel_rfl) ?_
 refine dos [] (.builtin .unsafeString #[88, 3] 9 #[false, false] [.pointer (some ⟨g, 0, none⟩), .int .i64 ((l.length : Nat) : Int)]) (some 13) [] (lb 12 2047) trivial (runs_unsafeString Tryd.underlying88 (by kernel_rfl) (shape_of (Ext.heap hx3 hg)) h0 (by omega) (by omega) (fun j x hx => Ext.cell hx3 (hcell j _ (by simp [Lib.byteCells, hx])))) ?_
 rintro _ w2 ⟨rfl, rfl⟩
 refine ⟨(freeze_other (fun e => hne (by rw [e]; rfl)) (Ext.heap hx3 hb)), ?_⟩
 refine dts [11] [] [2] 0 (lb 12 4095) [(2, none, .string (bs l))] (fun w' => []) (fun w' hS => trivial) ((freeze_other (fun e => hne (by rw [e]; rfl)) (Ext.heap hx3 hb))) ?_
 refine dDone (by kernel_rfl) ?_
 exact retD (hs := []) (vs := [.string (bs l)]) (ps := []) (by kernel_rfl) trivial (v := .string (bs l)) rfl (⟨rfl, Lib.below_freeze (hE.trans hx3) (p := ⟨g, 0, none⟩) (Nat.le_trans hB hbg) _⟩)

end Go.Proofs.YtedojnihfnkmmaaDoor
