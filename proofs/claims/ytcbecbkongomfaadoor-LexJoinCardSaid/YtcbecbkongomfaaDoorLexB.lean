/-
  LEX: the contract of Lex itself.
-/
import Derived.Test.YtcbecbkongomfaaDoorLexA
namespace Go.Proofs.YtcbecbkongomfaaDoor
open Go.Bk Go.Proofs

def tokCells (t : Tok) : List Value := [.int .i64 t.kind, .string (bs t.text), .int .i64 t.n, .int .i64 t.at']
theorem tokCells_len (t : Tok) : (tokCells t).length = 4 := rfl
def TokSl (w : World) (v : Value) (ts : List Tok) : Prop := SlV w v ts.length (ts.flatMap tokCells)
theorem TokSl.ext {w w' : World} {v : Value} {ts : List Tok} (h : TokSl w v ts) (hE : Ext w w') : TokSl w' v ts := SlV.ext h hE
theorem lexT_ok {l : Bytes} (h : ¬ (10000 : Int) < ((l.length : Nat) : Int)) : comb [] (lexR (l.length + 1) l 0) = lexT l := by
  unfold lexT
  rw [if_neg (by omega)]
  exact comb_nil (lexR_form _ _ _)

def lexL (l : Bytes) (w : World) : Lp (Value × List Tok × Nat) where
  S := fun x => [(0, none, .string (bs l)), (2, none, x.1), (3, none, .int .i64 (0 : Int)), (4, none, .int .i64 ((x.2.2 : Nat) : Int))]
  J := fun x w' => Ext w w' ∧ w'.ownsRow w.heap.size 39 4 x.1 x.2.1.length (x.2.1.flatMap tokCells) ∧ x.2.2 ≤ l.length ∧ x.2.1.length ≤ x.2.2 ∧ comb x.2.1 (lexR ((l.drop x.2.2).length + 1) (l.drop x.2.2) x.2.2) = lexT l
  M := fun x => l.length - x.2.2
theorem Lex_any (l : Bytes) (w : World) (hG : Glob w) :
    Does Tryd.prog 13 [.string (bs l)] w (fun v w' => ∃ u, v = .tuple #[u, .int .i64 (lexT l).2.1, .int .i64 (lexT l).2.2] ∧ TokSl w' u (lexT l).1 ∧ Ext w w') := by
  refine startD (c := (bodyOf Tryd.f13)) Tryd.func13 rfl (by kernel_rfl) ?_
  show G _ 41 [] _ (kAt (bodyOf Tryd.f13) [] []) [(0, none, .string (bs l))] w
  refine sg (tabOk Tryd.prog) 13 [] [0, 2, 3, 4, 9] (k' := (kAt (bodyOf Tryd.f13) [1, 0, 1] [])) (st' := [(0, none, .string (bs l)), (2, none, .slice none 0 0), (3, none, .int .i64 (0 : Int)), (4, none, .int .i64 (0 : Int)), (9, none, .bool (decide ((10000 : Int) < (((l).length : Nat) : Int))))]) (ps := []) (by kernel_rfl) trivial ?_
  refine br (b := (decide ((10000 : Int) < (((l).length : Nat) : Int)))) (kt := (kAt (bodyOf Tryd.f13) [1, 0, 1, 0] [])) (kf := (kAt (bodyOf Tryd.f13) [1, 0, 1, 1] [])) (ps := []) (by kernel_rfl) trivial (p := (10000 : Int) < (((l).length : Nat) : Int)) (iffDec) (fun h0 => ?_) (fun h0 => ?_)
  · refine sg (tabOk Tryd.prog) 6 [] [0, 2, 3, 4] (k' := (kAt (bodyOf Tryd.f13) [1, 0, 1, 0, 1] [])) (st' := [(0, none, .string (bs l)), (2, none, .slice none 0 0), (3, none, .int .i64 (20 : Int)), (4, none, .int .i64 (10000 : Int))]) (ps := []) (by kernel_rfl) trivial ?_
    exact retD (hs := []) (vs := [.slice none 0 0, .int .i64 (20 : Int), .int .i64 (10000 : Int)]) (ps := []) (by kernel_rfl) trivial (v := .tuple #[.slice none 0 0, .int .i64 (20 : Int), .int .i64 (10000 : Int)]) rfl (⟨.slice none 0 0, by unfold lexT; rw [if_pos (by omega)], by unfold lexT; rw [if_pos (by omega)]; exact SlV.nil w, Ext.refl w⟩)
  · have hE1 : Ext w w := Ext.refl w
    refine sg (tabOk Tryd.prog) 2 [] [0, 2, 3, 4] (k' := (kAt (bodyOf Tryd.f13) [1, 1, 0] [])) (st' := [(0, none, .string (bs l)), (2, none, .slice none 0 0), (3, none, .int .i64 (0 : Int)), (4, none, .int .i64 (0 : Int))]) (ps := []) (by kernel_rfl) trivial ?_
    refine loopR (lexL l w) (k' := (kEnd (bodyOf Tryd.f13) [1, 1, 0] [])) (body := (cAt (bodyOf Tryd.f13) [1, 1, 0, 0])) (by kernel_rfl) (.slice none 0 0, [], 0) [0, 2, 3, 4] (by kernel_rfl) (⟨hE1, ownsRow_nil, Nat.zero_le _, Nat.le_refl _, lexT_ok h0⟩) ?_
    rintro ⟨v, acc, k⟩ w0 ⟨hE, hrow, hk, hak, hcomb⟩
    simp only at hE hrow hk hak hcomb
    show G _ _ _ _ (kAt (cAt (bodyOf Tryd.f13) [1, 1, 0, 0]) [] (.inv (LI 41 [] (lexL l w) (v, acc, k)) :: (kEnd (bodyOf Tryd.f13) [1, 1, 0] []))) [(0, none, .string (bs l)), (2, none, v), (3, none, .int .i64 (0 : Int)), (4, none, .int .i64 ((k : Nat) : Int))] w0
    have hr : (l.drop k).length = l.length - k := List.length_drop
    have hs := skipL_le (l.drop k)
    obtain ⟨r, hrd⟩ : ∃ r, skipL (l.drop k) = r := ⟨_, rfl⟩
    obtain ⟨q, hq⟩ : ∃ q, (l.drop k).length - r.length = q := ⟨_, rfl⟩
    have hd : l.drop (k + q) = r := by rw [← hrd, skipL_drop, List.drop_drop, hrd, hq]
    rw [hrd] at hs
    have hsk := skip_any (l.drop k) w0 (by omega)
    rw [hrd, hq] at hsk
    obtain ⟨t, ok, ht⟩ : ∃ t ok, firstT r = (t, ok) := ⟨_, _, rfl⟩
    have hfi := first_any r w0 (by omega) (hG.ext hE)
    rw [ht] at hfi
    refine sg (tabOk Tryd.prog) 7 [] [0, 2, 3, 4, 10, 13, 14, 15] (k' := (kOp (cAt (bodyOf Tryd.f13) [1, 1, 0, 0]) [0, 0] 4 (.inv (LI 41 [] (lexL l w) (v, acc, k)) :: (kEnd (bodyOf Tryd.f13) [1, 1, 0] [])))) (st' := [(0, none, .string (bs l)), (2, none, v), (3, none, .int .i64 (0 : Int)), (4, none, .int .i64 ((k : Nat) : Int)), (10, none, .int .i64 ((k : Nat) : Int)), (13, none, .string (bs (l.drop k)))]) (ps := [(0 ≤ ((k : Nat) : Int) ∧ ((k : Nat) : Int) ≤ ((l).length : Int))]) (by kernel_rfl) (show (0 ≤ ((k : Nat) : Int) ∧ ((k : Nat) : Int) ≤ ((l).length : Int)) from by omega) ?_
    refine opStep (hs := []) (e := .call 24 [.string (bs (l.drop k))]) (d := some 14) (k' := (kOp (cAt (bodyOf Tryd.f13) [1, 1, 0, 0]) [0, 0] 5 (.inv (LI 41 [] (lexL l w) (v, acc, k)) :: (kEnd (bodyOf Tryd.f13) [1, 1, 0] [])))) (ps := []) (by kernel_rfl) trivial (runs_call E24 (hsk)) ?_
    rintro _ _ ⟨rfl, rfl⟩
    refine sg (tabOk Tryd.prog) 8 [] [0, 2, 3, 4, 5, 6, 16, 19, 20, 21, 22] (k' := (kOp (cAt (bodyOf Tryd.f13) [1, 1, 0, 0]) [0, 1, 0] 3 (.inv (LI 41 [] (lexL l w) (v, acc, k)) :: (kEnd (bodyOf Tryd.f13) [1, 1, 0] [])))) (st' := [(0, none, .string (bs l)), (2, none, v), (3, none, .int .i64 (0 : Int)), (4, none, .int .i64 ((k + q : Nat) : Int)), (19, none, .string (bs (l.drop (k + q))))]) (ps := [(-9223372036854775808 ≤ ((k + q : Nat) : Int) ∧ ((k + q : Nat) : Int) ≤ 9223372036854775807), (0 ≤ ((k + q : Nat) : Int) ∧ ((k + q : Nat) : Int) ≤ ((l).length : Int))]) (by kernel_rfl) ⟨(by omega), (show (0 ≤ ((k + q : Nat) : Int) ∧ ((k + q : Nat) : Int) ≤ ((l).length : Int)) from by omega)⟩ ?_
    rw [hd]
    refine opStep (hs := []) (e := .call 25 [.string (bs r)]) (d := some 20) (k' := (kOp (cAt (bodyOf Tryd.f13) [1, 1, 0, 0]) [0, 1, 0] 4 (.inv (LI 41 [] (lexL l w) (v, acc, k)) :: (kEnd (bodyOf Tryd.f13) [1, 1, 0] [])))) (ps := []) (by kernel_rfl) trivial (runs_call E25 (hfi)) ?_
    rintro _ w1 ⟨rfl, hx⟩
    have hE2 := hE.trans hx
    have hr3 := ownsRow_ext hrow hx
    refine sg (tabOk Tryd.prog) 3 [] [0, 2, 3, 4, 5, 6, 21, 22] (k' := (kOp (cAt (bodyOf Tryd.f13) [1, 1, 0, 0]) [0, 1, 0] 7 (.inv (LI 41 [] (lexL l w) (v, acc, k)) :: (kEnd (bodyOf Tryd.f13) [1, 1, 0] [])))) (st' := [(0, none, .string (bs l)), (2, none, v), (3, none, .int .i64 (0 : Int)), (4, none, .int .i64 ((k + q : Nat) : Int)), (21, none, .agg #[.int .i64 t.kind, .string (bs t.text), .int .i64 t.n, .int .i64 (0 : Int)]), (22, none, .bool ok)]) (ps := []) (by kernel_rfl) trivial ?_
    refine opStep (hs := []) (e := .alloc 39) (d := some 5) (k' := (kOp (cAt (bodyOf Tryd.f13) [1, 1, 0, 0]) [0, 1, 0] 8 (.inv (LI 41 [] (lexL l w) (v, acc, k)) :: (kEnd (bodyOf Tryd.f13) [1, 1, 0] [])))) (ps := []) (by kernel_rfl) trivial (runs_alloc (z := .agg #[.int .i64 (0 : Int), .string (bs ([])), .int .i64 (0 : Int), .int .i64 (0 : Int)]) (by kernel_rfl)) ?_
    rintro _ w2 ⟨b1, rfl, hN4⟩
    have hd5 := ownsRow_apart hr3 (Nat.le_of_eq hN4.lo.symm)
    have hl6 : w.heap.size ≤ b1 := by have := hE2.le; have := hN4.lo; omega
    have hE7 := hE2.trans hN4.ext
    have hr8 := ownsRow_ext hr3 hN4.ext
    have ho9 := hN4.own
    refine opStep (hs := []) (e := .store 39 (.pointer (some ⟨b1, 0, none⟩)) (.agg #[.int .i64 t.kind, .string (bs t.text), .int .i64 t.n, .int .i64 (0 : Int)])) (d := none) (k' := (kOp (cAt (bodyOf Tryd.f13) [1, 1, 0, 0]) [0, 1, 0] 9 (.inv (LI 41 [] (lexL l w) (v, acc, k)) :: (kEnd (bodyOf Tryd.f13) [1, 1, 0] [])))) (ps := []) (by kernel_rfl) trivial ((runs_store (s := 4) (cs := [.int .i64 (0 : Int), .string (bs ([])), .int .i64 (0 : Int), .int .i64 (0 : Int)]) (by kernel_rfl) ho9 rfl (Nat.le_of_ble_eq_true rfl) (by simp [Value.cells, Value.oneCell'])).mono (Ψ := fun _ w' => Chg w2 w' b1 (.cells #[.int .i64 t.kind, .string (bs t.text), .int .i64 t.n, .int .i64 (0 : Int)] _ (0, 0))) fun _ _ h => h) ?_
    rintro _ w3 hC10
    have hE11 := hC10.ext hE7 hl6
    have hr12 := ownsRow_chg hr8 hC10 hd5
    have ho13 := hC10.own
    refine sg (tabOk Tryd.prog) 8 [] [0, 2, 3, 4, 5, 24] (k' := (kAt (cAt (bodyOf Tryd.f13) [1, 1, 0, 0]) [0, 1, 1, 0, 1] (.inv (LI 41 [] (lexL l w) (v, acc, k)) :: (kEnd (bodyOf Tryd.f13) [1, 1, 0] [])))) (st' := [(0, none, .string (bs l)), (2, none, v), (3, none, .int .i64 (0 : Int)), (4, none, .int .i64 ((k + q : Nat) : Int)), (5, none, .pointer (some ⟨b1, 0, none⟩)), (24, none, .bool (!ok))]) (ps := []) (by kernel_rfl) trivial ?_
    refine br (b := (!ok)) (kt := (kAt (cAt (bodyOf Tryd.f13) [1, 1, 0, 0]) [0, 1, 1, 0, 1, 0] (.inv (LI 41 [] (lexL l w) (v, acc, k)) :: (kEnd (bodyOf Tryd.f13) [1, 1, 0] [])))) (kf := (kAt (cAt (bodyOf Tryd.f13) [1, 1, 0, 0]) [0, 1, 1, 0, 1, 1] (.inv (LI 41 [] (lexL l w) (v, acc, k)) :: (kEnd (bodyOf Tryd.f13) [1, 1, 0] [])))) (ps := []) (by kernel_rfl) trivial (p := ¬ (ok = true)) ((iffNot Iff.rfl)) (fun h1 => ?_) (fun h1 => ?_)
    · have h1 : (firstT (skipL (l.drop k))).2 = false := by rw [hrd, ht]; simpa using h1
      have hx1 : lexT l = ([], 21, ((k + q : Nat) : Int)) := by rw [← hcomb, lexR_bad h1, hrd, hq]; rfl
      refine sg (tabOk Tryd.prog) 7 [] [0, 2, 3, 4, 5] (k' := (kAt (cAt (bodyOf Tryd.f13) [1, 1, 0, 0]) [0, 1, 1, 0, 1, 0, 1] (.inv (LI 41 [] (lexL l w) (v, acc, k)) :: (kEnd (bodyOf Tryd.f13) [1, 1, 0] [])))) (st' := [(0, none, .string (bs l)), (2, none, .slice none 0 0), (3, none, .int .i64 (21 : Int)), (4, none, .int .i64 ((k + q : Nat) : Int)), (5, none, .pointer (some ⟨b1, 0, none⟩))]) (ps := []) (by kernel_rfl) trivial ?_
      exact retD (hs := []) (vs := [.slice none 0 0, .int .i64 (21 : Int), .int .i64 ((k + q : Nat) : Int)]) (ps := []) (by kernel_rfl) trivial (v := .tuple #[.slice none 0 0, .int .i64 (21 : Int), .int .i64 ((k + q : Nat) : Int)]) rfl (⟨.slice none 0 0, by rw [hx1], by rw [hx1]; exact SlV.nil _, hE11⟩)
    · have h1 : ok = true := by simpa using h1
      refine sg (tabOk Tryd.prog) 5 [] [0, 2, 3, 4, 5, 26, 27] (k' := (kOp (cAt (bodyOf Tryd.f13) [1, 1, 0, 0]) [0, 1, 1, 1, 0] 2 (.inv (LI 41 [] (lexL l w) (v, acc, k)) :: (kEnd (bodyOf Tryd.f13) [1, 1, 0] [])))) (st' := [(0, none, .string (bs l)), (2, none, v), (3, none, .int .i64 (0 : Int)), (4, none, .int .i64 ((k + q : Nat) : Int)), (5, none, .pointer (some ⟨b1, 0, none⟩)), (26, none, .int .i64 ((k + q : Nat) : Int)), (27, none, .pointer (some ⟨b1, 3, none⟩))]) (ps := []) (by kernel_rfl) trivial ?_
      refine opStep (hs := []) (e := .store 3 (.pointer (some ⟨b1, 3, none⟩)) (.int .i64 ((k + q : Nat) : Int))) (d := none) (k' := (kOp (cAt (bodyOf Tryd.f13) [1, 1, 0, 0]) [0, 1, 1, 1, 0] 3 (.inv (LI 41 [] (lexL l w) (v, acc, k)) :: (kEnd (bodyOf Tryd.f13) [1, 1, 0] [])))) (ps := []) (by kernel_rfl) trivial ((runs_store (s := 1) (cs := [.int .i64 t.kind, .string (bs t.text), .int .i64 t.n, .int .i64 (0 : Int)]) (by kernel_rfl) ho13 rfl (Nat.le_of_ble_eq_true rfl) (by simp [Value.cells, Value.oneCell'])).mono (Ψ := fun _ w' => Chg w3 w' b1 (.cells #[.int .i64 t.kind, .string (bs t.text), .int .i64 t.n, .int .i64 ((k + q : Nat) : Int)] _ (0, 0))) fun _ _ h => h) ?_
      rintro _ w4 hC14
      have hE15 := hC14.ext hE11 hl6
      have hr16 := ownsRow_chg hr12 hC14 hd5
      have ho17 := hC14.own
      refine sg (tabOk Tryd.prog) 5 [.ld (.agg #[.int .i64 t.kind, .string (bs t.text), .int .i64 t.n, .int .i64 ((k + q : Nat) : Int)])] [0, 2, 3, 4, 5, 28, 29, 30, 31] (k' := (kOp (cAt (bodyOf Tryd.f13) [1, 1, 0, 0]) [0, 1, 1, 1, 1, 0] 2 (.inv (LI 41 [] (lexL l w) (v, acc, k)) :: (kEnd (bodyOf Tryd.f13) [1, 1, 0] [])))) (st' := [(0, none, .string (bs l)), (2, none, v), (3, none, .int .i64 (0 : Int)), (4, none, .int .i64 ((k + q : Nat) : Int)), (5, none, .pointer (some ⟨b1, 0, none⟩)), (28, none, v), (29, none, .agg #[.int .i64 t.kind, .string (bs t.text), .int .i64 t.n, .int .i64 ((k + q : Nat) : Int)])]) (ps := [w4.cell? ⟨b1, 0, none⟩ = some (.int .i64 t.kind), w4.cell? ⟨b1, 1, none⟩ = some (.string (bs t.text)), w4.cell? ⟨b1, 2, none⟩ = some (.int .i64 t.n), w4.cell? ⟨b1, 3, none⟩ = some (.int .i64 ((k + q : Nat) : Int))]) (by kernel_rfl) ⟨(cell_of ho17 rfl), (cell_of ho17 rfl), (cell_of ho17 rfl), (show w4.cell? ⟨b1, 3, none⟩ = some (.int .i64 ((k + q : Nat) : Int)) from cell_of ho17 rfl)⟩ ?_
      refine opStep (hs := []) (e := .bslice 30 1 [(0, .agg #[.int .i64 t.kind, .string (bs t.text), .int .i64 t.n, .int .i64 ((k + q : Nat) : Int)])]) (d := some 30) (k' := (kOp (cAt (bodyOf Tryd.f13) [1, 1, 0, 0]) [0, 1, 1, 1, 1, 0] 3 (.inv (LI 41 [] (lexL l w) (v, acc, k)) :: (kEnd (bodyOf Tryd.f13) [1, 1, 0] [])))) (ps := []) (by kernel_rfl) trivial (runs_bslice (cs := [.int .i64 t.kind, .string (bs t.text), .int .i64 t.n, .int .i64 ((k + q : Nat) : Int)]) (e := 39) (by kernel_rfl)) ?_
      rintro _ w5 ⟨b2, rfl, hN18⟩
      have hd19 : b1 ≠ b2 := New.ne hN18 ho17
      have hd20 : b2 ≠ b1 := Ne.symm hd19
      have hd21 := ownsRow_apart hr16 (Nat.le_of_eq hN18.lo.symm)
      have hl22 : w.heap.size ≤ b2 := by have := hE15.le; have := hN18.lo; omega
      have hE23 := hE15.trans hN18.ext
      have ho24 := hN18.ext.heap ho17
      have hr25 := ownsRow_ext hr16 hN18.ext
      have ho26 := hN18.own
      refine opStep (hs := []) (e := .builtin .append #[30, 30] 30 #[false, false] [v, .slice (some ⟨b2, 0, none⟩) 1 1]) (d := some 31) (k' := (kOp (cAt (bodyOf Tryd.f13) [1, 1, 0, 0]) [0, 1, 1, 1, 1, 0] 4 (.inv (LI 41 [] (lexL l w) (v, acc, k)) :: (kEnd (bodyOf Tryd.f13) [1, 1, 0] [])))) (ps := []) (by kernel_rfl) trivial (runs_app (e := 39) (size := 4) (bytes := 40) (by kernel_rfl) hr25 (m := 1) (news := [.int .i64 t.kind, .string (bs t.text), .int .i64 t.n, .int .i64 ((k + q : Nat) : Int)]) ho26 rfl (by simp [Value.oneCell']) (by omega) (by omega) hE23.le) ?_
      rintro v1 w6 ⟨hr27, hg28⟩
      have hE29 := grown_ext hg28 hE23 hr25 (Nat.le_refl _)
      have ho30 := grown_heap hg28 ho24 hd5
      have ho31 := grown_heap hg28 ho26 hd21
      have hr27 : w6.ownsRow w.heap.size 39 4 v1 ((acc ++ [{ t with at' := ((k + q : Nat) : Int) }]).length) ((acc ++ [{ t with at' := ((k + q : Nat) : Int) }]).flatMap tokCells) := by simpa [tokCells] using hr27
      refine sg (tabOk Tryd.prog) 9 [.ld (.int .i64 t.kind)] [0, 2, 3, 4, 5, 34] (k' := (kAt (cAt (bodyOf Tryd.f13) [1, 1, 0, 0]) [0, 1, 1, 1, 1, 1, 0, 1] (.inv (LI 41 [] (lexL l w) (v, acc, k)) :: (kEnd (bodyOf Tryd.f13) [1, 1, 0] [])))) (st' := [(0, none, .string (bs l)), (2, none, v1), (3, none, .int .i64 (0 : Int)), (4, none, .int .i64 ((k + q : Nat) : Int)), (5, none, .pointer (some ⟨b1, 0, none⟩)), (34, none, .bool (decide ((t.kind : Int) = (4 : Int))))]) (ps := [w6.cell? ⟨b1, 0, none⟩ = some (.int .i64 t.kind)]) (by kernel_rfl) (show w6.cell? ⟨b1, 0, none⟩ = some (.int .i64 t.kind) from cell_of ho30 rfl) ?_
      refine br (b := (decide ((t.kind : Int) = (4 : Int)))) (kt := (kAt (cAt (bodyOf Tryd.f13) [1, 1, 0, 0]) [0, 1, 1, 1, 1, 1, 0, 1, 0] (.inv (LI 41 [] (lexL l w) (v, acc, k)) :: (kEnd (bodyOf Tryd.f13) [1, 1, 0] [])))) (kf := (kAt (cAt (bodyOf Tryd.f13) [1, 1, 0, 0]) [0, 1, 1, 1, 1, 1, 0, 1, 1] (.inv (LI 41 [] (lexL l w) (v, acc, k)) :: (kEnd (bodyOf Tryd.f13) [1, 1, 0] [])))) (ps := []) (by kernel_rfl) trivial (p := (t.kind : Int) = (4 : Int)) (iffDec) (fun h2 => ?_) (fun h2 => ?_)
      · have hc : (firstT (skipL (l.drop k))).2 = true := by rw [hrd, ht]; exact h1
        have h2 : (firstT (skipL (l.drop k))).1.kind = 4 := by rw [hrd, ht]; exact h2
        have hx1 : lexT l = (acc ++ [{ t with at' := ((k + q : Nat) : Int) }], 0, 0) := by rw [← hcomb, lexR_end hc h2, hrd, hq, ht]; rfl
        refine sg (tabOk Tryd.prog) 7 [] [0, 2, 3, 4, 5] (k' := (kAt (cAt (bodyOf Tryd.f13) [1, 1, 0, 0]) [0, 1, 1, 1, 1, 1, 0, 1, 0, 1] (.inv (LI 41 [] (lexL l w) (v, acc, k)) :: (kEnd (bodyOf Tryd.f13) [1, 1, 0] [])))) (st' := [(0, none, .string (bs l)), (2, none, v1), (3, none, .int .i64 (0 : Int)), (4, none, .int .i64 (0 : Int)), (5, none, .pointer (some ⟨b1, 0, none⟩))]) (ps := []) (by kernel_rfl) trivial ?_
        exact retD (hs := []) (vs := [v1, .int .i64 (0 : Int), .int .i64 (0 : Int)]) (ps := []) (by kernel_rfl) trivial (v := .tuple #[v1, .int .i64 (0 : Int), .int .i64 (0 : Int)]) rfl (⟨v1, by rw [hx1], by rw [hx1]; exact SlV.of_owns hr27, hE29⟩)
      · have hc : (firstT (skipL (l.drop k))).2 = true := by rw [hrd, ht]; exact h1
        have h2 : (firstT (skipL (l.drop k))).1.kind ≠ 4 := by rw [hrd, ht]; exact h2
        have hx1 := lexR_go (a := k) acc hc h2
        rw [hcomb, hrd, hq, ht] at hx1
        simp only at hx1
        have hne := skip_ne h2
        rw [hrd] at hne
        have hp1 := firstT_pos hne (by rw [ht]; exact h1)
        have hp2 := firstT_text (l := r)
        rw [ht] at hp1 hp2
        simp only at hp1 hp2
        have hdd : l.drop (k + q + t.text.length) = r.drop t.text.length := by rw [← hd, List.drop_drop]
        refine sg (tabOk Tryd.prog) 10 [.ld (.string (bs t.text))] [0, 2, 3, 4] (k' := (.inv (LI 41 [] (lexL l w) (v, acc, k)) :: (kEnd (bodyOf Tryd.f13) [1, 1, 0] []))) (st' := [(0, none, .string (bs l)), (2, none, v1), (3, none, .int .i64 (0 : Int)), (4, none, .int .i64 ((k + q + ((t.text).length) : Nat) : Int))]) (ps := [w6.cell? ⟨b1, 1, none⟩ = some (.string (bs t.text)), (-9223372036854775808 ≤ ((k + q + ((t.text).length) : Nat) : Int) ∧ ((k + q + ((t.text).length) : Nat) : Int) ≤ 9223372036854775807)]) (by kernel_rfl) ⟨(cell_of ho30 rfl), (show (-9223372036854775808 ≤ ((k + q + ((t.text).length) : Nat) : Int) ∧ ((k + q + ((t.text).length) : Nat) : Int) ≤ 9223372036854775807) from by omega)⟩ ?_
        exact again (v1, (acc ++ [{ t with at' := ((k + q : Nat) : Int) }]), k + q + t.text.length) [0, 2, 3, 4] (by kernel_rfl) (⟨hE29, hr27, by show k + q + t.text.length ≤ l.length; omega, by show (acc ++ [{ t with at' := ((k + q : Nat) : Int) }]).length ≤ k + q + t.text.length; rw [List.length_append]; simp; omega, by show comb (acc ++ [{ t with at' := ((k + q : Nat) : Int) }]) (lexR ((l.drop (k + q + t.text.length)).length + 1) (l.drop (k + q + t.text.length)) (k + q + t.text.length)) = lexT l; rw [hdd]; exact hx1.symm⟩) (show l.length - (k + q + t.text.length) < l.length - k by omega)

end Go.Proofs.YtcbecbkongomfaaDoor
