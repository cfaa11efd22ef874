/-
  PARSE: how many stops a network's text has.
-/
import Derived.Test.YtjhgghpeapmgdaaGreatDoorParToks
namespace Go.Proofs.YtjhgghpeapmgdaaGreatDoor
open Go.Bk Go.Proofs
def isStop (t : Tok) : Bool := decide (t.kind = 3)
/-- How many stops stand among the first k tokens. -/
def stopN (ts : List Tok) (k : Nat) : Nat := (ts.take k).countP isStop
theorem stopN_le (ts : List Tok) (k : Nat) : stopN ts k ≤ k := Nat.le_trans List.countP_le_length (by rw [List.length_take]; omega)
theorem stopN_succ {ts : List Tok} {k : Nat} (h : k < ts.length) : stopN ts (k + 1) = stopN ts k + (if (ts.getD k d0T).kind = 3 then 1 else 0) := by
  unfold stopN
  rw [List.take_succ_eq_append_getElem h, List.countP_append, List.getD_eq_getElem?_getD, List.getElem?_eq_getElem h, List.countP_singleton]
  simp only [isStop, decide_eq_true_eq, Option.getD_some]
theorem stopN_hit {ts : List Tok} {k : Nat} (h : k < ts.length) (h3 : (ts.getD k d0T).kind = 3) : stopN ts (k + 1) = stopN ts k + 1 := by rw [stopN_succ h, if_pos h3]
theorem stopN_miss {ts : List Tok} {k : Nat} (h : k < ts.length) (h3 : ¬ (ts.getD k d0T).kind = 3) : stopN ts (k + 1) = stopN ts k := by rw [stopN_succ h, if_neg h3, Nat.add_zero]
theorem wt_stop {w : Bytes} (a : Nat) (h : WordOk w) : isStop (wt w a) = false := by
  cases h with
  | kw h => rw [wt_kw h]; rfl
  | name h => rw [wt_name h]; rfl
  | num h0 h1 => rw [wt_num h0 h1]; rfl
theorem lineToks_stop : ∀ (l : List Bytes) (a : Nat), l ≠ [] → (∀ w ∈ l, WordOk w) → (lineToks a l).countP isStop = 1
  | [], _, h, _ => absurd rfl h
  | [w], a, _, h => by
    have h1 := wt_stop a (h w (by simp))
    rw [lineToks, List.countP_cons_of_neg (by rw [h1]; simp), List.countP_cons_of_pos rfl, List.countP_nil]
  | w :: v :: r, a, _, h => by
    rw [lineToks, List.countP_cons_of_neg (by rw [wt_stop a (h w (by simp))]; simp)]
    exact lineToks_stop (v :: r) _ (by simp) fun x hx => h x (by simp [hx])
theorem linesToks_stop : ∀ (ls : List (List Bytes)) (a : Nat), (∀ l ∈ ls, l ≠ [] ∧ ∀ w ∈ l, WordOk w) → (linesToks a ls).countP isStop = ls.length
  | [], _, _ => rfl
  | l :: ls, a, h => by
    rw [linesToks, List.countP_append, lineToks_stop l a (h l (by simp)).1 (h l (by simp)).2, linesToks_stop ls _ fun x hx => h x (by simp [hx]), List.length_cons, Nat.add_comm]
theorem print_stops {p : PPlan} (hR : RightP p) : stopN (lexT (printT p)).1 (lexT (printT p)).1.length = 2 + p.nodes.length + p.links.length + p.dests.length + p.checks.length := by
  rw [lex_print hR]
  unfold stopN
  simp only [List.take_length, List.countP_append, linesToks_stop _ _ (fun l hl => ⟨(lines_ok hR l hl).1, (lines_ok hR l hl).2.1⟩)]
  simp [linesW, isStop, endT]
  omega
theorem print_toks {p : PPlan} (hR : RightP p) : (lexT (printT p)).2 = (0, 0) := by rw [lex_print hR]
theorem printB_right {p : PPlan} (hR : RightP p) : printB p = (printT p, 0) := by unfold printB; rw [if_pos (rightB_iff.2 hR)]
end Go.Proofs.YtjhgghpeapmgdaaGreatDoor
