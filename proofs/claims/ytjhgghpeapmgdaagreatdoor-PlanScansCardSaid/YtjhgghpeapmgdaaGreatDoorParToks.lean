/-
  PARSE, PLAIN: what is printed, as tokens; what the parser makes of lines. No program here.
-/
import Derived.Test.YtjhgghpeapmgdaaGreatDoorLexJoin
import Derived.Test.YtjhgghpeapmgdaaGreatDoorPlanInj
import Derived.Test.YtjhgghpeapmgdaaGreatDoorParSort
namespace Go.Bk
open Go

/-! ## Words -/
def wtok (w : Bytes) : Tok := if 0 ≤ numI w then ⟨2, w, numI w, 0⟩ else ⟨1, w, 0, 0⟩
def wt (w : Bytes) (a : Nat) : Tok := { wtok w with at' := ((a : Nat) : Int) }
def stopT (a : Nat) : Tok := ⟨3, [59], 0, ((a : Nat) : Int)⟩
def endT (a : Nat) : Tok := ⟨4, [], 0, ((a : Nat) : Int)⟩
inductive WordOk : Bytes → Prop where
  | kw {w : Bytes} (h : kwB w = true) : WordOk w
  | name {w : Bytes} (h : nameB w = true) : WordOk w
  | num {n : Int} (h0 : 0 ≤ n) (h1 : n ≤ 65535) : WordOk (Lib.itoa n)
theorem wt_kw {w : Bytes} (h : kwB w = true) (a : Nat) : wt w a = ⟨1, w, 0, ((a : Nat) : Int)⟩ := by
  unfold wt wtok
  rw [kw_num h, if_neg (by decide)]
theorem wt_name {w : Bytes} (h : nameB w = true) (a : Nat) : wt w a = ⟨1, w, 0, ((a : Nat) : Int)⟩ := by
  unfold wt wtok
  rw [name_num h, if_neg (by decide)]
theorem numI_itoa {n : Int} (h0 : 0 ≤ n) (h1 : n ≤ 65535) : numI (Lib.itoa n) = n := by
  rw [itoa_nat h0, numI_dec (by omega)]
  omega
theorem wt_num {n : Int} (h0 : 0 ≤ n) (h1 : n ≤ 65535) (a : Nat) : wt (Lib.itoa n) a = ⟨2, Lib.itoa n, n, ((a : Nat) : Int)⟩ := by
  unfold wt wtok
  rw [numI_itoa h0 h1, if_pos h0]
theorem kw_parts {w : Bytes} (h : kwB w = true) : w ≠ [] ∧ ∀ c ∈ w, partB c = true := by
  have hm : w ∈ kwList := by simpa [kwB] using h
  have := List.all_eq_true.1 kw_all w hm
  simp only [Bool.and_eq_true, Bool.not_eq_true', List.isEmpty_eq_false_iff, List.all_eq_true] at this
  exact this.1
theorem WordOk.word {w : Bytes} (h : WordOk w) : Word w (wtok w) := by
  cases h with
  | kw h =>
    have := kw_parts h
    have e : wtok w = ⟨1, w, 0, 0⟩ := by unfold wtok; rw [kw_num h, if_neg (by decide)]
    rw [e]
    exact word_parts this.1 this.2 (.inl h)
  | name h =>
    have := name_parts h
    have e : wtok w = ⟨1, w, 0, 0⟩ := by unfold wtok; rw [name_num h, if_neg (by decide)]
    rw [e]
    exact word_parts this.1 this.2 (.inr h)
  | @num n h0 h1 =>
    have hn := numI_itoa h0 h1
    have e : wtok (Lib.itoa n) = ⟨2, Lib.itoa n, numI (Lib.itoa n), 0⟩ := by unfold wtok; rw [if_pos (by omega)]
    rw [e]
    rw [itoa_nat h0] at hn ⊢
    exact num_parts (decDigits_ne _) (fun c hc => digit_part (decDigits_digit _ c hc)) (by omega)
theorem WordOk.len {w : Bytes} (h : WordOk w) : w.length ≤ 12 := by
  cases h with
  | kw h =>
    have hm : w ∈ kwList := by simpa [kwB] using h
    have : kwList.all (fun w => decide (w.length ≤ 12)) = true := by decide
    simpa using List.all_eq_true.1 this w hm
  | name h => exact nameB_len h
  | num h0 h1 => exact itoa_len h0 h1
theorem nil10 : ([10] : Bytes) ∈ blankList := by decide
theorem nil32 : ([32] : Bytes) ∈ blankList := by decide
theorem Pre.blank {s b : Bytes} {want : List Tok} (h : Pre s want) (hb : b ∈ blankList) : Pre (s ++ b) want := by
  intro r
  have h1 := h (b ++ r)
  rw [lexR_blank hb] at h1
  rw [List.append_assoc, h1, List.length_append]
theorem lexR_word' {p r : Bytes} {t : Tok} {a : Nat} (acc : List Tok) (W : Word p t) (hf : firstT (p ++ r) = (t, true)) :
    comb acc (lexR ((p ++ r).length + 1) (p ++ r) a) = comb (acc ++ [{ t with at' := ((a : Nat) : Int) }]) (lexR (r.length + 1) r (a + p.length)) := by
  have hs : skipL (p ++ r) = p ++ r := skipL_self (fun _ => by rw [getD_app W.ne]; exact W.blank) (fun _ => by rw [getD_app W.ne]; exact W.hash)
  rw [lexR_go acc (by rw [hs, hf]) (by rw [hs, hf]; exact W.kind), hs, hf, Nat.sub_self, Nat.add_zero]
  simp only [W.text, List.drop_left]
theorem Pre.stop {s : Bytes} {want : List Tok} (h : Pre s want) : Pre (s ++ [59]) (want ++ [stopT s.length]) := by
  intro r
  have h1 := h ([59] ++ r)
  rw [lexR_word' want stop_word (firstT_semi (by simp) (show (59 : UInt8).toNat = 59 by decide))] at h1
  rw [List.append_assoc, h1, List.length_append]
  rfl
/-- A word, and a stop. -/
theorem Pre.wordStop {s w : Bytes} {want : List Tok} (h : Pre s want) (W : WordOk w) : Pre (s ++ w ++ [59]) (want ++ [wt w s.length, stopT (s.length + w.length)]) := by
  intro r
  have h1 := h (w ++ ([59] ++ r))
  rw [lexR_word (r := [59] ++ r) want W.word (fun _ => by rw [show ([59] ++ r : Bytes).getD 0 0 = 59 from rfl]; decide), lexR_word' _ stop_word (firstT_semi (by simp) (show (59 : UInt8).toNat = 59 by decide))] at h1
  rw [show s ++ w ++ [59] ++ r = s ++ (w ++ ([59] ++ r)) by simp, h1]
  simp only [List.append_assoc, List.length_append, List.singleton_append, List.cons_append, List.nil_append]
  rfl
theorem Pre.wordBlank {s w b : Bytes} {want : List Tok} (h : Pre s want) (W : WordOk w) (hb : b ∈ blankList) : Pre (s ++ w ++ b) (want ++ [wt w s.length]) := h.step W.word hb
def lineToks : Nat → List Bytes → List Tok
  | _, [] => []
  | a, [w] => [wt w a, stopT (a + w.length)]
  | a, w :: v :: r => wt w a :: lineToks (a + w.length + 1) (v :: r)
theorem Pre.line : ∀ (ws : List Bytes) {s : Bytes} {want : List Tok}, Pre s want → ws ≠ [] → (∀ w ∈ ws, WordOk w) → Pre (s ++ lineW ws) (want ++ lineToks s.length ws)
  | [], _, _, _, h, _ => absurd rfl h
  | [w], s, want, h, _, hw => by
    have := (h.wordStop (hw w (by simp))).blank nil10
    simpa [lineW, joinW, lineToks] using this
  | w :: v :: r, s, want, h, _, hw => by
    have h1 := h.wordBlank (hw w (by simp)) nil32
    have h2 := Pre.line (v :: r) h1 (by simp) (fun x hx => hw x (List.mem_cons_of_mem _ hx))
    simp only [lineToks]
    rw [List.append_assoc, List.singleton_append] at h2
    have e : s ++ lineW (w :: v :: r) = s ++ w ++ [32] ++ lineW (v :: r) := by simp [lineW, joinW]
    rw [e]
    simpa [List.length_append, Nat.add_assoc] using h2
def linesToks : Nat → List (List Bytes) → List Tok
  | _, [] => []
  | a, l :: r => lineToks a l ++ linesToks (a + (lineW l).length) r
theorem Pre.lines : ∀ (ls : List (List Bytes)) {s : Bytes} {want : List Tok}, Pre s want → (∀ l ∈ ls, l ≠ [] ∧ ∀ w ∈ l, WordOk w) → Pre (s ++ ls.flatMap lineW) (want ++ linesToks s.length ls)
  | [], s, want, h, _ => by simpa [linesToks] using h
  | l :: r, s, want, h, hl => by
    have h1 := Pre.line l h (hl l (by simp)).1 (hl l (by simp)).2
    have h2 := Pre.lines r h1 (fun x hx => hl x (List.mem_cons_of_mem _ hx))
    rw [List.flatMap_cons, ← List.append_assoc]
    simp only [linesToks]
    rw [← List.append_assoc, ← List.length_append]
    exact h2
/-! ## The words of a network -/
theorem k_protocol : kwB wdProtocol = true := by decide
theorem k_path : kwB wdPath = true := by decide
theorem k_vector : kwB wdVector = true := by decide
theorem k_failures : kwB wdFailures = true := by decide
theorem k_node : kwB wdNode = true := by decide
theorem k_link : kwB wdLink = true := by decide
theorem k_dest : kwB wdDest = true := by decide
theorem k_at : kwB wdAt = true := by decide
theorem k_check : kwB wdCheck = true := by decide
theorem k_reach : kwB wdReach = true := by decide
theorem k_within : kwB wdWithin = true := by decide
theorem k_waypoint : kwB wdWaypoint = true := by decide
theorem k_equal : kwB wdEqual = true := by decide
theorem nmN_name {p : PPlan} (hR : RightP p) {i : Int} (h0 : 0 ≤ i) (h1 : i < p.nodes.length) : nameB (nmN p i) = true := by
  refine hR.names _ (List.mem_append_left _ (List.mem_map_of_mem ?_))
  exact getD_mem' d0N (by omega)
theorem nmD_name {p : PPlan} (hR : RightP p) {i : Int} (h0 : 0 ≤ i) (h1 : i < p.dests.length) : nameB (nmD p i) = true := by
  refine hR.names _ (List.mem_append_right _ (List.mem_map_of_mem ?_))
  exact getD_mem' d0D (by omega)
theorem name_node {p : PPlan} (hR : RightP p) {x : PNode} (h : x ∈ p.nodes) : nameB x.name = true := hR.names _ (List.mem_append_left _ (List.mem_map_of_mem h))
theorem name_dest {p : PPlan} (hR : RightP p) {x : PDest} (h : x ∈ p.dests) : nameB x.name = true := hR.names _ (List.mem_append_right _ (List.mem_map_of_mem h))
theorem cap_is {p : PPlan} (hR : RightP p) : (p.proto = 1 ∧ p.cap = 0) ∨ (p.proto = 2 ∧ 1 ≤ p.cap ∧ p.cap ≤ 12) := by
  have h := hR.routing
  unfold routingB at h
  split at h
  · simp only [decide_eq_true_eq] at h; omega
  · split at h
    · rw [withinB_iff] at h; omega
    · cases h
theorem protoW_ok {p : PPlan} (hR : RightP p) : protoW p ≠ [] ∧ (∀ w ∈ protoW p, WordOk w) ∧ (protoW p).length ≤ 15 := by
  have hc := cap_is hR
  unfold protoW
  split
  · refine ⟨by simp, fun w hw => ?_, by simp⟩
    simp only [List.mem_cons, List.not_mem_nil, or_false] at hw
    rcases hw with rfl | rfl | rfl
    · exact .kw k_protocol
    · exact .kw k_path
    · exact .num (by omega) (by omega)
  · refine ⟨by simp, fun w hw => ?_, by simp⟩
    simp only [List.mem_cons, List.not_mem_nil, or_false] at hw
    rcases hw with rfl | rfl
    · exact .kw k_protocol
    · exact .kw k_vector
theorem failW_ok {p : PPlan} (hR : RightP p) : ∀ w ∈ [wdFailures, Lib.itoa p.k], WordOk w := by
  intro w hw
  have := hR.k0; have := hR.k1
  simp only [List.mem_cons, List.not_mem_nil, or_false] at hw
  rcases hw with rfl | rfl
  · exact .kw k_failures
  · exact .num (by omega) (by omega)
theorem nodeW_ok {p : PPlan} (hR : RightP p) {x : PNode} (hx : x ∈ p.nodes) : ∀ w ∈ nodeW x, WordOk w := by
  intro w hw
  have := hR.asn x hx
  simp only [nodeW, List.mem_cons, List.not_mem_nil, or_false] at hw
  rcases hw with rfl | rfl | rfl
  · exact .kw k_node
  · exact .name (name_node hR hx)
  · exact .num (by omega) (by omega)
theorem linkW_ok {p : PPlan} (hR : RightP p) {x : PLink} (hx : x ∈ p.links) : ∀ w ∈ linkW p x, WordOk w := by
  intro w hw
  have := hR.link x hx
  simp only [linkW, List.mem_cons, List.not_mem_nil, or_false] at hw
  rcases hw with rfl | rfl | rfl | rfl
  · exact .kw k_link
  · exact .name (nmN_name hR (by omega) (by omega))
  · exact .name (nmN_name hR (by omega) (by omega))
  · exact .num (by omega) (by omega)
theorem orig_in {p : PPlan} (hR : RightP p) {d : PDest} (hd : d ∈ p.dests) : ∀ o ∈ d.origins, 0 ≤ o ∧ o < p.nodes.length := by
  intro o ho
  obtain ⟨i, hi, rfl⟩ := List.getElem_of_mem ho
  have := ((hR.dest d hd).1 i hi).1
  rw [List.getD_eq_getElem?_getD, List.getElem?_eq_getElem hi, Option.getD_some, placeB_iff] at this
  exact this
theorem destW_ok {p : PPlan} (hR : RightP p) {d : PDest} (hd : d ∈ p.dests) : (∀ w ∈ destW p d, WordOk w) ∧ (destW p d).length ≤ 15 := by
  refine ⟨fun w hw => ?_, ?_⟩
  · simp only [destW, List.mem_append, List.mem_cons, List.not_mem_nil, or_false, List.mem_map] at hw
    rcases hw with (rfl | rfl | rfl) | ⟨o, ho, rfl⟩
    · exact .kw k_dest
    · exact .name (name_dest hR hd)
    · exact .kw k_at
    · have := orig_in hR hd o ho
      exact .name (nmN_name hR this.1 this.2)
  · have := orig_count (hR.dest d hd).1
    have := hR.n1
    simp only [destW, List.length_append, List.length_cons, List.length_nil, List.length_map]
    omega
theorem checkW_ok {p : PPlan} (hR : RightP p) {c : PCheck} (hc : c ∈ p.checks) : checkW p c ≠ [] ∧ (∀ w ∈ checkW p c, WordOk w) ∧ (checkW p c).length ≤ 15 := by
  have h0 := hR.n0
  have hb := checkN_bounds (n := p.nodes.length) (d := p.dests.length) (by omega) (hR.check c hc)
  have e1 := nmN_name hR hb.1.1 hb.1.2
  have e2 := nmD_name hR hb.2.1.1 hb.2.1.2
  have e3 := nmN_name hR hb.2.2.2.1.1 hb.2.2.2.1.2
  have e4 : WordOk (Lib.itoa c.limit) := .num hb.2.2.1.1 hb.2.2.1.2
  unfold checkW
  split
  · refine ⟨by simp, fun w hw => ?_, by simp⟩
    simp only [List.mem_cons, List.not_mem_nil, or_false] at hw
    rcases hw with rfl | rfl | rfl | rfl
    · exact .kw k_check
    · exact .kw k_reach
    · exact .name e1
    · exact .name e2
  · split
    · refine ⟨by simp, fun w hw => ?_, by simp⟩
      simp only [List.mem_cons, List.not_mem_nil, or_false] at hw
      rcases hw with rfl | rfl | rfl | rfl | rfl
      · exact .kw k_check
      · exact .kw k_within
      · exact .name e1
      · exact .name e2
      · exact e4
    · split
      · refine ⟨by simp, fun w hw => ?_, by simp⟩
        simp only [List.mem_cons, List.not_mem_nil, or_false] at hw
        rcases hw with rfl | rfl | rfl | rfl | rfl
        · exact .kw k_check
        · exact .kw k_waypoint
        · exact .name e1
        · exact .name e2
        · exact .name e3
      · refine ⟨by simp, fun w hw => ?_, by simp⟩
        simp only [List.mem_cons, List.not_mem_nil, or_false] at hw
        rcases hw with rfl | rfl | rfl | rfl | rfl
        · exact .kw k_check
        · exact .kw k_equal
        · exact .name e1
        · exact .name e3
        · exact .name e2
theorem lines_ok {p : PPlan} (hR : RightP p) : ∀ l ∈ linesW p, l ≠ [] ∧ (∀ w ∈ l, WordOk w) ∧ l.length ≤ 15 := by
  intro l hl
  unfold linesW at hl
  simp only [List.mem_cons, List.mem_append, List.mem_map] at hl
  rcases hl with rfl | rfl | ⟨x, hx, rfl⟩ | ⟨x, hx, rfl⟩ | ⟨x, hx, rfl⟩ | ⟨x, hx, rfl⟩
  · exact protoW_ok hR
  · exact ⟨by simp, failW_ok hR, by simp⟩
  · exact ⟨by simp [nodeW], nodeW_ok hR hx, by simp [nodeW]⟩
  · exact ⟨by simp [linkW], linkW_ok hR hx, by simp [linkW]⟩
  · exact ⟨by simp [destW], destW_ok hR hx⟩
  · exact checkW_ok hR hx
theorem print_len {p : PPlan} (hR : RightP p) : (printT p).length ≤ 9850 := by
  rw [printT_lines hR]
  have h1 := flat_len_le (f := lineW) (m := 197) (linesW p) (fun l hl => by
    have h := lines_ok hR l hl
    exact lineW_len (k := 15) h.2.2 (fun x hx => (h.2.1 x hx).len))
  have h2 : (linesW p).length ≤ 50 := by
    have := hR.n1; have := hR.l1; have := hR.d1; have := hR.c1
    unfold linesW
    simp only [List.length_cons, List.length_append, List.length_map]
    omega
  omega
theorem pre_print {p : PPlan} (hR : RightP p) : Pre (printT p) (linesToks 0 (linesW p)) := by
  have := Pre.lines (linesW p) Pre.nil (fun l hl => ⟨(lines_ok hR l hl).1, (lines_ok hR l hl).2.1⟩)
  rw [← printT_lines hR] at this
  exact this
/-- What is printed is scanned. -/
theorem lex_print {p : PPlan} (hR : RightP p) : lexT (printT p) = (linesToks 0 (linesW p) ++ [endT (printT p).length], 0, 0) := (pre_print hR).lex (by have := print_len hR; omega)
/-! ## The parser on tokens that are there -/
section
variable {p : PPlan} {r : List Tok} {w : Bytes} {a : Int}
end
end Go.Bk
