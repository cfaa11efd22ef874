/-
  PLAN, PLAIN: of right networks unlike ones have unlike texts. No program here.
-/
import Derived.Test.YtjhgghpeapmgdaaGreatDoorPlanSort
namespace Go.Bk
open Go

def Clean (w : Bytes) : Prop := ∀ c ∈ w, c ≠ 32 ∧ c ≠ 59
theorem split1 : ∀ {w w' : Bytes} {d d' : UInt8} {r r' : Bytes}, Clean w → Clean w' → (d = 32 ∨ d = 59) → (d' = 32 ∨ d' = 59) → w ++ d :: r = w' ++ d' :: r' → w = w' ∧ d = d' ∧ r = r'
  | [], [], d, d', r, r', _, _, _, _, h => by
    simp only [List.nil_append, List.cons.injEq] at h
    exact ⟨rfl, h.1, h.2⟩
  | [], c :: w', d, d', r, r', _, h2, hd, _, h => by
    simp only [List.nil_append, List.cons_append, List.cons.injEq] at h
    have := h2 c (by simp)
    rcases hd with rfl | rfl
    · exact absurd h.1.symm this.1
    · exact absurd h.1.symm this.2
  | c :: w, [], d, d', r, r', h1, _, _, hd', h => by
    simp only [List.nil_append, List.cons_append, List.cons.injEq] at h
    have := h1 c (by simp)
    rcases hd' with rfl | rfl
    · exact absurd h.1 this.1
    · exact absurd h.1 this.2
  | c :: w, c' :: w', d, d', r, r', h1, h2, hd, hd', h => by
    simp only [List.cons_append, List.cons.injEq] at h
    obtain ⟨e1, e2, e3⟩ := split1 (fun x hx => h1 x (by simp [hx])) (fun x hx => h2 x (by simp [hx])) hd hd' h.2
    exact ⟨by rw [h.1, e1], e2, e3⟩
theorem joinW_app (w v : Bytes) (t : List Bytes) (r : Bytes) : joinW (w :: v :: t) ++ 59 :: r = w ++ 32 :: (joinW (v :: t) ++ 59 :: r) := by simp [joinW]
theorem join_inj : ∀ {ws ws' : List Bytes} {r r' : Bytes}, ws ≠ [] → ws' ≠ [] → (∀ w ∈ ws, Clean w) → (∀ w ∈ ws', Clean w) → joinW ws ++ 59 :: r = joinW ws' ++ 59 :: r' → ws = ws' ∧ r = r'
  | [], _, _, _, h, _, _, _, _ => absurd rfl h
  | _, [], _, _, _, h, _, _, _ => absurd rfl h
  | [w], [w'], r, r', _, _, h1, h2, h => by
    obtain ⟨e1, _, e3⟩ := split1 (h1 w (by simp)) (h2 w' (by simp)) (.inr rfl) (.inr rfl) h
    exact ⟨by rw [e1], e3⟩
  | [w], w' :: v' :: t', r, r', _, _, h1, h2, h => by
    rw [joinW_app] at h
    obtain ⟨_, e2, _⟩ := split1 (h1 w (by simp)) (h2 w' (by simp)) (.inr rfl) (.inl rfl) h
    exact absurd e2 (by decide)
  | w :: v :: t, [w'], r, r', _, _, h1, h2, h => by
    rw [joinW_app] at h
    obtain ⟨_, e2, _⟩ := split1 (h1 w (by simp)) (h2 w' (by simp)) (.inl rfl) (.inr rfl) h
    exact absurd e2 (by decide)
  | w :: v :: t, w' :: v' :: t', r, r', _, _, h1, h2, h => by
    rw [joinW_app, joinW_app] at h
    obtain ⟨e1, _, e3⟩ := split1 (h1 w (by simp)) (h2 w' (by simp)) (.inl rfl) (.inl rfl) h
    obtain ⟨f1, f2⟩ := join_inj (by simp) (by simp) (fun x hx => h1 x (List.mem_cons_of_mem _ hx)) (fun x hx => h2 x (List.mem_cons_of_mem _ hx)) e3
    exact ⟨by rw [e1, f1], f2⟩
def LineOk (ws : List Bytes) : Prop := ws ≠ [] ∧ ∀ w ∈ ws, Clean w
theorem line_app (ws : List Bytes) (r : Bytes) : lineW ws ++ r = joinW ws ++ 59 :: 10 :: r := by simp [lineW]
theorem lines_inj : ∀ {ls ls' : List (List Bytes)}, (∀ l ∈ ls, LineOk l) → (∀ l ∈ ls', LineOk l) → ls.flatMap lineW = ls'.flatMap lineW → ls = ls'
  | [], [], _, _, _ => rfl
  | [], l :: r, _, _, h => by
    rw [List.flatMap_nil, List.flatMap_cons, line_app] at h
    have := congrArg List.length h
    simp at this
  | l :: r, [], _, _, h => by
    rw [List.flatMap_nil, List.flatMap_cons, line_app] at h
    have := congrArg List.length h
    simp at this
  | l :: r, l' :: r', h1, h2, h => by
    rw [List.flatMap_cons, List.flatMap_cons, line_app, line_app] at h
    obtain ⟨e1, e2⟩ := join_inj (h1 l (by simp)).1 (h2 l' (by simp)).1 (h1 l (by simp)).2 (h2 l' (by simp)).2 h
    simp only [List.cons.injEq, true_and] at e2
    rw [e1, lines_inj (fun x hx => h1 x (by simp [hx])) (fun x hx => h2 x (by simp [hx])) e2]
/-! ## The words of a network -/
def protoW (p : PPlan) : List Bytes := if p.proto = 2 then [wdProtocol, wdPath, Lib.itoa p.cap] else [wdProtocol, wdVector]
def nodeW (x : PNode) : List Bytes := [wdNode, x.name, Lib.itoa x.asn]
def linkW (p : PPlan) (x : PLink) : List Bytes := [wdLink, nmN p x.a, nmN p x.b, Lib.itoa x.cost]
def destW (p : PPlan) (d : PDest) : List Bytes := [wdDest, d.name, wdAt] ++ d.origins.map (nmN p)
def checkW (p : PPlan) (c : PCheck) : List Bytes :=
  if c.kind = 1 then [wdCheck, wdReach, nmN p c.node, nmD p c.dest]
  else if c.kind = 2 then [wdCheck, wdWithin, nmN p c.node, nmD p c.dest, Lib.itoa c.limit]
  else if c.kind = 3 then [wdCheck, wdWaypoint, nmN p c.node, nmD p c.dest, nmN p c.other]
  else [wdCheck, wdEqual, nmN p c.node, nmN p c.other, nmD p c.dest]
def linesW (p : PPlan) : List (List Bytes) := protoW p :: [wdFailures, Lib.itoa p.k] :: (p.nodes.map nodeW ++ (p.links.map (linkW p) ++ (p.dests.map (destW p) ++ p.checks.map (checkW p))))
theorem flatMap_congr' {α : Type} {f g : α → Bytes} {l : List α} (h : ∀ x ∈ l, f x = g x) : l.flatMap f = l.flatMap g := by
  induction l with
  | nil => rfl
  | cons x r ih => rw [List.flatMap_cons, List.flatMap_cons, h x (by simp), ih fun y hy => h y (by simp [hy])]
theorem printT_lines {p : PPlan} (hR : RightP p) : printT p = (linesW p).flatMap lineW := by
  unfold printT linesW
  rw [List.flatMap_cons, List.flatMap_cons, List.flatMap_append, List.flatMap_append, List.flatMap_append, List.flatMap_map, List.flatMap_map, List.flatMap_map, List.flatMap_map]
  have e1 : protoL p = lineW (protoW p) := by unfold protoL protoW; split <;> rfl
  have e2 : p.checks.flatMap (checkL p) = p.checks.flatMap fun c => lineW (checkW p c) := by
    refine flatMap_congr' fun c hc => ?_
    have h0 := checkN_bounds (n := p.nodes.length) (d := p.dests.length) (by have := hR.n0; omega) (hR.check c hc)
    unfold checkL checkW
    by_cases h1 : c.kind = 1
    · rw [if_pos h1, if_pos h1]
    · by_cases h2 : c.kind = 2
      · rw [if_neg h1, if_neg h1, if_pos h2, if_pos h2]
      · by_cases h3 : c.kind = 3
        · rw [if_neg h1, if_neg h1, if_neg h2, if_neg h2, if_pos h3, if_pos h3]
        · rw [if_neg h1, if_neg h1, if_neg h2, if_neg h2, if_neg h3, if_neg h3, if_pos (by omega)]
  rw [e1, e2]
  simp only [List.append_assoc]
  rfl
theorem clean_part {w : Bytes} (h : ∀ c ∈ w, partB c = true) : Clean w := by
  intro c hc
  have := h c hc
  constructor
  · rintro rfl; revert this; decide
  · rintro rfl; revert this; decide
theorem name_clean {l : Bytes} (h : nameB l = true) : Clean l := by
  refine clean_part ?_
  have h1 := (nameB_iff.1 h).2.2.2.1
  refine all_of_getD fun j hj => ?_
  apply Classical.byContradiction
  intro hn
  have := runLen_lt hj (by simpa using hn)
  omega
theorem itoa_clean {n : Int} (h : 0 ≤ n) : Clean (Lib.itoa n) := by
  rw [itoa_nat h]
  intro c hc
  have := digitB_iff.1 (decDigits_digit _ c hc)
  constructor
  · rintro rfl; simp at this
  · rintro rfl; simp at this
theorem itoa_inj {a b : Int} (ha : 0 ≤ a) (hb : 0 ≤ b) (h : Lib.itoa a = Lib.itoa b) : a = b := by
  rw [itoa_nat ha, itoa_nat hb] at h
  have := congrArg digVal h
  rw [digVal_dec, digVal_dec] at this
  omega
theorem kw_clean : ∀ w ∈ [wdProtocol, wdPath, wdVector, wdFailures, wdNode, wdLink, wdDest, wdAt, wdCheck, wdReach, wdWithin, wdWaypoint, wdEqual], Clean w := by
  have : ([wdProtocol, wdPath, wdVector, wdFailures, wdNode, wdLink, wdDest, wdAt, wdCheck, wdReach, wdWithin, wdWaypoint, wdEqual].all fun w => w.all fun c => decide (c ≠ 32) && decide (c ≠ 59)) = true := by decide +kernel
  intro w hw c hc
  have := List.all_eq_true.1 (List.all_eq_true.1 this w hw) c hc
  simpa using this
theorem nil_clean : Clean [] := fun c hc => by cases hc
namespace RightP
variable {p : PPlan} (hR : RightP p)
include hR
theorem cleanN (i : Int) : Clean (nmN p i) := by
  unfold nmN
  rw [List.getD_eq_getElem?_getD]
  cases hx : p.nodes[i.toNat]? with
  | none => exact nil_clean
  | some x => exact name_clean (hR.names _ (by unfold namesL; exact List.mem_append_left _ (List.mem_map_of_mem (List.mem_of_getElem? hx))))
theorem cleanD (i : Int) : Clean (nmD p i) := by
  unfold nmD
  rw [List.getD_eq_getElem?_getD]
  cases hx : p.dests[i.toNat]? with
  | none => exact nil_clean
  | some x => exact name_clean (hR.names _ (by unfold namesL; exact List.mem_append_right _ (List.mem_map_of_mem (List.mem_of_getElem? hx))))
theorem lines_ok : ∀ l ∈ linesW p, LineOk l := by
  have K := kw_clean
  intro l hl
  unfold linesW at hl
  simp only [List.mem_cons, List.mem_append, List.mem_map] at hl
  rcases hl with rfl | rfl | ⟨x, hx, rfl⟩ | ⟨x, hx, rfl⟩ | ⟨x, hx, rfl⟩ | ⟨x, hx, rfl⟩
  · have hc := hR.cap_len
    unfold protoW
    split
    · refine ⟨by simp, fun w hw => ?_⟩
      simp only [List.mem_cons, List.not_mem_nil, or_false] at hw
      rcases hw with rfl | rfl | rfl
      · exact K _ (by simp)
      · exact K _ (by simp)
      · exact itoa_clean hc.1
    · refine ⟨by simp, fun w hw => ?_⟩
      simp only [List.mem_cons, List.not_mem_nil, or_false] at hw
      rcases hw with rfl | rfl
      · exact K _ (by simp)
      · exact K _ (by simp)
  · refine ⟨by simp, fun w hw => ?_⟩
    simp only [List.mem_cons, List.not_mem_nil, or_false] at hw
    rcases hw with rfl | rfl
    · exact K _ (by simp)
    · exact itoa_clean hR.k0
  · refine ⟨by simp [nodeW], fun w hw => ?_⟩
    simp only [nodeW, List.mem_cons, List.not_mem_nil, or_false] at hw
    rcases hw with rfl | rfl | rfl
    · exact K _ (by simp)
    · exact name_clean (hR.names _ (by unfold namesL; exact List.mem_append_left _ (List.mem_map_of_mem hx)))
    · exact itoa_clean (by have := hR.asn x hx; omega)
  · refine ⟨by simp [linkW], fun w hw => ?_⟩
    simp only [linkW, List.mem_cons, List.not_mem_nil, or_false] at hw
    rcases hw with rfl | rfl | rfl | rfl
    · exact K _ (by simp)
    · exact hR.cleanN _
    · exact hR.cleanN _
    · exact itoa_clean (by have := hR.link x hx; omega)
  · refine ⟨by simp [destW], fun w hw => ?_⟩
    simp only [destW, List.mem_append, List.mem_cons, List.not_mem_nil, or_false, List.mem_map] at hw
    rcases hw with (rfl | rfl | rfl) | ⟨o, _, rfl⟩
    · exact K _ (by simp)
    · exact name_clean (hR.names _ (by unfold namesL; exact List.mem_append_right _ (List.mem_map_of_mem hx)))
    · exact K _ (by simp)
    · exact hR.cleanN _
  · have h0 := checkN_bounds (n := p.nodes.length) (d := p.dests.length) (by have := hR.n0; omega) (hR.check x hx)
    unfold checkW
    split
    · refine ⟨by simp, fun w hw => ?_⟩
      simp only [List.mem_cons, List.not_mem_nil, or_false] at hw
      rcases hw with rfl | rfl | rfl | rfl <;> first | exact hR.cleanN _ | exact hR.cleanD _ | exact K _ (by simp)
    · split
      · refine ⟨by simp, fun w hw => ?_⟩
        simp only [List.mem_cons, List.not_mem_nil, or_false] at hw
        rcases hw with rfl | rfl | rfl | rfl | rfl <;> first | exact hR.cleanN _ | exact hR.cleanD _ | exact itoa_clean (by omega) | exact K _ (by simp)
      · split
        · refine ⟨by simp, fun w hw => ?_⟩
          simp only [List.mem_cons, List.not_mem_nil, or_false] at hw
          rcases hw with rfl | rfl | rfl | rfl | rfl <;> first | exact hR.cleanN _ | exact hR.cleanD _ | exact K _ (by simp)
        · refine ⟨by simp, fun w hw => ?_⟩
          simp only [List.mem_cons, List.not_mem_nil, or_false] at hw
          rcases hw with rfl | rfl | rfl | rfl | rfl <;> first | exact hR.cleanN _ | exact hR.cleanD _ | exact K _ (by simp)
end RightP
/-! ## Back from the words -/
def heads (h : Bytes) (l : List Bytes) : Bool := decide (l.head? = some h)
theorem filt_map {α : Type} {h : Bytes} {f : α → List Bytes} {l : List α} (b : Bool) (hf : ∀ x ∈ l, heads h (f x) = b) : (l.map f).filter (heads h) = if b then l.map f else [] := by
  cases b with
  | true => rw [if_pos rfl, List.filter_eq_self]; intro y hy; obtain ⟨x, hx, rfl⟩ := List.mem_map.1 hy; exact hf x hx
  | false => rw [if_neg (by simp), List.filter_eq_nil_iff]; intro y hy; obtain ⟨x, hx, rfl⟩ := List.mem_map.1 hy; rw [hf x hx]; simp
theorem checkW_head (p : PPlan) (c : PCheck) (h : Bytes) : heads h (checkW p c) = decide (wdCheck = h) := by
  unfold checkW
  split
  · simp [heads]
  · split
    · simp [heads]
    · split <;> simp [heads]
theorem protoW_head (p : PPlan) (h : Bytes) : heads h (protoW p) = decide (wdProtocol = h) := by unfold protoW; split <;> simp [heads]
theorem filt_lines (p : PPlan) (h : Bytes) (hp : wdProtocol ≠ h) (hf : wdFailures ≠ h) :
    (linesW p).filter (heads h) = (if decide (wdNode = h) then p.nodes.map nodeW else []) ++ ((if decide (wdLink = h) then p.links.map (linkW p) else []) ++ ((if decide (wdDest = h) then p.dests.map (destW p) else []) ++ if decide (wdCheck = h) then p.checks.map (checkW p) else [])) := by
  unfold linesW
  rw [List.filter_cons_of_neg (by rw [protoW_head]; simpa using hp), List.filter_cons_of_neg (by simp [heads, hf]), List.filter_append, List.filter_append, List.filter_append,
    filt_map (decide (wdNode = h)) (fun x _ => by simp [heads, nodeW]), filt_map (decide (wdLink = h)) (fun x _ => by simp [heads, linkW]), filt_map (decide (wdDest = h)) (fun x _ => by simp [heads, destW]), filt_map (decide (wdCheck = h)) (fun x _ => checkW_head p x h)]
theorem map_inj_on {α β : Type} {f g : α → β} : ∀ {l l' : List α}, (∀ x ∈ l, ∀ y ∈ l', f x = g y → x = y) → l.map f = l'.map g → l = l'
  | [], [], _, _ => rfl
  | [], y :: r, _, h => by cases h
  | x :: r, [], _, h => by cases h
  | x :: r, y :: r', hf, h => by
    simp only [List.map_cons, List.cons.injEq] at h
    rw [hf x (by simp) y (by simp) h.1, map_inj_on (fun a ha b hb => hf a (by simp [ha]) b (by simp [hb])) h.2]
theorem name_at {l : List Bytes} (h : l.Nodup) {i j : Nat} (hi : i < l.length) (_hj : j < l.length) (e : l[i]? = l[j]?) : i = j := (List.getElem?_inj hi h).1 e
namespace RightP
variable {p : PPlan} (hR : RightP p)
include hR
theorem nmN_inj {i j : Int} (hi : 0 ≤ i ∧ i < p.nodes.length) (hj : 0 ≤ j ∧ j < p.nodes.length) (e : nmN p i = nmN p j) : i = j := by
  unfold nmN at e
  have hn := hR.nnd
  unfold namesL at hn
  have h1 := (List.nodup_append.1 hn).1
  have := name_at h1 (i := i.toNat) (j := j.toNat) (by simp; omega) (by simp; omega) (by
    rw [List.getElem?_map, List.getElem?_map, List.getElem?_eq_getElem (by omega : i.toNat < _), List.getElem?_eq_getElem (by omega : j.toNat < _)]
    rw [List.getD_eq_getElem?_getD, List.getD_eq_getElem?_getD, List.getElem?_eq_getElem (by omega : i.toNat < _), List.getElem?_eq_getElem (by omega : j.toNat < _)] at e
    simpa using e)
  omega
theorem nmD_inj {i j : Int} (hi : 0 ≤ i ∧ i < p.dests.length) (hj : 0 ≤ j ∧ j < p.dests.length) (e : nmD p i = nmD p j) : i = j := by
  unfold nmD at e
  have hn := hR.nnd
  unfold namesL at hn
  have h1 := (List.nodup_append.1 hn).2.1
  have := name_at h1 (i := i.toNat) (j := j.toNat) (by simp; omega) (by simp; omega) (by
    rw [List.getElem?_map, List.getElem?_map, List.getElem?_eq_getElem (by omega : i.toNat < _), List.getElem?_eq_getElem (by omega : j.toNat < _)]
    rw [List.getD_eq_getElem?_getD, List.getD_eq_getElem?_getD, List.getElem?_eq_getElem (by omega : i.toNat < _), List.getElem?_eq_getElem (by omega : j.toNat < _)] at e
    simpa using e)
  omega
end RightP
theorem orig_range {l : List Int} {n : Nat} (h : OrigOk l n l.length) : ∀ o ∈ l, 0 ≤ o ∧ o < (n : Int) := by
  intro o ho
  obtain ⟨i, hi, rfl⟩ := List.getElem_of_mem ho
  have := placeB_iff.1 (h i hi).1
  rwa [List.getD_eq_getElem?_getD, List.getElem?_eq_getElem hi] at this
theorem print_inj {p q : PPlan} (hp : RightP p) (hq : RightP q) (h : printT p = printT q) : p = q := by
  rw [printT_lines hp, printT_lines hq] at h
  have hL := lines_inj hp.lines_ok hq.lines_ok h
  have fn := congrArg (List.filter (heads wdNode)) hL
  have fl := congrArg (List.filter (heads wdLink)) hL
  have fd := congrArg (List.filter (heads wdDest)) hL
  have fc := congrArg (List.filter (heads wdCheck)) hL
  rw [filt_lines p _ (by decide) (by decide), filt_lines q _ (by decide) (by decide)] at fn fl fd fc
  rw [show decide (wdNode = wdNode) = true by decide, show decide (wdLink = wdNode) = false by decide, show decide (wdDest = wdNode) = false by decide, show decide (wdCheck = wdNode) = false by decide] at fn
  rw [show decide (wdNode = wdLink) = false by decide, show decide (wdLink = wdLink) = true by decide, show decide (wdDest = wdLink) = false by decide, show decide (wdCheck = wdLink) = false by decide] at fl
  rw [show decide (wdNode = wdDest) = false by decide, show decide (wdLink = wdDest) = false by decide, show decide (wdDest = wdDest) = true by decide, show decide (wdCheck = wdDest) = false by decide] at fd
  rw [show decide (wdNode = wdCheck) = false by decide, show decide (wdLink = wdCheck) = false by decide, show decide (wdDest = wdCheck) = false by decide, show decide (wdCheck = wdCheck) = true by decide] at fc
  simp only [if_true, Bool.false_eq_true, if_false, List.nil_append, List.append_nil] at fn fl fd fc
  have hN : p.nodes = q.nodes := map_inj_on (fun x hx y hy e => by
    simp only [nodeW, List.cons.injEq, true_and, and_true] at e
    have h1 := hp.asn x hx
    have h2 := hq.asn y hy
    exact nodeEq.2 ⟨e.1, itoa_inj (by omega) (by omega) e.2⟩) fn
  have hnm : ∀ i, nmN q i = nmN p i := fun i => by unfold nmN; rw [hN]
  have hlen : q.nodes.length = p.nodes.length := by rw [hN]
  have hD : p.dests = q.dests := map_inj_on (fun x hx y hy e => by
    simp only [destW, List.cons_append, List.nil_append, List.cons.injEq, true_and] at e
    refine destEq.2 ⟨e.1, map_inj_on (fun a ha b hb e2 => ?_) e.2⟩
    rw [hnm] at e2
    have h1 := orig_range (hp.dest x hx).1 a ha
    have h2 := orig_range (hq.dest y hy).1 b hb
    exact hp.nmN_inj h1 (by rw [← hlen]; exact h2) e2) fd
  have hnd : ∀ i, nmD q i = nmD p i := fun i => by unfold nmD; rw [hD]
  have hlenD : q.dests.length = p.dests.length := by rw [hD]
  have hK : p.links = q.links := map_inj_on (fun x hx y hy e => by
    simp only [linkW, List.cons.injEq, true_and, and_true] at e
    rw [hnm, hnm] at e
    have h1 := hp.link x hx
    have h2 := hq.link y hy
    exact linkEq.2 ⟨hp.nmN_inj (by omega) (by omega) e.1, hp.nmN_inj (by omega) (by omega) e.2.1, itoa_inj (by omega) (by omega) e.2.2⟩) fl
  have hC : p.checks = q.checks := map_inj_on (fun x hx y hy e => by
    have h1 := hp.check x hx
    have h2 := hq.check y hy
    have b1 := checkN_bounds (n := p.nodes.length) (d := p.dests.length) (by have := hp.n0; omega) h1
    have b2 := checkN_bounds (n := q.nodes.length) (d := q.dests.length) (by have := hq.n0; omega) h2
    rw [hlen, hlenD] at b2
    unfold checkB checkN at h1 h2
    rw [hlen, hlenD] at h2
    have n1 : wdReach ≠ wdWithin := by decide
    have n2 : wdReach ≠ wdWaypoint := by decide
    have n3 : wdReach ≠ wdEqual := by decide
    have n4 : wdWithin ≠ wdWaypoint := by decide
    have n5 : wdWithin ≠ wdEqual := by decide
    have n6 : wdWaypoint ≠ wdEqual := by decide
    have N : ∀ {i j : Int}, 0 ≤ i ∧ i < p.nodes.length → 0 ≤ j ∧ j < p.nodes.length → nmN p i = nmN p j → i = j := hp.nmN_inj
    have D : ∀ {i j : Int}, 0 ≤ i ∧ i < p.dests.length → 0 ≤ j ∧ j < p.dests.length → nmD p i = nmD p j → i = j := hp.nmD_inj
    unfold checkW at e
    have kx : x.kind = 1 ∨ x.kind = 2 ∨ x.kind = 3 ∨ x.kind = 4 := by omega
    have ky : y.kind = 1 ∨ y.kind = 2 ∨ y.kind = 3 ∨ y.kind = 4 := by omega
    rcases kx with kx | kx | kx | kx <;> rcases ky with ky | ky | ky | ky <;>
      simp only [kx, ky, hnm, hnd, if_true, if_false, or_true, or_false, Int.reduceEq, List.cons.injEq, true_and, and_true, n1, n2, n3, n4, n5, n6, n1.symm, n2.symm, n3.symm, n4.symm, n5.symm, n6.symm, false_and, and_false] at e h1 h2
    · have r1 := checkR_iff.1 h1; have r2 := checkR_iff.1 h2
      exact checkEq.2 ⟨by omega, N (by omega) (by omega) e.1, D (by omega) (by omega) e.2, by omega, by omega⟩
    · have r1 := checkR_iff.1 h1; have r2 := checkR_iff.1 h2
      exact checkEq.2 ⟨by omega, N (by omega) (by omega) e.1, D (by omega) (by omega) e.2.1, itoa_inj (by omega) (by omega) e.2.2, by omega⟩
    · have r1 := checkR_iff.1 h1; have r2 := checkR_iff.1 h2
      exact checkEq.2 ⟨by omega, N (by omega) (by omega) e.1, D (by omega) (by omega) e.2.1, by omega, N (by omega) (by omega) e.2.2⟩
    · have r1 := checkR_iff.1 h1; have r2 := checkR_iff.1 h2
      exact checkEq.2 ⟨by omega, N (by omega) (by omega) e.1, D (by omega) (by omega) e.2.2, by omega, N (by omega) (by omega) e.2.1⟩) fc
  unfold linesW at hL
  simp only [List.cons.injEq, true_and] at hL
  have hk : p.k = q.k := itoa_inj hp.k0 hq.k0 (by simpa using hL.2.1)
  have hr1 := hp.routing
  have hr2 := hq.routing
  have hpr : p.proto = q.proto ∧ p.cap = q.cap := by
    have e := hL.1
    have c1 := hp.cap_len
    have c2 := hq.cap_len
    unfold protoW at e
    unfold routingB at hr1 hr2
    have nv : wdVector ≠ wdPath := by decide
    by_cases a1 : p.proto = 1
    · by_cases a2 : q.proto = 1
      · rw [if_pos a1] at hr1
        rw [if_pos a2] at hr2
        have := of_decide_eq_true hr1
        have := of_decide_eq_true hr2
        omega
      · rw [if_neg a2] at hr2
        by_cases a3 : q.proto = 2
        · rw [if_neg (by omega), if_pos a3] at e
          simp at e
        · rw [if_neg a3] at hr2; cases hr2
    · rw [if_neg a1] at hr1
      by_cases a4 : p.proto = 2
      · by_cases a3 : q.proto = 2
        · rw [if_pos a4, if_pos a3] at e
          simp only [List.cons.injEq, true_and, and_true] at e
          exact ⟨by omega, itoa_inj c1.1 c2.1 e⟩
        · rw [if_pos a4, if_neg a3] at e
          simp at e
      · rw [if_neg a4] at hr1; cases hr1
  exact planEq.2 ⟨hpr.1, hpr.2, hk, hN, hK, hD, hC⟩
end Go.Bk
