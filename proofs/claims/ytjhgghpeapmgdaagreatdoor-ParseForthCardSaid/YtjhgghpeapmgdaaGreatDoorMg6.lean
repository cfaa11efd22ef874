/-
  Texts that belong together: PlanInj, ParToks.
-/
import Derived.Test.YtjhgghpeapmgdaaGreatDoorMg3
import Derived.Test.YtjhgghpeapmgdaaGreatDoorMg5
import Derived.Test.YtjhgghpeapmgdaaGreatDoorMg4
/-
  PLAN, PLAIN: of right networks unlike ones have unlike texts. No program here.
-/
namespace Go.Bk
open Go

def Clean (w : Bytes) : Prop := ∀ c ∈ w,c ≠ 32 ∧ c ≠ 59
def LineOk (ws : List Bytes) : Prop := ws ≠ [] ∧ ∀ w ∈ ws,Clean w
def protoW (p : PPlan) : List Bytes := if p.proto = 2 then [wdProtocol,wdPath,Lib.itoa p.cap] else [wdProtocol,wdVector]
def nodeW (x : PNode) : List Bytes := [wdNode,x.name,Lib.itoa x.asn]
def linkW (p : PPlan) (x : PLink) : List Bytes := [wdLink,nmN p x.a,nmN p x.b,Lib.itoa x.cost]
def destW (p : PPlan) (d : PDest) : List Bytes := [wdDest,d.name,wdAt] ++ d.origins.map (nmN p)
def checkW (p : PPlan) (c : PCheck) : List Bytes :=
 if c.kind = 1 then [wdCheck,wdReach,nmN p c.node,nmD p c.dest]
 else if c.kind = 2 then [wdCheck,wdWithin,nmN p c.node,nmD p c.dest,Lib.itoa c.limit]
 else if c.kind = 3 then [wdCheck,wdWaypoint,nmN p c.node,nmD p c.dest,nmN p c.other]
 else [wdCheck,wdEqual,nmN p c.node,nmN p c.other,nmD p c.dest]
def linesW (p : PPlan) : List (List Bytes) := protoW p :: [wdFailures,Lib.itoa p.k] :: (p.nodes.map nodeW ++ (p.links.map (linkW p) ++ (p.dests.map (destW p) ++ p.checks.map (checkW p))))
theorem flatMap_congr' {α : Type} {f g : α → Bytes} {l : List α} (h : ∀ x ∈ l,f x = g x) : l.flatMap f = l.flatMap g := by
 induction l with
 | nil => rfl
 | cons x r ih => rw [List.flatMap_cons,List.flatMap_cons,h x (by simp),ih fun y hy => h y (by simp [hy])]
theorem printT_lines {p : PPlan} (hR : RightP p) : printT p = (linesW p).flatMap lineW := by
 unfold printT linesW
 rw [List.flatMap_cons,List.flatMap_cons,List.flatMap_append,List.flatMap_append,List.flatMap_append,List.flatMap_map,List.flatMap_map,List.flatMap_map,List.flatMap_map]
 have e1 : protoL p = lineW (protoW p) := by unfold protoL protoW; split <;> rfl
 have e2 : p.checks.flatMap (checkL p) = p.checks.flatMap fun c => lineW (checkW p c) := by
  refine flatMap_congr' fun c hc => ?_
  have h0 := checkN_bounds (n := p.nodes.length) (d := p.dests.length) (by have := hR.n0; omega) (hR.check c hc)
  unfold checkL checkW
  by_cases h1 : c.kind = 1
  ·rw [if_pos h1,if_pos h1]
  ·by_cases h2 : c.kind = 2
   ·rw [if_neg h1,if_neg h1,if_pos h2,if_pos h2]
   ·by_cases h3 : c.kind = 3
    ·rw [if_neg h1,if_neg h1,if_neg h2,if_neg h2,if_pos h3,if_pos h3]
    ·rw [if_neg h1,if_neg h1,if_neg h2,if_neg h2,if_neg h3,if_neg h3,if_pos (by omega)]
 rw [e1,e2]
 simp only [List.append_assoc]
 rfl
theorem clean_part {w : Bytes} (h : ∀ c ∈ w,partB c = true) : Clean w := by
 intro c hc
 have := h c hc
 constructor
 ·rintro rfl; revert this; decide
 ·rintro rfl; revert this; decide
theorem name_clean {l : Bytes} (h : nameB l = true) : Clean l := by
 refine clean_part ?_
 have h1 := (nameB_iff.1 h).2.2.2.1
 refine all_of_getD fun j hj => ?_
 apply Classical.byContradiction
 intro hn
 have := runLen_lt hj (by simpa using hn)
 omega
theorem itoa_clean {n : Int} (h : 0 ≤ n) : Clean (Lib.itoa n) := by
 rw [itoa_nat h]
 intro c hc
 have := digitB_iff.1 (decDigits_digit _ c hc)
 constructor
 ·rintro rfl; simp at this
 ·rintro rfl; simp at this
theorem kw_clean : ∀ w ∈ [wdProtocol,wdPath,wdVector,wdFailures,wdNode,wdLink,wdDest,wdAt,wdCheck,wdReach,wdWithin,wdWaypoint,wdEqual],Clean w := by
 have : ([wdProtocol,wdPath,wdVector,wdFailures,wdNode,wdLink,wdDest,wdAt,wdCheck,wdReach,wdWithin,wdWaypoint,wdEqual].all fun w => w.all fun c => decide (c ≠ 32) && decide (c ≠ 59)) = true := by decide +kernel
 intro w hw c hc
 have := List.all_eq_true.1 (List.all_eq_true.1 this w hw) c hc
 simpa using this
theorem nil_clean : Clean [] := fun c hc => by cases hc
namespace RightP
variable {p : PPlan} (hR : RightP p)
include hR
theorem cleanN (i : Int) : Clean (nmN p i) := by
 unfold nmN
 rw [List.getD_eq_getElem?_getD]
 cases hx : p.nodes[i.toNat]? with
 | none => exact nil_clean
 | some x => exact name_clean (hR.names _ (by unfold namesL; exact List.mem_append_left _ (List.mem_map_of_mem (List.mem_of_getElem? hx))))
theorem cleanD (i : Int) : Clean (nmD p i) := by
 unfold nmD
 rw [List.getD_eq_getElem?_getD]
 cases hx : p.dests[i.toNat]? with
 | none => exact nil_clean
 | some x => exact name_clean (hR.names _ (by unfold namesL; exact List.mem_append_right _ (List.mem_map_of_mem (List.mem_of_getElem? hx))))
theorem lines_ok : ∀ l ∈ linesW p,LineOk l := by
 have K := kw_clean
 intro l hl
 unfold linesW at hl
 simp only [List.mem_cons,List.mem_append,List.mem_map] at hl
 rcases hl with rfl | rfl | ⟨x,hx,rfl⟩ | ⟨x,hx,rfl⟩ | ⟨x,hx,rfl⟩ | ⟨x,hx,rfl⟩
 ·have hc := hR.cap_len
  unfold protoW
  split
  ·refine ⟨by simp,fun w hw => ?_⟩
   simp only [List.mem_cons,List.not_mem_nil,or_false] at hw
   rcases hw with rfl | rfl | rfl
   ·exact K _ (by simp)
   ·exact K _ (by simp)
   ·exact itoa_clean hc.1
  ·refine ⟨by simp,fun w hw => ?_⟩
   simp only [List.mem_cons,List.not_mem_nil,or_false] at hw
   rcases hw with rfl | rfl
   ·exact K _ (by simp)
   ·exact K _ (by simp)
 ·refine ⟨by simp,fun w hw => ?_⟩
  simp only [List.mem_cons,List.not_mem_nil,or_false] at hw
  rcases hw with rfl | rfl
  ·exact K _ (by simp)
  ·exact itoa_clean hR.k0
 ·refine ⟨by simp [nodeW],fun w hw => ?_⟩
  simp only [nodeW,List.mem_cons,List.not_mem_nil,or_false] at hw
  rcases hw with rfl | rfl | rfl
  ·exact K _ (by simp)
  ·exact name_clean (hR.names _ (by unfold namesL; exact List.mem_append_left _ (List.mem_map_of_mem hx)))
  ·exact itoa_clean (by have := hR.asn x hx; omega)
 ·refine ⟨by simp [linkW],fun w hw => ?_⟩
  simp only [linkW,List.mem_cons,List.not_mem_nil,or_false] at hw
  rcases hw with rfl | rfl | rfl | rfl
  ·exact K _ (by simp)
  ·exact hR.cleanN _
  ·exact hR.cleanN _
  ·exact itoa_clean (by have := hR.link x hx; omega)
 ·refine ⟨by simp [destW],fun w hw => ?_⟩
  simp only [destW,List.mem_append,List.mem_cons,List.not_mem_nil,or_false,List.mem_map] at hw
  rcases hw with (rfl | rfl | rfl) | ⟨o,_,rfl⟩
  ·exact K _ (by simp)
  ·exact name_clean (hR.names _ (by unfold namesL; exact List.mem_append_right _ (List.mem_map_of_mem hx)))
  ·exact K _ (by simp)
  ·exact hR.cleanN _
 ·have h0 := checkN_bounds (n := p.nodes.length) (d := p.dests.length) (by have := hR.n0; omega) (hR.check x hx)
  unfold checkW
  split
  ·refine ⟨by simp,fun w hw => ?_⟩
   simp only [List.mem_cons,List.not_mem_nil,or_false] at hw
   rcases hw with rfl | rfl | rfl | rfl <;> first | exact hR.cleanN _ | exact hR.cleanD _ | exact K _ (by simp)
  ·split
   ·refine ⟨by simp,fun w hw => ?_⟩
    simp only [List.mem_cons,List.not_mem_nil,or_false] at hw
    rcases hw with rfl | rfl | rfl | rfl | rfl <;> first | exact hR.cleanN _ | exact hR.cleanD _ | exact itoa_clean (by omega) | exact K _ (by simp)
   ·split
    ·refine ⟨by simp,fun w hw => ?_⟩
     simp only [List.mem_cons,List.not_mem_nil,or_false] at hw
     rcases hw with rfl | rfl | rfl | rfl | rfl <;> first | exact hR.cleanN _ | exact hR.cleanD _ | exact K _ (by simp)
    ·refine ⟨by simp,fun w hw => ?_⟩
     simp only [List.mem_cons,List.not_mem_nil,or_false] at hw
     rcases hw with rfl | rfl | rfl | rfl | rfl <;> first | exact hR.cleanN _ | exact hR.cleanD _ | exact K _ (by simp)
end RightP
namespace RightP
variable {p : PPlan} (hR : RightP p)
include hR
end RightP
end Go.Bk
/-
  PARSE, PLAIN: what is printed, as tokens; what the parser makes of lines. No program here.
-/
namespace Go.Bk
open Go

def wtok (w : Bytes) : Tok := if 0 ≤ numI w then ⟨2,w,numI w,0⟩ else ⟨1,w,0,0⟩
def wt (w : Bytes) (a : Nat) : Tok := { wtok w with at' := ((a : Nat) : Int) }
def stopT (a : Nat) : Tok := ⟨3,[59],0,((a : Nat) : Int)⟩
def endT (a : Nat) : Tok := ⟨4,[],0,((a : Nat) : Int)⟩
inductive WordOk : Bytes → Prop where
 | kw {w : Bytes} (h : kwB w = true) : WordOk w
 | name {w : Bytes} (h : nameB w = true) : WordOk w
 | num {n : Int} (h0 : 0 ≤ n) (h1 : n ≤ 65535) : WordOk (Lib.itoa n)
theorem wt_kw {w : Bytes} (h : kwB w = true) (a : Nat) : wt w a = ⟨1,w,0,((a : Nat) : Int)⟩ := by
 unfold wt wtok
 rw [kw_num h,if_neg (by decide)]
theorem wt_name {w : Bytes} (h : nameB w = true) (a : Nat) : wt w a = ⟨1,w,0,((a : Nat) : Int)⟩ := by
 unfold wt wtok
 rw [name_num h,if_neg (by decide)]
theorem numI_itoa {n : Int} (h0 : 0 ≤ n) (h1 : n ≤ 65535) : numI (Lib.itoa n) = n := by
 rw [itoa_nat h0,numI_dec (by omega)]
 omega
theorem wt_num {n : Int} (h0 : 0 ≤ n) (h1 : n ≤ 65535) (a : Nat) : wt (Lib.itoa n) a = ⟨2,Lib.itoa n,n,((a : Nat) : Int)⟩ := by
 unfold wt wtok
 rw [numI_itoa h0 h1,if_pos h0]
theorem kw_parts {w : Bytes} (h : kwB w = true) : w ≠ [] ∧ ∀ c ∈ w,partB c = true := by
 have hm : w ∈ kwList := by simpa [kwB] using h
 have := List.all_eq_true.1 kw_all w hm
 simp only [Bool.and_eq_true,Bool.not_eq_true',List.isEmpty_eq_false_iff,List.all_eq_true] at this
 exact this.1
theorem WordOk.word {w : Bytes} (h : WordOk w) : Word w (wtok w) := by
 cases h with
 | kw h =>
  have := kw_parts h
  have e : wtok w = ⟨1,w,0,0⟩ := by unfold wtok; rw [kw_num h,if_neg (by decide)]
  rw [e]
  exact word_parts this.1 this.2 (.inl h)
 | name h =>
  have := name_parts h
  have e : wtok w = ⟨1,w,0,0⟩ := by unfold wtok; rw [name_num h,if_neg (by decide)]
  rw [e]
  exact word_parts this.1 this.2 (.inr h)
 | @num n h0 h1 =>
  have hn := numI_itoa h0 h1
  have e : wtok (Lib.itoa n) = ⟨2,Lib.itoa n,numI (Lib.itoa n),0⟩ := by unfold wtok; rw [if_pos (by omega)]
  rw [e]
  rw [itoa_nat h0] at hn ⊢
  exact num_parts (decDigits_ne _) (fun c hc => digit_part (decDigits_digit _ c hc)) (by omega)
theorem WordOk.len {w : Bytes} (h : WordOk w) : w.length ≤ 12 := by
 cases h with
 | kw h =>
  have hm : w ∈ kwList := by simpa [kwB] using h
  have : kwList.all (fun w => decide (w.length ≤ 12)) = true := by decide
  simpa using List.all_eq_true.1 this w hm
 | name h => exact nameB_len h
 | num h0 h1 => exact itoa_len h0 h1
theorem nil10 : ([10] : Bytes) ∈ blankList := by decide
theorem nil32 : ([32] : Bytes) ∈ blankList := by decide
theorem Pre.blank {s b : Bytes} {want : List Tok} (h : Pre s want) (hb : b ∈ blankList) : Pre (s ++ b) want := by
 intro r
 have h1 := h (b ++ r)
 rw [lexR_blank hb] at h1
 rw [List.append_assoc,h1,List.length_append]
theorem lexR_word' {p r : Bytes} {t : Tok} {a : Nat} (acc : List Tok) (W : Word p t) (hf : firstT (p ++ r) = (t,true)) :
  comb acc (lexR ((p ++ r).length + 1) (p ++ r) a) = comb (acc ++ [{ t with at' := ((a : Nat) : Int) }]) (lexR (r.length + 1) r (a + p.length)) := by
 have hs : skipL (p ++ r) = p ++ r := skipL_self (fun _ => by rw [getD_app W.ne]; exact W.blank) (fun _ => by rw [getD_app W.ne]; exact W.hash)
 rw [lexR_go acc (by rw [hs,hf]) (by rw [hs,hf]; exact W.kind),hs,hf,Nat.sub_self,Nat.add_zero]
 simp only [W.text,List.drop_left]
theorem Pre.stop {s : Bytes} {want : List Tok} (h : Pre s want) : Pre (s ++ [59]) (want ++ [stopT s.length]) := by
 intro r
 have h1 := h ([59] ++ r)
 rw [lexR_word' want stop_word (firstT_semi (by simp) (show (59 : UInt8).toNat = 59 by decide))] at h1
 rw [List.append_assoc,h1,List.length_append]
 rfl
theorem Pre.wordStop {s w : Bytes} {want : List Tok} (h : Pre s want) (W : WordOk w) : Pre (s ++ w ++ [59]) (want ++ [wt w s.length,stopT (s.length + w.length)]) := by
 intro r
 have h1 := h (w ++ ([59] ++ r))
 rw [lexR_word (r := [59] ++ r) want W.word (fun _ => by rw [show ([59] ++ r : Bytes).getD 0 0 = 59 from rfl]; decide),lexR_word' _ stop_word (firstT_semi (by simp) (show (59 : UInt8).toNat = 59 by decide))] at h1
 rw [show s ++ w ++ [59] ++ r = s ++ (w ++ ([59] ++ r)) by simp,h1]
 simp only [List.append_assoc,List.length_append,List.singleton_append,List.cons_append,List.nil_append]
 rfl
theorem Pre.wordBlank {s w b : Bytes} {want : List Tok} (h : Pre s want) (W : WordOk w) (hb : b ∈ blankList) : Pre (s ++ w ++ b) (want ++ [wt w s.length]) := h.step W.word hb
def lineToks : Nat → List Bytes → List Tok
 | _,[] => []
 | a,[w] => [wt w a,stopT (a + w.length)]
 | a,w :: v :: r => wt w a :: lineToks (a + w.length + 1) (v :: r)
theorem Pre.line : ∀ (ws : List Bytes) {s : Bytes} {want : List Tok},Pre s want → ws ≠ [] → (∀ w ∈ ws,WordOk w) → Pre (s ++ lineW ws) (want ++ lineToks s.length ws)
 | [],_,_,_,h,_ => absurd rfl h
 | [w],s,want,h,_,hw => by
  have := (h.wordStop (hw w (by simp))).blank nil10
  simpa [lineW,joinW,lineToks] using this
 | w :: v :: r,s,want,h,_,hw => by
  have h1 := h.wordBlank (hw w (by simp)) nil32
  have h2 := Pre.line (v :: r) h1 (by simp) (fun x hx => hw x (List.mem_cons_of_mem _ hx))
  simp only [lineToks]
  rw [List.append_assoc,List.singleton_append] at h2
  have e : s ++ lineW (w :: v :: r) = s ++ w ++ [32] ++ lineW (v :: r) := by simp [lineW,joinW]
  rw [e]
  simpa [List.length_append,Nat.add_assoc] using h2
def linesToks : Nat → List (List Bytes) → List Tok
 | _,[] => []
 | a,l :: r => lineToks a l ++ linesToks (a + (lineW l).length) r
theorem Pre.lines : ∀ (ls : List (List Bytes)) {s : Bytes} {want : List Tok},Pre s want → (∀ l ∈ ls,l ≠ [] ∧ ∀ w ∈ l,WordOk w) → Pre (s ++ ls.flatMap lineW) (want ++ linesToks s.length ls)
 | [],s,want,h,_ => by simpa [linesToks] using h
 | l :: r,s,want,h,hl => by
  have h1 := Pre.line l h (hl l (by simp)).1 (hl l (by simp)).2
  have h2 := Pre.lines r h1 (fun x hx => hl x (List.mem_cons_of_mem _ hx))
  rw [List.flatMap_cons,← List.append_assoc]
  simp only [linesToks]
  rw [← List.append_assoc,← List.length_append]
  exact h2
theorem linesToks_app : ∀ (l r : List (List Bytes)) (a : Nat),linesToks a (l ++ r) = linesToks a l ++ linesToks (a + (l.flatMap lineW).length) r
 | [],r,a => by simp [linesToks]
 | x :: l,r,a => by
  rw [List.cons_append,linesToks,linesToks,linesToks_app l r,List.flatMap_cons,List.length_append,List.append_assoc,Nat.add_assoc]
theorem k_protocol : kwB wdProtocol = true := by decide
theorem k_path : kwB wdPath = true := by decide
theorem k_vector : kwB wdVector = true := by decide
theorem k_failures : kwB wdFailures = true := by decide
theorem k_node : kwB wdNode = true := by decide
theorem k_link : kwB wdLink = true := by decide
theorem k_dest : kwB wdDest = true := by decide
theorem k_at : kwB wdAt = true := by decide
theorem k_check : kwB wdCheck = true := by decide
theorem k_reach : kwB wdReach = true := by decide
theorem k_within : kwB wdWithin = true := by decide
theorem k_waypoint : kwB wdWaypoint = true := by decide
theorem k_equal : kwB wdEqual = true := by decide
theorem nmN_name {p : PPlan} (hR : RightP p) {i : Int} (h0 : 0 ≤ i) (h1 : i < p.nodes.length) : nameB (nmN p i) = true := by
 refine hR.names _ (List.mem_append_left _ (List.mem_map_of_mem ?_))
 exact getD_mem' d0N (by omega)
theorem nmD_name {p : PPlan} (hR : RightP p) {i : Int} (h0 : 0 ≤ i) (h1 : i < p.dests.length) : nameB (nmD p i) = true := by
 refine hR.names _ (List.mem_append_right _ (List.mem_map_of_mem ?_))
 exact getD_mem' d0D (by omega)
theorem name_node {p : PPlan} (hR : RightP p) {x : PNode} (h : x ∈ p.nodes) : nameB x.name = true := hR.names _ (List.mem_append_left _ (List.mem_map_of_mem h))
theorem name_dest {p : PPlan} (hR : RightP p) {x : PDest} (h : x ∈ p.dests) : nameB x.name = true := hR.names _ (List.mem_append_right _ (List.mem_map_of_mem h))
theorem cap_is {p : PPlan} (hR : RightP p) : (p.proto = 1 ∧ p.cap = 0) ∨ (p.proto = 2 ∧ 1 ≤ p.cap ∧ p.cap ≤ 12) := by
 have h := hR.routing
 unfold routingB at h
 split at h
 ·simp only [decide_eq_true_eq] at h; omega
 ·split at h
  ·rw [withinB_iff] at h; omega
  ·cases h
theorem protoW_ok {p : PPlan} (hR : RightP p) : protoW p ≠ [] ∧ (∀ w ∈ protoW p,WordOk w) ∧ (protoW p).length ≤ 15 := by
 have hc := cap_is hR
 unfold protoW
 split
 ·refine ⟨by simp,fun w hw => ?_,by simp⟩
  simp only [List.mem_cons,List.not_mem_nil,or_false] at hw
  rcases hw with rfl | rfl | rfl
  ·exact .kw k_protocol
  ·exact .kw k_path
  ·exact .num (by omega) (by omega)
 ·refine ⟨by simp,fun w hw => ?_,by simp⟩
  simp only [List.mem_cons,List.not_mem_nil,or_false] at hw
  rcases hw with rfl | rfl
  ·exact .kw k_protocol
  ·exact .kw k_vector
theorem failW_ok {p : PPlan} (hR : RightP p) : ∀ w ∈ [wdFailures,Lib.itoa p.k],WordOk w := by
 intro w hw
 have := hR.k0; have := hR.k1
 simp only [List.mem_cons,List.not_mem_nil,or_false] at hw
 rcases hw with rfl | rfl
 ·exact .kw k_failures
 ·exact .num (by omega) (by omega)
theorem nodeW_ok {p : PPlan} (hR : RightP p) {x : PNode} (hx : x ∈ p.nodes) : ∀ w ∈ nodeW x,WordOk w := by
 intro w hw
 have := hR.asn x hx
 simp only [nodeW,List.mem_cons,List.not_mem_nil,or_false] at hw
 rcases hw with rfl | rfl | rfl
 ·exact .kw k_node
 ·exact .name (name_node hR hx)
 ·exact .num (by omega) (by omega)
theorem linkW_ok {p : PPlan} (hR : RightP p) {x : PLink} (hx : x ∈ p.links) : ∀ w ∈ linkW p x,WordOk w := by
 intro w hw
 have := hR.link x hx
 simp only [linkW,List.mem_cons,List.not_mem_nil,or_false] at hw
 rcases hw with rfl | rfl | rfl | rfl
 ·exact .kw k_link
 ·exact .name (nmN_name hR (by omega) (by omega))
 ·exact .name (nmN_name hR (by omega) (by omega))
 ·exact .num (by omega) (by omega)
theorem orig_in {p : PPlan} (hR : RightP p) {d : PDest} (hd : d ∈ p.dests) : ∀ o ∈ d.origins,0 ≤ o ∧ o < p.nodes.length := by
 intro o ho
 obtain ⟨i,hi,rfl⟩ := List.getElem_of_mem ho
 have := ((hR.dest d hd).1 i hi).1
 rw [List.getD_eq_getElem?_getD,List.getElem?_eq_getElem hi,Option.getD_some,placeB_iff] at this
 exact this
theorem destW_ok {p : PPlan} (hR : RightP p) {d : PDest} (hd : d ∈ p.dests) : (∀ w ∈ destW p d,WordOk w) ∧ (destW p d).length ≤ 15 := by
 refine ⟨fun w hw => ?_,?_⟩
 ·simp only [destW,List.mem_append,List.mem_cons,List.not_mem_nil,or_false,List.mem_map] at hw
  rcases hw with (rfl | rfl | rfl) | ⟨o,ho,rfl⟩
  ·exact .kw k_dest
  ·exact .name (name_dest hR hd)
  ·exact .kw k_at
  ·have := orig_in hR hd o ho
   exact .name (nmN_name hR this.1 this.2)
 ·have := orig_count (hR.dest d hd).1
  have := hR.n1
  simp only [destW,List.length_append,List.length_cons,List.length_nil,List.length_map]
  omega
theorem checkW_ok {p : PPlan} (hR : RightP p) {c : PCheck} (hc : c ∈ p.checks) : checkW p c ≠ [] ∧ (∀ w ∈ checkW p c,WordOk w) ∧ (checkW p c).length ≤ 15 := by
 have h0 := hR.n0
 have hb := checkN_bounds (n := p.nodes.length) (d := p.dests.length) (by omega) (hR.check c hc)
 have e1 := nmN_name hR hb.1.1 hb.1.2
 have e2 := nmD_name hR hb.2.1.1 hb.2.1.2
 have e3 := nmN_name hR hb.2.2.2.1.1 hb.2.2.2.1.2
 have e4 : WordOk (Lib.itoa c.limit) := .num hb.2.2.1.1 hb.2.2.1.2
 unfold checkW
 split
 ·refine ⟨by simp,fun w hw => ?_,by simp⟩
  simp only [List.mem_cons,List.not_mem_nil,or_false] at hw
  rcases hw with rfl | rfl | rfl | rfl
  ·exact .kw k_check
  ·exact .kw k_reach
  ·exact .name e1
  ·exact .name e2
 ·split
  ·refine ⟨by simp,fun w hw => ?_,by simp⟩
   simp only [List.mem_cons,List.not_mem_nil,or_false] at hw
   rcases hw with rfl | rfl | rfl | rfl | rfl
   ·exact .kw k_check
   ·exact .kw k_within
   ·exact .name e1
   ·exact .name e2
   ·exact e4
  ·split
   ·refine ⟨by simp,fun w hw => ?_,by simp⟩
    simp only [List.mem_cons,List.not_mem_nil,or_false] at hw
    rcases hw with rfl | rfl | rfl | rfl | rfl
    ·exact .kw k_check
    ·exact .kw k_waypoint
    ·exact .name e1
    ·exact .name e2
    ·exact .name e3
   ·refine ⟨by simp,fun w hw => ?_,by simp⟩
    simp only [List.mem_cons,List.not_mem_nil,or_false] at hw
    rcases hw with rfl | rfl | rfl | rfl | rfl
    ·exact .kw k_check
    ·exact .kw k_equal
    ·exact .name e1
    ·exact .name e3
    ·exact .name e2
theorem lines_ok {p : PPlan} (hR : RightP p) : ∀ l ∈ linesW p,l ≠ [] ∧ (∀ w ∈ l,WordOk w) ∧ l.length ≤ 15 := by
 intro l hl
 unfold linesW at hl
 simp only [List.mem_cons,List.mem_append,List.mem_map] at hl
 rcases hl with rfl | rfl | ⟨x,hx,rfl⟩ | ⟨x,hx,rfl⟩ | ⟨x,hx,rfl⟩ | ⟨x,hx,rfl⟩
 ·exact protoW_ok hR
 ·exact ⟨by simp,failW_ok hR,by simp⟩
 ·exact ⟨by simp [nodeW],nodeW_ok hR hx,by simp [nodeW]⟩
 ·exact ⟨by simp [linkW],linkW_ok hR hx,by simp [linkW]⟩
 ·exact ⟨by simp [destW],destW_ok hR hx⟩
 ·exact checkW_ok hR hx
theorem print_len {p : PPlan} (hR : RightP p) : (printT p).length ≤ 9850 := by
 rw [printT_lines hR]
 have h1 := flat_len_le (f := lineW) (m := 197) (linesW p) (fun l hl => by
  have h := lines_ok hR l hl
  exact lineW_len (k := 15) h.2.2 (fun x hx => (h.2.1 x hx).len))
 have h2 : (linesW p).length ≤ 50 := by
  have := hR.n1; have := hR.l1; have := hR.d1; have := hR.c1
  unfold linesW
  simp only [List.length_cons,List.length_append,List.length_map]
  omega
 omega
theorem pre_print {p : PPlan} (hR : RightP p) : Pre (printT p) (linesToks 0 (linesW p)) := by
 have := Pre.lines (linesW p) Pre.nil (fun l hl => ⟨(lines_ok hR l hl).1,(lines_ok hR l hl).2.1⟩)
 rw [← printT_lines hR] at this
 exact this
theorem lex_print {p : PPlan} (hR : RightP p) : lexT (printT p) = (linesToks 0 (linesW p) ++ [endT (printT p).length],0,0) := (pre_print hR).lex (by have := print_len hR; omega)
section
variable {p : PPlan} {r : List Tok} {w : Bytes} {a : Int}
theorem stopS_hit (k : Nat) : stopS ⟨p,stopT k :: r⟩ = .ok ⟨p,r⟩ := rfl
theorem isS_hit {n : Int} : isS w ⟨p,⟨1,w,n,a⟩ :: r⟩ = true := by
 show (decide ((1 : Int) = 1) && decide (w = w)) = true
 simp
theorem isS_other {v : Bytes} {n : Int} (h : v ≠ w) : isS w ⟨p,⟨1,v,n,a⟩ :: r⟩ = false := by
 show (decide ((1 : Int) = 1) && decide (v = w)) = false
 simp [h]
theorem isS_kind {t : Tok} (h : t.kind ≠ 1) : isS w ⟨p,t :: r⟩ = false := by
 show (decide (t.kind = 1) && decide (t.text = w)) = false
 simp [h]
theorem wordS_hit {n : Int} : wordS w ⟨p,⟨1,w,n,a⟩ :: r⟩ = .ok (⟨1,w,n,a⟩,⟨p,r⟩) := by
 unfold wordS
 rw [isS_hit,if_pos rfl]; rfl
theorem headS_hit {n most many : Int} : headS w most many ⟨p,⟨1,w,n,a⟩ :: r⟩ = if most ≤ many then .error (44,a) else .ok ⟨p,r⟩ := by
 unfold headS
 rw [wordS_hit]; rfl
theorem numberS_hit {n l u : Int} : numberS l u ⟨p,⟨2,w,n,a⟩ :: r⟩ = if n < l ∨ u < n then .error (42,a) else .ok (n,⟨p,r⟩) := rfl
theorem freshS_hit {n : Int} : freshS ⟨p,⟨1,w,n,a⟩ :: r⟩ = if kwB w = true ∨ 0 ≤ nodeIx p w ∨ 0 ≤ destIx p w then .error (41,a) else .ok (w,⟨p,r⟩) := rfl
theorem knownS_hit {f : PPlan → Bytes → Int} {n : Int} : knownS f ⟨p,⟨1,w,n,a⟩ :: r⟩ = if f p w < 0 then .error (41,a) else .ok ((f p w,⟨1,w,n,a⟩),⟨p,r⟩) := rfl
theorem kindS_hit {n : Int} : kindS ⟨p,⟨1,w,n,a⟩ :: r⟩ = if kindIx w < 0 then .error (40,a) else .ok (kindIx w,⟨p,r⟩) := rfl
end
end Go.Bk
