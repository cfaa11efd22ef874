/-
  Texts that belong together: ParToks, ParAw, LexC.
-/
import Derived.Test.YtjhgghpeapmgdaaGreatDoorMg4
import Derived.Test.YtjhgghpeapmgdaaGreatDoorPlanInj
import Derived.Test.YtjhgghpeapmgdaaGreatDoorParSort
import Derived.Test.YtjhgghpeapmgdaaGreatDoorLexB
import Derived.Test.YtjhgghpeapmgdaaGreatDoorDraw
import Derived.Test.YtjhgghpeapmgdaaGreatDoorLz
import Derived.Test.YtjhgghpeapmgdaaGreatDoorMg2
/-
  PARSE, PLAIN: what is printed, as tokens; what the parser makes of lines. No program here.
-/
namespace Go.Bk
open Go

def wtok (w : Bytes) : Tok := if 0 ≤ numI w then ⟨2,w,numI w,0⟩ else ⟨1,w,0,0⟩
def wt (w : Bytes) (a : Nat) : Tok := { wtok w with at' := ((a : Nat) : Int) }
def stopT (a : Nat) : Tok := ⟨3,[59],0,((a : Nat) : Int)⟩
def endT (a : Nat) : Tok := ⟨4,[],0,((a : Nat) : Int)⟩
inductive WordOk : Bytes → Prop where
 | kw {w : Bytes} (h : kwB w = true) : WordOk w
 | name {w : Bytes} (h : nameB w = true) : WordOk w
 | num {n : Int} (h0 : 0 ≤ n) (h1 : n ≤ 65535) : WordOk (Lib.itoa n)
theorem wt_kw {w : Bytes} (h : kwB w = true) (a : Nat) : wt w a = ⟨1,w,0,((a : Nat) : Int)⟩ := by
 unfold wt wtok
 rw [kw_num h,if_neg (by decide)]
theorem wt_name {w : Bytes} (h : nameB w = true) (a : Nat) : wt w a = ⟨1,w,0,((a : Nat) : Int)⟩ := by
 unfold wt wtok
 rw [name_num h,if_neg (by decide)]
theorem numI_itoa {n : Int} (h0 : 0 ≤ n) (h1 : n ≤ 65535) : numI (Lib.itoa n) = n := by
 rw [itoa_nat h0,numI_dec (by omega)]
 omega
theorem wt_num {n : Int} (h0 : 0 ≤ n) (h1 : n ≤ 65535) (a : Nat) : wt (Lib.itoa n) a = ⟨2,Lib.itoa n,n,((a : Nat) : Int)⟩ := by
 unfold wt wtok
 rw [numI_itoa h0 h1,if_pos h0]
theorem kw_parts {w : Bytes} (h : kwB w = true) : w ≠ [] ∧ ∀ c ∈ w,partB c = true := by
 have hm : w ∈ kwList := by simpa [kwB] using h
 have := List.all_eq_true.1 kw_all w hm
 simp only [Bool.and_eq_true,Bool.not_eq_true',List.isEmpty_eq_false_iff,List.all_eq_true] at this
 exact this.1
theorem WordOk.word {w : Bytes} (h : WordOk w) : Word w (wtok w) := by
 cases h with
 | kw h =>
  have := kw_parts h
  have e : wtok w = ⟨1,w,0,0⟩ := by unfold wtok; rw [kw_num h,if_neg (by decide)]
  rw [e]
  exact word_parts this.1 this.2 (.inl h)
 | name h =>
  have := name_parts h
  have e : wtok w = ⟨1,w,0,0⟩ := by unfold wtok; rw [name_num h,if_neg (by decide)]
  rw [e]
  exact word_parts this.1 this.2 (.inr h)
 | @num n h0 h1 =>
  have hn := numI_itoa h0 h1
  have e : wtok (Lib.itoa n) = ⟨2,Lib.itoa n,numI (Lib.itoa n),0⟩ := by unfold wtok; rw [if_pos (by omega)]
  rw [e]
  rw [itoa_nat h0] at hn ⊢
  exact num_parts (decDigits_ne _) (fun c hc => digit_part (decDigits_digit _ c hc)) (by omega)
theorem WordOk.len {w : Bytes} (h : WordOk w) : w.length ≤ 12 := by
 cases h with
 | kw h =>
  have hm : w ∈ kwList := by simpa [kwB] using h
  have : kwList.all (fun w => decide (w.length ≤ 12)) = true := by decide
  simpa using List.all_eq_true.1 this w hm
 | name h => exact nameB_len h
 | num h0 h1 => exact itoa_len h0 h1
theorem nil10 : ([10] : Bytes) ∈ blankList := by decide
theorem nil32 : ([32] : Bytes) ∈ blankList := by decide
theorem Pre.blank {s b : Bytes} {want : List Tok} (h : Pre s want) (hb : b ∈ blankList) : Pre (s ++ b) want := by
 intro r
 have h1 := h (b ++ r)
 rw [lexR_blank hb] at h1
 rw [List.append_assoc,h1,List.length_append]
theorem lexR_word' {p r : Bytes} {t : Tok} {a : Nat} (acc : List Tok) (W : Word p t) (hf : firstT (p ++ r) = (t,true)) :
  comb acc (lexR ((p ++ r).length + 1) (p ++ r) a) = comb (acc ++ [{ t with at' := ((a : Nat) : Int) }]) (lexR (r.length + 1) r (a + p.length)) := by
 have hs : skipL (p ++ r) = p ++ r := skipL_self (fun _ => by rw [getD_app W.ne]; exact W.blank) (fun _ => by rw [getD_app W.ne]; exact W.hash)
 rw [lexR_go acc (by rw [hs,hf]) (by rw [hs,hf]; exact W.kind),hs,hf,Nat.sub_self,Nat.add_zero]
 simp only [W.text,List.drop_left]
theorem Pre.stop {s : Bytes} {want : List Tok} (h : Pre s want) : Pre (s ++ [59]) (want ++ [stopT s.length]) := by
 intro r
 have h1 := h ([59] ++ r)
 rw [lexR_word' want stop_word (firstT_semi (by simp) (show (59 : UInt8).toNat = 59 by decide))] at h1
 rw [List.append_assoc,h1,List.length_append]
 rfl
theorem Pre.wordStop {s w : Bytes} {want : List Tok} (h : Pre s want) (W : WordOk w) : Pre (s ++ w ++ [59]) (want ++ [wt w s.length,stopT (s.length + w.length)]) := by
 intro r
 have h1 := h (w ++ ([59] ++ r))
 rw [lexR_word (r := [59] ++ r) want W.word (fun _ => by rw [show ([59] ++ r : Bytes).getD 0 0 = 59 from rfl]; decide),lexR_word' _ stop_word (firstT_semi (by simp) (show (59 : UInt8).toNat = 59 by decide))] at h1
 rw [show s ++ w ++ [59] ++ r = s ++ (w ++ ([59] ++ r)) by simp,h1]
 simp only [List.append_assoc,List.length_append,List.singleton_append,List.cons_append,List.nil_append]
 rfl
theorem Pre.wordBlank {s w b : Bytes} {want : List Tok} (h : Pre s want) (W : WordOk w) (hb : b ∈ blankList) : Pre (s ++ w ++ b) (want ++ [wt w s.length]) := h.step W.word hb
def lineToks : Nat → List Bytes → List Tok
 | _,[] => []
 | a,[w] => [wt w a,stopT (a + w.length)]
 | a,w :: v :: r => wt w a :: lineToks (a + w.length + 1) (v :: r)
theorem Pre.line : ∀ (ws : List Bytes) {s : Bytes} {want : List Tok},Pre s want → ws ≠ [] → (∀ w ∈ ws,WordOk w) → Pre (s ++ lineW ws) (want ++ lineToks s.length ws)
 | [],_,_,_,h,_ => absurd rfl h
 | [w],s,want,h,_,hw => by
  have := (h.wordStop (hw w (by simp))).blank nil10
  simpa [lineW,joinW,lineToks] using this
 | w :: v :: r,s,want,h,_,hw => by
  have h1 := h.wordBlank (hw w (by simp)) nil32
  have h2 := Pre.line (v :: r) h1 (by simp) (fun x hx => hw x (List.mem_cons_of_mem _ hx))
  simp only [lineToks]
  rw [List.append_assoc,List.singleton_append] at h2
  have e : s ++ lineW (w :: v :: r) = s ++ w ++ [32] ++ lineW (v :: r) := by simp [lineW,joinW]
  rw [e]
  simpa [List.length_append,Nat.add_assoc] using h2
def linesToks : Nat → List (List Bytes) → List Tok
 | _,[] => []
 | a,l :: r => lineToks a l ++ linesToks (a + (lineW l).length) r
theorem Pre.lines : ∀ (ls : List (List Bytes)) {s : Bytes} {want : List Tok},Pre s want → (∀ l ∈ ls,l ≠ [] ∧ ∀ w ∈ l,WordOk w) → Pre (s ++ ls.flatMap lineW) (want ++ linesToks s.length ls)
 | [],s,want,h,_ => by simpa [linesToks] using h
 | l :: r,s,want,h,hl => by
  have h1 := Pre.line l h (hl l (by simp)).1 (hl l (by simp)).2
  have h2 := Pre.lines r h1 (fun x hx => hl x (List.mem_cons_of_mem _ hx))
  rw [List.flatMap_cons,← List.append_assoc]
  simp only [linesToks]
  rw [← List.append_assoc,← List.length_append]
  exact h2
theorem linesToks_app : ∀ (l r : List (List Bytes)) (a : Nat),linesToks a (l ++ r) = linesToks a l ++ linesToks (a + (l.flatMap lineW).length) r
 | [],r,a => by simp [linesToks]
 | x :: l,r,a => by
  rw [List.cons_append,linesToks,linesToks,linesToks_app l r,List.flatMap_cons,List.length_append,List.append_assoc,Nat.add_assoc]
theorem k_protocol : kwB wdProtocol = true := by decide
theorem k_path : kwB wdPath = true := by decide
theorem k_vector : kwB wdVector = true := by decide
theorem k_failures : kwB wdFailures = true := by decide
theorem k_node : kwB wdNode = true := by decide
theorem k_link : kwB wdLink = true := by decide
theorem k_dest : kwB wdDest = true := by decide
theorem k_at : kwB wdAt = true := by decide
theorem k_check : kwB wdCheck = true := by decide
theorem k_reach : kwB wdReach = true := by decide
theorem k_within : kwB wdWithin = true := by decide
theorem k_waypoint : kwB wdWaypoint = true := by decide
theorem k_equal : kwB wdEqual = true := by decide
theorem nmN_name {p : PPlan} (hR : RightP p) {i : Int} (h0 : 0 ≤ i) (h1 : i < p.nodes.length) : nameB (nmN p i) = true := by
 refine hR.names _ (List.mem_append_left _ (List.mem_map_of_mem ?_))
 exact getD_mem' d0N (by omega)
theorem nmD_name {p : PPlan} (hR : RightP p) {i : Int} (h0 : 0 ≤ i) (h1 : i < p.dests.length) : nameB (nmD p i) = true := by
 refine hR.names _ (List.mem_append_right _ (List.mem_map_of_mem ?_))
 exact getD_mem' d0D (by omega)
theorem name_node {p : PPlan} (hR : RightP p) {x : PNode} (h : x ∈ p.nodes) : nameB x.name = true := hR.names _ (List.mem_append_left _ (List.mem_map_of_mem h))
theorem name_dest {p : PPlan} (hR : RightP p) {x : PDest} (h : x ∈ p.dests) : nameB x.name = true := hR.names _ (List.mem_append_right _ (List.mem_map_of_mem h))
theorem cap_is {p : PPlan} (hR : RightP p) : (p.proto = 1 ∧ p.cap = 0) ∨ (p.proto = 2 ∧ 1 ≤ p.cap ∧ p.cap ≤ 12) := by
 have h := hR.routing
 unfold routingB at h
 split at h
 ·simp only [decide_eq_true_eq] at h; omega
 ·split at h
  ·rw [withinB_iff] at h; omega
  ·cases h
theorem protoW_ok {p : PPlan} (hR : RightP p) : protoW p ≠ [] ∧ (∀ w ∈ protoW p,WordOk w) ∧ (protoW p).length ≤ 15 := by
 have hc := cap_is hR
 unfold protoW
 split
 ·refine ⟨by simp,fun w hw => ?_,by simp⟩
  simp only [List.mem_cons,List.not_mem_nil,or_false] at hw
  rcases hw with rfl | rfl | rfl
  ·exact .kw k_protocol
  ·exact .kw k_path
  ·exact .num (by omega) (by omega)
 ·refine ⟨by simp,fun w hw => ?_,by simp⟩
  simp only [List.mem_cons,List.not_mem_nil,or_false] at hw
  rcases hw with rfl | rfl
  ·exact .kw k_protocol
  ·exact .kw k_vector
theorem failW_ok {p : PPlan} (hR : RightP p) : ∀ w ∈ [wdFailures,Lib.itoa p.k],WordOk w := by
 intro w hw
 have := hR.k0; have := hR.k1
 simp only [List.mem_cons,List.not_mem_nil,or_false] at hw
 rcases hw with rfl | rfl
 ·exact .kw k_failures
 ·exact .num (by omega) (by omega)
theorem nodeW_ok {p : PPlan} (hR : RightP p) {x : PNode} (hx : x ∈ p.nodes) : ∀ w ∈ nodeW x,WordOk w := by
 intro w hw
 have := hR.asn x hx
 simp only [nodeW,List.mem_cons,List.not_mem_nil,or_false] at hw
 rcases hw with rfl | rfl | rfl
 ·exact .kw k_node
 ·exact .name (name_node hR hx)
 ·exact .num (by omega) (by omega)
theorem linkW_ok {p : PPlan} (hR : RightP p) {x : PLink} (hx : x ∈ p.links) : ∀ w ∈ linkW p x,WordOk w := by
 intro w hw
 have := hR.link x hx
 simp only [linkW,List.mem_cons,List.not_mem_nil,or_false] at hw
 rcases hw with rfl | rfl | rfl | rfl
 ·exact .kw k_link
 ·exact .name (nmN_name hR (by omega) (by omega))
 ·exact .name (nmN_name hR (by omega) (by omega))
 ·exact .num (by omega) (by omega)
theorem orig_in {p : PPlan} (hR : RightP p) {d : PDest} (hd : d ∈ p.dests) : ∀ o ∈ d.origins,0 ≤ o ∧ o < p.nodes.length := by
 intro o ho
 obtain ⟨i,hi,rfl⟩ := List.getElem_of_mem ho
 have := ((hR.dest d hd).1 i hi).1
 rw [List.getD_eq_getElem?_getD,List.getElem?_eq_getElem hi,Option.getD_some,placeB_iff] at this
 exact this
theorem destW_ok {p : PPlan} (hR : RightP p) {d : PDest} (hd : d ∈ p.dests) : (∀ w ∈ destW p d,WordOk w) ∧ (destW p d).length ≤ 15 := by
 refine ⟨fun w hw => ?_,?_⟩
 ·simp only [destW,List.mem_append,List.mem_cons,List.not_mem_nil,or_false,List.mem_map] at hw
  rcases hw with (rfl | rfl | rfl) | ⟨o,ho,rfl⟩
  ·exact .kw k_dest
  ·exact .name (name_dest hR hd)
  ·exact .kw k_at
  ·have := orig_in hR hd o ho
   exact .name (nmN_name hR this.1 this.2)
 ·have := orig_count (hR.dest d hd).1
  have := hR.n1
  simp only [destW,List.length_append,List.length_cons,List.length_nil,List.length_map]
  omega
theorem checkW_ok {p : PPlan} (hR : RightP p) {c : PCheck} (hc : c ∈ p.checks) : checkW p c ≠ [] ∧ (∀ w ∈ checkW p c,WordOk w) ∧ (checkW p c).length ≤ 15 := by
 have h0 := hR.n0
 have hb := checkN_bounds (n := p.nodes.length) (d := p.dests.length) (by omega) (hR.check c hc)
 have e1 := nmN_name hR hb.1.1 hb.1.2
 have e2 := nmD_name hR hb.2.1.1 hb.2.1.2
 have e3 := nmN_name hR hb.2.2.2.1.1 hb.2.2.2.1.2
 have e4 : WordOk (Lib.itoa c.limit) := .num hb.2.2.1.1 hb.2.2.1.2
 unfold checkW
 split
 ·refine ⟨by simp,fun w hw => ?_,by simp⟩
  simp only [List.mem_cons,List.not_mem_nil,or_false] at hw
  rcases hw with rfl | rfl | rfl | rfl
  ·exact .kw k_check
  ·exact .kw k_reach
  ·exact .name e1
  ·exact .name e2
 ·split
  ·refine ⟨by simp,fun w hw => ?_,by simp⟩
   simp only [List.mem_cons,List.not_mem_nil,or_false] at hw
   rcases hw with rfl | rfl | rfl | rfl | rfl
   ·exact .kw k_check
   ·exact .kw k_within
   ·exact .name e1
   ·exact .name e2
   ·exact e4
  ·split
   ·refine ⟨by simp,fun w hw => ?_,by simp⟩
    simp only [List.mem_cons,List.not_mem_nil,or_false] at hw
    rcases hw with rfl | rfl | rfl | rfl | rfl
    ·exact .kw k_check
    ·exact .kw k_waypoint
    ·exact .name e1
    ·exact .name e2
    ·exact .name e3
   ·refine ⟨by simp,fun w hw => ?_,by simp⟩
    simp only [List.mem_cons,List.not_mem_nil,or_false] at hw
    rcases hw with rfl | rfl | rfl | rfl | rfl
    ·exact .kw k_check
    ·exact .kw k_equal
    ·exact .name e1
    ·exact .name e3
    ·exact .name e2
theorem lines_ok {p : PPlan} (hR : RightP p) : ∀ l ∈ linesW p,l ≠ [] ∧ (∀ w ∈ l,WordOk w) ∧ l.length ≤ 15 := by
 intro l hl
 unfold linesW at hl
 simp only [List.mem_cons,List.mem_append,List.mem_map] at hl
 rcases hl with rfl | rfl | ⟨x,hx,rfl⟩ | ⟨x,hx,rfl⟩ | ⟨x,hx,rfl⟩ | ⟨x,hx,rfl⟩
 ·exact protoW_ok hR
 ·exact ⟨by simp,failW_ok hR,by simp⟩
 ·exact ⟨by simp [nodeW],nodeW_ok hR hx,by simp [nodeW]⟩
 ·exact ⟨by simp [linkW],linkW_ok hR hx,by simp [linkW]⟩
 ·exact ⟨by simp [destW],destW_ok hR hx⟩
 ·exact checkW_ok hR hx
theorem print_len {p : PPlan} (hR : RightP p) : (printT p).length ≤ 9850 := by
 rw [printT_lines hR]
 have h1 := flat_len_le (f := lineW) (m := 197) (linesW p) (fun l hl => by
  have h := lines_ok hR l hl
  exact lineW_len (k := 15) h.2.2 (fun x hx => (h.2.1 x hx).len))
 have h2 : (linesW p).length ≤ 50 := by
  have := hR.n1; have := hR.l1; have := hR.d1; have := hR.c1
  unfold linesW
  simp only [List.length_cons,List.length_append,List.length_map]
  omega
 omega
theorem pre_print {p : PPlan} (hR : RightP p) : Pre (printT p) (linesToks 0 (linesW p)) := by
 have := Pre.lines (linesW p) Pre.nil (fun l hl => ⟨(lines_ok hR l hl).1,(lines_ok hR l hl).2.1⟩)
 rw [← printT_lines hR] at this
 exact this
theorem lex_print {p : PPlan} (hR : RightP p) : lexT (printT p) = (linesToks 0 (linesW p) ++ [endT (printT p).length],0,0) := (pre_print hR).lex (by have := print_len hR; omega)
section
variable {p : PPlan} {r : List Tok} {w : Bytes} {a : Int}
theorem stopS_hit (k : Nat) : stopS ⟨p,stopT k :: r⟩ = .ok ⟨p,r⟩ := rfl
theorem isS_hit {n : Int} : isS w ⟨p,⟨1,w,n,a⟩ :: r⟩ = true := by
 show (decide ((1 : Int) = 1) && decide (w = w)) = true
 simp
theorem isS_other {v : Bytes} {n : Int} (h : v ≠ w) : isS w ⟨p,⟨1,v,n,a⟩ :: r⟩ = false := by
 show (decide ((1 : Int) = 1) && decide (v = w)) = false
 simp [h]
theorem isS_kind {t : Tok} (h : t.kind ≠ 1) : isS w ⟨p,t :: r⟩ = false := by
 show (decide (t.kind = 1) && decide (t.text = w)) = false
 simp [h]
theorem wordS_hit {n : Int} : wordS w ⟨p,⟨1,w,n,a⟩ :: r⟩ = .ok (⟨1,w,n,a⟩,⟨p,r⟩) := by
 unfold wordS
 rw [isS_hit,if_pos rfl]; rfl
theorem headS_hit {n most many : Int} : headS w most many ⟨p,⟨1,w,n,a⟩ :: r⟩ = if most ≤ many then .error (44,a) else .ok ⟨p,r⟩ := by
 unfold headS
 rw [wordS_hit]; rfl
theorem numberS_hit {n l u : Int} : numberS l u ⟨p,⟨2,w,n,a⟩ :: r⟩ = if n < l ∨ u < n then .error (42,a) else .ok (n,⟨p,r⟩) := rfl
theorem freshS_hit {n : Int} : freshS ⟨p,⟨1,w,n,a⟩ :: r⟩ = if kwB w = true ∨ 0 ≤ nodeIx p w ∨ 0 ≤ destIx p w then .error (41,a) else .ok (w,⟨p,r⟩) := rfl
theorem knownS_hit {f : PPlan → Bytes → Int} {n : Int} : knownS f ⟨p,⟨1,w,n,a⟩ :: r⟩ = if f p w < 0 then .error (41,a) else .ok ((f p w,⟨1,w,n,a⟩),⟨p,r⟩) := rfl
theorem kindS_hit {n : Int} : kindS ⟨p,⟨1,w,n,a⟩ :: r⟩ = if kindIx w < 0 then .error (40,a) else .ok (kindIx w,⟨p,r⟩) := rfl
end
end Go.Bk
/-
  PARSE, PLAIN: the first calls, whose answers are fixed. No program here.
-/
namespace Go.Bk
open Go

theorem parseT_eq (s : Bytes) : parseT s = parseToks (lexC s) := by unfold parseT; rw [lexT_eq]
theorem awp1 : parseT [112,114,111,116,111,99,111,108,32,118,101,99,116,111,114,59,32,102,97,105,108,117,114,101,115,32,48,59,32,110,111,100,101,32,97,32,49,59,32,108,105,110,107,32,97,32,97,32,49,59] = (noPlan,43,46) := by
 rw [parseT_eq]; decide +kernel
def awPar : PPlan := ⟨2,3,1,[⟨[98],7⟩,⟨[97],9⟩],[⟨0,1,2⟩],[⟨[120],[0,1]⟩],[⟨4,1,0,0,0⟩]⟩
theorem awp2 : parseT [112,114,111,116,111,99,111,108,32,112,97,116,104,32,51,59,32,102,97,105,108,117,114,101,115,32,49,59,32,110,111,100,101,32,98,32,55,59,32,110,111,100,101,32,97,32,57,59,32,108,105,110,107,32,97,32,98,32,50,59,32,100,101,115,116,32,120,32,97,116,32,97,32,98,59,32,99,104,101,99,107,32,101,113,117,97,108,32,97,32,98,32,120,59] = (awPar,0,0) := by
 rw [parseT_eq]; decide +kernel
theorem itoaC {n : Int} (h0 : 0 ≤ n) (h1 : n < 100) : Lib.itoa n = decC n.toNat := by
 rw [itoa_nat h0,decC_eq (by omega)]
theorem awp3 : printB awPar = ([112,114,111,116,111,99,111,108,32,112,97,116,104,32,51,59,10,102,97,105,108,117,114,101,115,32,49,59,10,110,111,100,101,32,98,32,55,59,10,110,111,100,101,32,97,32,57,59,10,108,105,110,107,32,98,32,97,32,50,59,10,100,101,115,116,32,120,32,97,116,32,98,32,97,59,10,99,104,101,99,107,32,101,113,117,97,108,32,97,32,98,32,120,59,10],0) := by
 unfold printB
 rw [if_pos (by decide +kernel)]
 have e : printT awPar = lineW [wdProtocol,wdPath,Lib.itoa 3] ++ lineW [wdFailures,Lib.itoa 1] ++ (lineW [wdNode,[98],Lib.itoa 7] ++ (lineW [wdNode,[97],Lib.itoa 9] ++ [])) ++ (lineW [wdLink,[98],[97],Lib.itoa 2] ++ []) ++ (lineW ([wdDest,[120],wdAt] ++ [[98],[97]]) ++ []) ++ (lineW [wdCheck,wdEqual,[97],[98],[120]] ++ []) := rfl
 rw [e,itoaC (n := 3) (by decide) (by decide),itoaC (n := 1) (by decide) (by decide),itoaC (n := 7) (by decide) (by decide),itoaC (n := 9) (by decide) (by decide),itoaC (n := 2) (by decide) (by decide)]
 decide +kernel
end Go.Bk
/-
  LEX: contracts of the reference's functions.
-/
namespace Go.Proofs.YtjhgghpeapmgdaaGreatDoor
open Go.Bk Go.Proofs

theorem kw_len : kwList.length = 13 := rfl
theorem kwB_true {l : Bytes} {k : Nat} (hk : k < 13) (h : kwList.getD k [] = l) : kwB l = true := by
  unfold kwB
  rw [decide_eq_true_eq,← h,List.getD_eq_getElem?_getD,List.getElem?_eq_getElem (by rw [kw_len]; exact hk)]
  exact List.getElem_mem _
theorem kwB_false {l : Bytes} (h : ∀ j,j < 13 → kwList.getD j [] ≠ l) : kwB l = false := by
  unfold kwB
  rw [decide_eq_false_iff_not]
  intro hm
  obtain ⟨j,hj,e⟩ := List.getElem_of_mem hm
  refine h j (by rw [kw_len] at hj; exact hj) ?_
  rw [List.getD_eq_getElem?_getD,List.getElem?_eq_getElem hj,Option.getD_some,e]
theorem kw_cell {w : World} {b : Nat} {t : TypeId} (h : w.heap[b]? = some (.cells (kwList.map fun l => Value.string (bs l)).toArray t (0,0))) {k : Nat} (hk : k < 13) : w.cell? ⟨b,0 + k * 1,none⟩ = some (.string (bs (kwList.getD k []))) := by
  refine cell_of h ?_
  rw [Nat.zero_add,Nat.mul_one]
  simp only [List.getElem?_toArray,List.getElem?_map]
  rw [List.getD_eq_getElem?_getD,List.getElem?_eq_getElem (by rw [kw_len]; exact hk)]
  rfl

def rkwL (l : Bytes) (b1 : Nat) (w1 : World) : Lp Nat where
  S := fun k => [(0,none,sv l),(3,none,.slice (some ⟨b1,0,none⟩) 13 13),(4,none,iv (k:Int))]
  J := fun k w' => w1 = w' ∧ k ≤ 13 ∧ ∀ j,j < k → kwList.getD j [] ≠ l
  M := fun k => 13 - k
set_option maxRecDepth 20000 in
theorem rKeyword_any (l : Bytes) (w : World)  :
    Does Tryz.prog 67 [sv l] w (fun v w' => v = .bool (kwB l) ∧ Ext w w') := by
 refine startZ (c := Y67) Tryz.func67 rfl (by kernel_rfl) ?_
 show H _ 18 [] _ (kAt Y67 [] []) (stz [(0,sv l)]) w
 refine Z0 6 (.bslice 37 13 [(0,sv ([112,114,111,116,111,99,111,108])),(1,sv ([118,101,99,116,111,114])),(2,sv ([112,97,116,104])),(3,sv ([102,97,105,108,117,114,101,115])),(4,sv ([110,111,100,101])),(5,sv ([108,105,110,107])),(6,sv ([100,101,115,116])),(7,sv ([97,116])),(8,sv ([99,104,101,99,107])),(9,sv ([114,101,97,99,104])),(10,sv ([119,105,116,104,105,110])),(11,sv ([119,97,121,112,111,105,110,116])),(12,sv ([101,113,117,97,108]))]) (runs_bslice (cs := kwList.map fun l => Value.string (bs l)) (e := 9) (by kernel_rfl)) ?_
 rintro _ w1 ⟨b1,rfl,hN⟩
 have hcs := hN.own
 have hX := hN.ext
 clear hN
 refine Zs 8 [] [] trivial ?_
 refine ZLoop (rkwL l b1 w1) (k' := (kEnd Y67 [1,1,0,1,0] [])) (body := (cAt Y67 [1,1,0,1,0,0])) (by kernel_rfl) 0 [0,3,4] (by kernel_rfl) (⟨rfl,by omega,fun j hj => by omega⟩) ?_
 rintro k _ ⟨rfl,hk,hp⟩
 refine Zq 8 ((k:Int) < (13 : Int)) (fun h0 => ?_) (fun h0 => ?_)
 ·refine Zs 12 [.ld (sv (kwList.getD k []))] [(0 ≤ (k:Int) ∧ (k:Int) < (13 : Int)),((some ⟨b1,0,none⟩) : Option Addr) = some ⟨b1,0,none⟩,cl w1 b1 (0 + k * 1) (sv (kwList.getD k []))] (AC (by omega) (AC rfl (A1 (kw_cell hcs (by omega))))) ?_
  refine Zq 0 ((kwList.getD k []) = l) (fun h1 => ?_) (fun h1 => ?_)
  ·exact Z1 4 (.bool true) (⟨by rw [kwB_true (by omega) h1],hX⟩)
  refine Zs 7 [] [I64 ((k + 1:Nat):Int)] (A1 (i64 (by omega))) ?_
  exact ZA 0 (rkwL l b1 w1) k (k + 1) [0,3,4] (⟨rfl,by omega,fun j hj => by by_cases e : j = k; (subst e; exact h1); exact hp j (by omega)⟩) (show 13 - (k + 1) < 13 - k by omega)
 exact Z1 5 (.bool false) (⟨by rw [kwB_false (fun j hj => hp j (by omega))],hX⟩)

end Go.Proofs.YtjhgghpeapmgdaaGreatDoor
