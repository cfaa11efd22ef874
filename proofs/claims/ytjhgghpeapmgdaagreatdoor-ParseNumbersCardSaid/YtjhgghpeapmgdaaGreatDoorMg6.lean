/-
  Texts that belong together: ParTail, ParNum.
-/
import Derived.Test.YtjhgghpeapmgdaaGreatDoorMg5
import Derived.Test.YtjhgghpeapmgdaaGreatDoorPlanNet
/-
  PARSE: a network's text with a line behind it; names that may not be.
-/
namespace Go.Proofs.YtjhgghpeapmgdaaGreatDoor
open Go.Bk Go.Proofs
def bareP (p : PPlan) : PPlan := ⟨p.proto,p.cap,0,p.nodes,[],[],[]⟩
theorem RightP.bare {p : PPlan} (h : RightP p) : RightP (bareP p) := by
 have hn : namesL (bareP p) = p.nodes.map (·.name) := by simp [namesL,bareP]
 refine ⟨h.routing,Int.le_refl _,(show (0 : Int) ≤ 4 by decide),Int.le_refl _,h.n0,h.n1,h.asn,(fun x hx => by cases hx),Nat.zero_le _,List.nodup_nil,Nat.zero_le _,Nat.zero_le _,fun x hx => h.names x ?_,?_,(fun x hx => by cases hx),fun c hc => by cases hc⟩
 ·rw [hn] at hx
  unfold namesL
  exact List.mem_append_left _ hx
 ·rw [hn]
  have := h.nnd
  unfold namesL at this
  rw [List.nodup_append] at this
  exact this.1
def q234 (q : PAd) : PAd := ⟨q.a1,q.c1,none,0,none,0,none,0,[]⟩
theorem PlanAt.bare {w : World} {p : PPlan} {q : PAd} (h : PlanAt w p q) : PlanAt w (bareP p) (q234 q) :=
 ⟨h.nodes,.inl rfl,.inl rfl,rfl,(fun x hx => by cases hx),.inl rfl,h.l1,⟨Nat.le_refl _,Nat.zero_le _⟩,⟨Nat.le_refl _,Nat.zero_le _⟩,⟨Nat.le_refl _,Nat.zero_le _⟩,fun x hx => h.names x (by
  simp only [namesL,bareP,List.map_nil,List.append_nil] at hx
  unfold namesL
  exact List.mem_append_left _ hx)⟩
theorem Pre.words : ∀ (ws : List Bytes) {s : Bytes} {want : List Tok},Pre s want → ws ≠ [] → (∀ w ∈ ws,WordOk w) → Pre (s ++ (joinW ws ++ [59])) (want ++ lineToks s.length ws)
 | [],_,_,_,h,_ => absurd rfl h
 | [w],s,want,h,_,hw => by
  have := h.wordStop (hw w (by simp))
  simpa [joinW,lineToks] using this
 | w :: v :: r,s,want,h,_,hw => by
  have h1 := h.wordBlank (hw w (by simp)) nil32
  have h2 := Pre.words (v :: r) h1 (by simp) (fun x hx => hw x (List.mem_cons_of_mem _ hx))
  simp only [lineToks]
  rw [List.append_assoc,List.singleton_append] at h2
  have e : s ++ (joinW (w :: v :: r) ++ [59]) = s ++ w ++ [32] ++ (joinW (v :: r) ++ [59]) := by simp [joinW]
  rw [e]
  simpa [List.length_append,Nat.add_assoc] using h2
theorem parse_fail {s : Bytes} {ts : List Tok} {e a : Int} (hl : lexT s = (ts,0,0)) (h : allS ⟨noPlan,ts⟩ = .error (e,a)) : parseT s = (noPlan,e,a) := by
 unfold parseT parseToks
 rw [hl]
 simp only [if_true]
 rw [h]
section
variable {q : PPlan} {r : List Tok} {n : Bytes} {a : Int}
end
end Go.Proofs.YtjhgghpeapmgdaaGreatDoor
/-
  PARSE: a number beyond is told at its place, whatever stands behind it.
-/
namespace Go.Proofs.YtjhgghpeapmgdaaGreatDoor
open Go.Bk Go.Proofs
def wordToks : Nat → List Bytes → List Tok
  | _,[] => []
  | a,w :: r => wt w a :: wordToks (a + w.length + 1) r
theorem Pre.wordsBlank : ∀ (ws : List Bytes) {s : Bytes} {want : List Tok},Pre s want → ws ≠ [] → (∀ w ∈ ws,WordOk w) → Pre (s ++ (joinW ws ++ [32])) (want ++ wordToks s.length ws)
  | [],_,_,_,h,_ => absurd rfl h
  | [w],s,want,h,_,hw => by
    have := h.wordBlank (hw w (by simp)) nil32
    simpa [joinW,wordToks] using this
  | w :: v :: r,s,want,h,_,hw => by
    have h1 := h.wordBlank (hw w (by simp)) nil32
    have h2 := Pre.wordsBlank (v :: r) h1 (by simp) (fun x hx => hw x (List.mem_cons_of_mem _ hx))
    rw [wordToks,show want ++ wt w s.length :: wordToks (s.length + w.length + 1) (v :: r) = (want ++ [wt w s.length]) ++ wordToks (s ++ w ++ [32]).length (v :: r) by simp [Nat.add_assoc]]
    have e : s ++ (joinW (w :: v :: r) ++ [32]) = s ++ w ++ [32] ++ (joinW (v :: r) ++ [32]) := by simp [joinW]
    rw [e]
    exact h2
theorem Pre.rest {s : Bytes} {want : List Tok} (h : Pre s want) {r : Bytes} (hl : (s ++ r).length ≤ 10000) (h0 : (lexT (s ++ r)).2.1 = 0) : ∃ ts,lexT (s ++ r) = (want ++ ts,0,0) := by
  have h1 := h r
  have e : lexT (s ++ r) = comb want (lexR (r.length + 1) r s.length) := by
    unfold lexT
    rw [if_neg (by omega),← comb_nil (lexR_form ((s ++ r).length + 1) (s ++ r) 0),h1]
  rw [e] at h0 ⊢
  unfold comb at h0 ⊢
  split at h0
  · rename_i hz
    rw [if_pos hz]
    exact ⟨_,rfl⟩
  · rename_i hz
    exact absurd h0 hz
theorem parse_wrong {s : Bytes} (h : ¬ (lexT s).2.1 = 0) : parseT s = (noPlan,(lexT s).2.1,(lexT s).2.2) := by
  unfold parseT parseToks
  rw [if_neg h]
def newW : Bytes := [110,101,119]
def bigList : List Bytes := [[49,55],[57,57],[54,53,53,51,53]]
def nuWords (a b : Bytes) (g : Nat) : List (List Bytes) := [[wdNode,newW,[48]],[wdLink,a,b,[48]],[wdLink,a,b,[49,54]],[wdLink,b,a,bigList.getD g []]]
def nuList (a b : Bytes) (g : Nat) : List Bytes := [[110,111,100,101,32,110,101,119,32,48],((([108,105,110,107,32] ++ a) ++ [32]) ++ b) ++ [32,48],((([108,105,110,107,32] ++ a) ++ [32]) ++ b) ++ [32,49,54],(((([108,105,110,107,32] ++ b) ++ [32]) ++ a) ++ [32]) ++ bigList.getD g []]
def nuAt (a b : Bytes) : List Int := [9,((7 + a.length + b.length : Nat) : Int),((7 + a.length + b.length : Nat) : Int),((7 + a.length + b.length : Nat) : Int)]
theorem nu_words {a b : Bytes} {g k : Nat} (hk : k < 4) : (nuList a b g).getD k [] = joinW ((nuWords a b g).getD k []) := by
  have : k = 0 ∨ k = 1 ∨ k = 2 ∨ k = 3 := by omega
  rcases this with rfl | rfl | rfl | rfl <;> simp [nuList,nuWords,joinW,wdNode,wdLink,newW]
theorem w_0 : Lib.itoa 0 = [48] := by rw [itoa_nat (by omega),decC_eq (by decide)]; rfl
theorem w_16 : Lib.itoa 16 = [49,54] := by rw [itoa_nat (by omega),decC_eq (by decide)]; rfl
theorem w_big {g : Nat} (hg : g < 3) : ∃ n : Int,15 < n ∧ n ≤ 65535 ∧ Lib.itoa n = bigList.getD g [] := by
  have : g = 0 ∨ g = 1 ∨ g = 2 := by omega
  rcases this with rfl | rfl | rfl
  · exact ⟨17,by omega,by omega,by rw [itoa_nat (by omega),decC_eq (by decide)]; rfl⟩
  · exact ⟨99,by omega,by omega,by rw [itoa_nat (by omega),decC_eq (by decide)]; rfl⟩
  · exact ⟨65535,by omega,by omega,by rw [itoa_nat (by omega),show Int.toNat 65535 = 65535 from rfl,Lib.decDigits,dif_neg (by decide),Lib.decDigits,dif_neg (by decide),Lib.decDigits,dif_neg (by decide),decC_eq (by decide)]; rfl⟩
theorem name_new : nameB newW = true := by decide
theorem nu_ok {a b : Bytes} (ha : nameB a = true) (hb : nameB b = true) {g k : Nat} (hg : g < 3) (hk : k < 4) : (nuWords a b g).getD k [] ≠ [] ∧ ∀ w ∈ (nuWords a b g).getD k [],WordOk w := by
  obtain ⟨n,n0,n1,hn⟩ := w_big hg
  have hw : WordOk (bigList.getD g []) := hn ▸ .num (by omega) n1
  have h0 : WordOk ([48] : Bytes) := w_0 ▸ .num (by omega) (by omega)
  have h16 : WordOk ([49,54] : Bytes) := w_16 ▸ .num (by omega) (by omega)
  have : k = 0 ∨ k = 1 ∨ k = 2 ∨ k = 3 := by omega
  rcases this with rfl | rfl | rfl | rfl <;> refine ⟨by simp [nuWords],fun w hw' => ?_⟩ <;> simp only [nuWords,List.getD_cons_zero,List.getD_cons_succ,List.mem_cons,List.not_mem_nil,or_false] at hw'
  · rcases hw' with rfl | rfl | rfl <;> first | exact .kw k_node | exact .name name_new | exact h0
  · rcases hw' with rfl | rfl | rfl | rfl <;> first | exact .kw k_link | exact .name ha | exact .name hb | exact h0
  · rcases hw' with rfl | rfl | rfl | rfl <;> first | exact .kw k_link | exact .name ha | exact .name hb | exact h16
  · rcases hw' with rfl | rfl | rfl | rfl <;> first | exact .kw k_link | exact .name ha | exact .name hb | exact hw
section
variable {q : PPlan} {r : List Tok} {a : Nat}
theorem nodeS_big {w : Bytes} {n : Int} (h1 : q.nodes.length < 12) (h2 : nameB w = true) (h3 : nodeIx q w < 0) (h4 : destIx q w < 0) (h0 : 0 ≤ n) (hn : n ≤ 65535) (hb : n < 1) :
    nodeS ⟨q,wordToks a [wdNode,w,Lib.itoa n] ++ r⟩ = .error (42,((a + (6 + w.length) : Nat) : Int)) := by
  unfold nodeS
  simp only [wordToks,List.cons_append,List.nil_append,wt_kw k_node,wt_name h2]
  rw [headS_hit,if_neg (by omega),andE_ok,freshS_hit,if_neg (by rw [name_kw h2]; simp only [Bool.false_eq_true,false_or]; omega),andE_ok,wt_num h0 hn,numberS_hit,if_pos (by omega),andE_error]
  simp only [Except.error.injEq,Prod.mk.injEq,true_and,wdNode,List.length_cons,List.length_nil]
  omega
theorem linkS_big {u v : Bytes} {n i j : Int} (h1 : q.links = []) (hu : nameB u = true) (hv : nameB v = true) (iu : nodeIx q u = i) (iv_ : nodeIx q v = j) (i0 : 0 ≤ i) (j0 : 0 ≤ j) (hij : i ≠ j) (h0 : 0 ≤ n) (hn : n ≤ 65535) (hb : n < 1 ∨ 15 < n) :
    linkS ⟨q,wordToks a [wdLink,u,v,Lib.itoa n] ++ r⟩ = .error (42,((a + (7 + u.length + v.length) : Nat) : Int)) := by
  unfold linkS
  simp only [wordToks,List.cons_append,List.nil_append,wt_kw k_link,wt_name hu,wt_name hv]
  rw [headS_hit,if_neg (by rw [h1]; decide),andE_ok,knownS_hit,if_neg (by omega),andE_ok,knownS_hit,if_neg (by omega),andE_ok]
  simp only
  rw [if_neg (by rw [iu,iv_]; unfold hasLink; rw [h1]; simp [hij]),wt_num h0 hn,numberS_hit,if_pos (by omega),andE_error]
  simp only [Except.error.injEq,Prod.mk.injEq,true_and,wdLink,List.length_cons,List.length_nil]
  omega
theorem isS_words {wd : Bytes} (h : kwB wd = true) (q : PPlan) (l : List Bytes) (a : Nat) (r : List Tok) : isS wd ⟨q,wordToks a (wd :: l) ++ r⟩ = true := by
  rw [wordToks,List.cons_append,wt_kw h]; exact isS_hit
theorem NotAt.words {wd v : Bytes} (h : kwB v = true) (hne : v ≠ wd) (l : List Bytes) (a : Nat) (r : List Tok) : NotAt wd (wordToks a (v :: l) ++ r) := by
  intro q
  rw [wordToks,List.cons_append,wt_kw h]; exact isS_other hne
end
theorem numbers_law {p : PPlan} (hR : RightP p) (hl : p.links = []) (hd : p.dests = []) (hc : p.checks = []) (h12 : p.nodes.length < 12) {a b : Bytes} {i j : Int} (ha : nameB a = true) (hb : nameB b = true) (ia : nodeIx p a = i) (jb : nodeIx p b = j) (i0 : 0 ≤ i) (j0 : 0 ≤ j) (hij : i ≠ j)
    (hnew : nodeIx p newW < 0) {g k : Nat} (hg : g < 3) (hk : k < 4) (more : Bytes) (h0 : (lexT ((printT p ++ (nuList a b g).getD k []) ++ [32] ++ more)).2.1 = 0) :
    parseT ((printT p ++ (nuList a b g).getD k []) ++ [32] ++ more) = (noPlan,42,(((printT p).length : Nat) : Int) + (nuAt a b).getD k 0) := by
  have hw := nu_ok ha hb hg hk
  rw [nu_words hk] at h0 ⊢
  have e : (printT p ++ joinW ((nuWords a b g).getD k [])) ++ [32] ++ more = printT p ++ (joinW ((nuWords a b g).getD k []) ++ [32]) ++ more := by simp
  rw [e] at h0 ⊢
  have hlen : (printT p ++ (joinW ((nuWords a b g).getD k []) ++ [32]) ++ more).length ≤ 10000 := by
    apply Classical.byContradiction
    intro hn
    unfold lexT at h0
    rw [if_pos (by omega)] at h0
    cases h0
  have hP : Pre _ _ := Pre.wordsBlank _ (pre_print hR) hw.1 hw.2
  obtain ⟨ts,hts⟩ := Pre.rest hP hlen h0
  rw [List.append_assoc (linesToks 0 (linesW p))] at hts
  refine parse_fail hts ?_
  have hlw : linesW p = lines1 p := by unfold linesW lines1; rw [hl,hd,hc]; simp
  have hp1 : P1 p = p := by cases p; simp only at hl hd hc; subst hl hd hc; rfl
  have hdn : destIx p newW < 0 := idxI_neg (fun y hy => by rw [hd] at hy; cases hy)
  obtain ⟨n,n0,n1,hn⟩ := w_big hg
  rw [hlw,allS_1 hR,hp1]
  have : k = 0 ∨ k = 1 ∨ k = 2 ∨ k = 3 := by omega
  rcases this with rfl | rfl | rfl | rfl <;> simp only [nuWords,nuAt,List.getD_cons_zero,List.getD_cons_succ,← w_0,← w_16,← hn]
  · unfold nodesE
    rw [manyS_step nodeS_lt,if_pos (isS_words k_node _ _ _ _),nodeS_big h12 name_new hnew hdn (by omega) (by omega) (by omega)]
    simp only [andE_error,newW,List.length_cons,List.length_nil,Except.error.injEq,Prod.mk.injEq,true_and]
    omega
  · rw [nodesE_skip (NotAt.words k_link (by decide) _ _ _)]
    unfold linksE
    rw [manyS_step linkS_lt,if_pos (isS_words k_link _ _ _ _),linkS_big hl ha hb ia jb i0 j0 hij (by omega) (by omega) (by omega)]
    simp only [andE_error,Except.error.injEq,Prod.mk.injEq,true_and]
    omega
  · rw [nodesE_skip (NotAt.words k_link (by decide) _ _ _)]
    unfold linksE
    rw [manyS_step linkS_lt,if_pos (isS_words k_link _ _ _ _),linkS_big hl ha hb ia jb i0 j0 hij (by omega) (by omega) (by omega)]
    simp only [andE_error,Except.error.injEq,Prod.mk.injEq,true_and]
    omega
  · rw [nodesE_skip (NotAt.words k_link (by decide) _ _ _)]
    unfold linksE
    rw [manyS_step linkS_lt,if_pos (isS_words k_link _ _ _ _),linkS_big hl hb ha jb ia j0 i0 (Ne.symm hij) (by omega) n1 (by omega)]
    simp only [andE_error,Except.error.injEq,Prod.mk.injEq,true_and]
    omega
end Go.Proofs.YtjhgghpeapmgdaaGreatDoor
