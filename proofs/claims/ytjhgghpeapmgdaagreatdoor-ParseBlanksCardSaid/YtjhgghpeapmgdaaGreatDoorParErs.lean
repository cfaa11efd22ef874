/-
  PARSE, PLAIN: blanks and comments make no difference, nor which of a link's nodes stands first. No program here.
-/
import Derived.Test.YtjhgghpeapmgdaaGreatDoorParLines
import Derived.Test.YtjhgghpeapmgdaaGreatDoorMg4
namespace Go.Bk
open Go

def er (t : Tok) : Tok := { t with at' := 0 }
theorem er_kind {t u : Tok} (h : er t = er u) : t.kind = u.kind := by injection h
theorem er_text {t u : Tok} (h : er t = er u) : t.text = u.text := by injection h
theorem er_n {t u : Tok} (h : er t = er u) : t.n = u.n := by injection h
def Eu (s c : PSt) : Prop := s.p = c.p ∧ s.ts.map er = c.ts.map er
def Ev {α : Type} (x y : α × PSt) : Prop := x.1 = y.1 ∧ Eu x.2 y.2
def Et (x y : Tok × PSt) : Prop := er x.1 = er y.1 ∧ Eu x.2 y.2
def Es {α : Type} (R : α → α → Prop) (x y : PE α) : Prop := ∀ a,x = .ok a → ∃ b,y = .ok b ∧ R a b
theorem Es.ok {α : Type} {R : α → α → Prop} {a b : α} (h : R a b) : Es R (.ok a) (.ok b) := fun c hc => by cases hc; exact ⟨b,rfl,h⟩
theorem Es.err {α : Type} {R : α → α → Prop} {e : Int × Int} {y : PE α} : Es R (.error e) y := fun c hc => by cases hc
theorem Es.and {α β : Type} {R : α → α → Prop} {R' : β → β → Prop} {x y : PE α} {f f' : α → PE β} (h : Es R x y) (hf : ∀ a b,R a b → Es R' (f a) (f' b)) : Es R' (andE x f) (andE y f') := by
 intro c hc
 obtain ⟨a,h1,h2⟩ := andE_some hc
 obtain ⟨b,h3,h4⟩ := h a h1
 obtain ⟨d,h5,h6⟩ := hf a b h4 c h2
 exact ⟨d,by rw [h3]; exact h5,h6⟩
section
variable {s c : PSt}
theorem Eu.hd (h : Eu s c) : er s.hd = er c.hd := by
 have h2 := h.2
 unfold PSt.hd
 cases hs : s.ts with
 | nil =>
  rw [hs] at h2
  have : c.ts = [] := by simpa using h2.symm
  rw [this]
 | cons t r =>
  cases hc : c.ts with
  | nil => rw [hs,hc] at h2; cases h2
  | cons u v =>
   rw [hs,hc] at h2
   exact (List.cons.inj h2).1
theorem Eu.drop (h : Eu s c) : Eu ⟨s.p,s.ts.drop 1⟩ ⟨c.p,c.ts.drop 1⟩ := ⟨h.1,by simp only [List.map_drop,h.2]⟩
theorem Eu.take (h : Eu s c) (k : Int) : Es Et (takeS k s) (takeS k c) := by
 unfold takeS
 rw [er_kind h.hd]
 split
 ·refine Es.ok ⟨h.hd,?_⟩
  simp only
  split
  ·exact h
  ·exact h.drop
 ·exact Es.err
theorem Eu.isS (h : Eu s c) (wd : Bytes) : isS wd s = isS wd c := by
 unfold Go.Bk.isS
 rw [er_kind h.hd,er_text h.hd]
theorem Eu.word (h : Eu s c) (wd : Bytes) : Es Et (wordS wd s) (wordS wd c) := by
 unfold wordS
 rw [h.isS]
 split
 ·exact h.take 1
 ·exact Es.err
theorem Eu.head (h : Eu s c) (wd : Bytes) (a b : Int) : Es Eu (headS wd a b s) (headS wd a b c) := by
 unfold headS
 refine (h.word wd).and fun x y hx => ?_
 split
 ·exact Es.err
 ·exact Es.ok hx.2
theorem Eu.number (h : Eu s c) (a b : Int) : Es Ev (numberS a b s) (numberS a b c) := by
 unfold numberS
 refine (h.take 2).and fun x y hx => ?_
 rw [er_n hx.1]
 split
 ·exact Es.err
 ·exact Es.ok ⟨rfl,hx.2⟩
theorem Eu.fresh (h : Eu s c) : Es Ev (freshS s) (freshS c) := by
 unfold freshS
 refine (h.take 1).and fun x y hx => ?_
 rw [er_text hx.1,hx.2.1]
 split
 ·exact Es.err
 ·exact Es.ok ⟨rfl,hx.2⟩
theorem Eu.known (h : Eu s c) (f : PPlan → Bytes → Int) : Es (fun x y => x.1.1 = y.1.1 ∧ Eu x.2 y.2) (knownS f s) (knownS f c) := by
 unfold knownS
 refine (h.take 1).and fun x y hx => ?_
 rw [er_text hx.1,hx.2.1]
 split
 ·exact Es.err
 ·exact Es.ok ⟨rfl,hx.2⟩
theorem Eu.kind (h : Eu s c) : Es Ev (kindS s) (kindS c) := by
 unfold kindS
 refine (h.take 1).and fun x y hx => ?_
 rw [er_text hx.1]
 split
 ·exact Es.err
 ·exact Es.ok ⟨rfl,hx.2⟩
theorem Eu.stop (h : Eu s c) : Es Eu (stopS s) (stopS c) := by
 unfold stopS
 exact (h.take 3).and fun x y hx => Es.ok hx.2
theorem Eu.with (h : Eu s c) (g : PPlan → PPlan) : Eu ⟨g s.p,s.ts⟩ ⟨g c.p,c.ts⟩ := ⟨by show g s.p = g c.p; rw [h.1],h.2⟩
theorem Eu.protocol (h : Eu s c) : Es Eu (protocolS s) (protocolS c) := by
 unfold protocolS
 refine (h.word _).and fun x y hx => ?_
 rw [hx.2.isS]
 split
 ·refine (hx.2.word _).and fun x y hx => (hx.2.number _ _).and fun x y hx => ?_
  have := hx.2.with (fun p => { p with proto := 2,cap := x.1 })
  rw [hx.1] at this ⊢
  exact this.stop
 ·refine (hx.2.word _).and fun x y hx => ?_
  exact (hx.2.with (fun p => { p with proto := 1 })).stop
theorem Eu.failures (h : Eu s c) : Es (fun x y => Eu x.2 y.2) (failuresS s) (failuresS c) := by
 unfold failuresS
 refine (h.word _).and fun x y hx => (hx.2.number _ _).and fun u v hu => ?_
 have := hu.2.with (fun p => { p with k := u.1 })
 rw [hu.1] at this ⊢
 exact this.stop.and fun z z' hz => Es.ok hz
theorem Eu.node (h : Eu s c) : Es Eu (nodeS s) (nodeS c) := by
 unfold nodeS
 rw [h.1]
 refine (h.head _ _ _).and fun x y hx => hx.fresh.and fun a b ha => (ha.2.number _ _).and fun d e hd => hd.2.stop.and fun z z' hz => ?_
 rw [ha.1,hd.1]
 exact Es.ok (hz.with (fun p => addNode p _))
theorem Eu.link (h : Eu s c) : Es Eu (linkS s) (linkS c) := by
 unfold linkS
 rw [h.1]
 refine (h.head _ _ _).and fun x y hx => (hx.known _).and fun a b ha => (ha.2.known _).and fun d e hd => ?_
 rw [ha.1,hd.1,hd.2.1]
 split
 ·exact Es.err
 ·refine (hd.2.number _ _).and fun u v hu => hu.2.stop.and fun z z' hz => ?_
  rw [hu.1]
  exact Es.ok (hz.with (fun p => addLink p _))
end
theorem Eu.origins : ∀ (m : Nat) (x y : List Int × PSt),x.2.ts.length ≤ m → Ev x y → Es Ev (originsS x) (originsS y)
 | m,x,y,hm,h => by
  have hs : Es Ev (origS x) (origS y) := by
   unfold origS
   refine (h.2.known _).and fun a b ha => ?_
   rw [ha.1,h.1]
   split
   ·exact Es.err
   ·exact Es.ok ⟨rfl,ha.2⟩
  have hc : origC x = origC y := by
   unfold origC
   rw [h.1,er_kind h.2.hd]
  rw [originsS_step x,originsS_step y,hc]
  split
  ·intro z hz
   obtain ⟨a,h1,h2⟩ := andE_some hz
   obtain ⟨b,h3,h4⟩ := hs a h1
   have hl := origS_lt _ _ h1
   cases m with
   | zero => omega
   | succ m =>
    obtain ⟨d,h5,h6⟩ := Eu.origins m a b (by omega) h4 z h2
    exact ⟨d,by rw [h3]; exact h5,h6⟩
  ·exact Es.ok h
theorem Eu.many {wd : Bytes} {f : PSt → PE PSt} (hf : ∀ s s' : PSt,f s = .ok s' → s'.ts.length < s.ts.length) (hE : ∀ s c,Eu s c → Es Eu (f s) (f c)) : ∀ (m : Nat) (s c : PSt),s.ts.length ≤ m → Eu s c → Es Eu (manyS wd f s) (manyS wd f c)
 | m,s,c,hm,h => by
  rw [manyS_step hf s,manyS_step hf c,h.isS wd]
  split
  ·intro z hz
   obtain ⟨a,h1,h2⟩ := andE_some hz
   obtain ⟨b,h3,h4⟩ := hE s c h a h1
   have hl := hf _ _ h1
   cases m with
   | zero => omega
   | succ m =>
    obtain ⟨d,h5,h6⟩ := Eu.many hf hE m a b (by omega) h4 z h2
    exact ⟨d,by rw [h3]; exact h5,h6⟩
  ·exact Es.ok h
section
variable {s c : PSt}
theorem Eu.dest (h : Eu s c) : Es Eu (destS s) (destS c) := by
 unfold destS
 rw [h.1]
 refine (h.head _ _ _).and fun x y hx => hx.fresh.and fun a b ha => (ha.2.word _).and fun d e hd => (Eu.origins _ ([],d.2) ([],e.2) (Nat.le_refl _) ⟨rfl,hd.2⟩).and fun u v hu => hu.2.stop.and fun z z' hz => ?_
 rw [ha.1,hu.1]
 exact Es.ok (hz.with (fun p => addDest p _))
theorem Eu.aNode (h : Eu s c) : Es Ev (aNodeS s) (aNodeS c) := by
 unfold aNodeS
 refine (h.known _).and fun x y hx => ?_
 rw [hx.1]
 exact Es.ok ⟨rfl,hx.2⟩
theorem Eu.aDest (h : Eu s c) : Es Ev (aDestS s) (aDestS c) := by
 unfold aDestS
 refine (h.known _).and fun x y hx => ?_
 rw [hx.1]
 exact Es.ok ⟨rfl,hx.2⟩
theorem Eu.other (h : Eu s c) (k : Int) : Es Ev (otherS k s) (otherS k c) := by
 unfold otherS
 split
 ·exact h.aNode
 ·exact Es.ok ⟨rfl,h⟩
theorem Eu.rest (h : Eu s c) (k o : Int) : Es Ev (restS k o s) (restS k o c) := by
 unfold restS
 split
 ·refine (h.number _ _).and fun x y hx => ?_
  rw [hx.1]
  exact Es.ok ⟨rfl,hx.2⟩
 ·split
  ·refine h.aNode.and fun x y hx => ?_
   rw [hx.1]
   exact Es.ok ⟨rfl,hx.2⟩
  ·exact Es.ok ⟨rfl,h⟩
theorem Eu.check (h : Eu s c) : Es Eu (checkS s) (checkS c) := by
 unfold checkS
 rw [h.1]
 refine (h.head _ _ _).and fun x y hx => hx.kind.and fun k k' hk => hk.2.aNode.and fun a a' ha => ?_
 rw [hk.1]
 refine (ha.2.other _).and fun o o' ho => ho.2.aDest.and fun d d' hd => ?_
 rw [ho.1]
 refine (hd.2.rest _ _).and fun r r' hr => hr.2.stop.and fun z z' hz => ?_
 rw [ha.1,hd.1,hr.1]
 exact Es.ok (hz.with (fun p => addCheck p _))
theorem Eu.all (h : Eu s c) : Es Eu (allS s) (allS c) := by
 unfold allS
 refine h.protocol.and fun s c h => h.failures.and fun k k' h => h.node.and fun s c h => (Eu.many nodeS_lt (fun _ _ h => h.node) _ s c (Nat.le_refl _) h).and fun s c h => (Eu.many linkS_lt (fun _ _ h => h.link) _ s c (Nat.le_refl _) h).and fun s c h =>
  (Eu.many destS_lt (fun _ _ h => h.dest) _ s c (Nat.le_refl _) h).and fun s c h => (Eu.many checkS_lt (fun _ _ h => h.check) _ s c (Nat.le_refl _) h).and fun s c h => (h.take 4).and fun r r' hr => ?_
 rw [hr.2.1]
 split
 ·exact Es.err
 ·exact Es.ok hr.2
end
def linkT (p : PPlan) (x : PLink) : List Bytes := [wdLink,nmN p x.b,nmN p x.a,Lib.itoa x.cost]
theorem linkS_turn {q : PPlan} {r : List Tok} {a : Nat} {x : PLink} {na nb : Bytes} (h1 : q.links.length < 16) (ha : nameB na = true) (hb : nameB nb = true) (ia : nodeIx q na = x.a) (ib : nodeIx q nb = x.b) (h0 : 0 ≤ x.a) (hab : x.a < x.b) (hn : hasLink q x.a x.b = false) (h5 : 1 ≤ x.cost ∧ x.cost ≤ 15) :
  linkS ⟨q,lineToks a [wdLink,nb,na,Lib.itoa x.cost] ++ r⟩ = .ok ⟨addLink q x,r⟩ := by
 unfold linkS
 simp only [lineToks,List.cons_append,List.nil_append,wt_kw k_link]
 rw [headS_hit,if_neg (by omega)]
 simp only [andE_ok,wt_name ha,wt_name hb]
 rw [knownS_hit,if_neg (by rw [ib]; omega)]
 simp only [andE_ok]
 rw [knownS_hit,if_neg (by rw [ia]; omega)]
 simp only [andE_ok,ia,ib,show min x.b x.a = x.a by omega,show max x.b x.a = x.b by omega,hn]
 rw [if_neg (by simp only [Bool.false_eq_true,or_false]; omega)]
 rw [wt_num (by omega) (by omega),numberS_hit,if_neg (by omega)]
 simp only [andE_ok,stopS_hit]
theorem links_turn {p : PPlan} (hR : RightP p) (q : PPlan) (x : PLink) (xs : List PLink) (a : Nat) (r : List Tok) (h : LinksOkP p q (x :: xs)) : linkS ⟨q,lineToks a (linkT p x) ++ r⟩ = .ok ⟨addLink q x,r⟩ ∧ LinksOkP p (addLink q x) xs := by
 have h2 := (links_step hR q x xs a r h).2
 have hl := h.len
 simp only [List.length_cons] at hl
 have hx := h.ok x (by simp)
 refine ⟨linkS_turn (by omega) (nmN_name hR hx.1 (by omega)) (nmN_name hR (by omega) hx.2.2.1) (node_place hR h.nodes hx.1 (by omega)) (node_place hR h.nodes (by omega) hx.2.2.1) hx.1 hx.2.1 ?_ hx.2.2.2,h2⟩
 unfold hasLink
 rw [List.any_eq_false]
 intro y hy
 have := h.nd
 unfold linkKeys at this
 rw [List.map_append,List.nodup_append] at this
 have hne := this.2.2 _ (List.mem_map_of_mem hy) (x.a,x.b) (by simp)
 simp only [ne_eq,Prod.mk.injEq,not_and] at hne
 simp only [Bool.and_eq_true,decide_eq_true_eq,not_and]
 exact fun e1 e2 => hne e1.symm e2.symm
theorem linksE_turn {p : PPlan} (hR : RightP p) (at' : Int) (a : Nat) (T : List Tok) : linksE at' ⟨P1 p,linesToks a (p.links.map (linkT p)) ++ T⟩ = linksE at' ⟨P2 p,T⟩ := by
 unfold linksE
 rw [manyS_lines linkS_lt (linkT p) addLink (LinksOkP p) (links_turn hR) (fun q x a r => isS_line k_link q _ a r) p.links (P1 p) a T ⟨rfl,by simpa [P1] using hR.l1,hR.link,by simpa [P1] using hR.lnd⟩,foldl_link]
 rfl
theorem turn_first (p : PPlan) : ∀ l ∈ p.links.map (linkT p),∃ l',l = wdLink :: l' := by
 intro l hl
 obtain ⟨x,_,rfl⟩ := List.mem_map.1 hl
 exact ⟨_,rfl⟩
def linesT (p : PPlan) : List (List Bytes) := lines1 p ++ (p.links.map (linkT p) ++ (p.dests.map (destW p) ++ p.checks.map (checkW p)))
theorem allS_turn {p : PPlan} (hR : RightP p) (T : List Tok) (h1 : NotAt wdNode T) (h2 : NotAt wdLink T) (h3 : NotAt wdDest T) : allS ⟨noPlan,linesToks 0 (linesT p) ++ T⟩ = checksE (kAt4 p) ⟨p,T⟩ := by
 rw [linesT,linesToks_app,List.append_assoc,allS_1 hR]
 generalize 0 + ((lines1 p).flatMap lineW).length = a
 rw [linesToks_app,List.append_assoc,linesToks_app,List.append_assoc]
 generalize a + ((p.links.map (linkT p)).flatMap lineW).length = b
 generalize b + ((p.dests.map (destW p)).flatMap lineW).length = c
 have c1 : ∀ wd,wdCheck ≠ wd → NotAt wd T → NotAt wd (linesToks c (p.checks.map (checkW p)) ++ T) := fun wd hne h => NotAt.lines k_check hne (checks_first p) c h
 have d1 : ∀ wd,wdDest ≠ wd → wdCheck ≠ wd → NotAt wd T → NotAt wd (linesToks b (p.dests.map (destW p)) ++ (linesToks c (p.checks.map (checkW p)) ++ T)) := fun wd hne hne2 h => NotAt.lines k_dest hne (dests_first p) b (c1 wd hne2 h)
 rw [nodesE_skip (NotAt.lines k_link (by decide) (turn_first p) a (d1 wdNode (by decide) (by decide) h1)),linksE_turn hR,linksE_skip (d1 wdLink (by decide) (by decide) h2),destsE_lines hR,destsE_skip (c1 wdDest (by decide) h3),checksE_lines hR]
def lineF (ws : List Bytes) : List Bytes := ws ++ [[59]]
def flatF (ls : List (List Bytes)) : List Bytes := ls.flatMap lineF
def tokOf (w : Bytes) : Tok := if w = [59] then ⟨3,[59],0,0⟩ else wtok w
theorem WordOk.ne {w : Bytes} (h : WordOk w) : w ≠ [59] := by
 rintro rfl
 have h1 := h.word.first [] (fun h => absurd rfl h)
 have h2 := stop_word.first [] (fun h => absurd rfl h)
 rw [h1] at h2
 have := congrArg Tok.kind (Prod.mk.inj h2).1
 unfold wtok at this
 split at this <;> cases this
theorem tokOf_word {w : Bytes} (h : WordOk w ∨ w = [59]) : Word w (tokOf w) := by
 rcases h with h | rfl
 ·unfold tokOf
  rw [if_neg h.ne]
  exact h.word
 ·exact stop_word
theorem er_wt (w : Bytes) (a : Nat) : er (wt w a) = wtok w := by
 unfold er wt wtok
 split <;> rfl
theorem er_tokOf (w : Bytes) (a : Int) : er { tokOf w with at' := a } = tokOf w := by
 unfold er tokOf wtok
 split
 ·rfl
 ·split <;> rfl
theorem wt_text (w : Bytes) (a : Nat) : (wt w a).text = w := by
 unfold wt wtok
 split <;> rfl
theorem lineToks_er : ∀ (ws : List Bytes) (a : Nat),ws ≠ [] → (∀ w ∈ ws,WordOk w) → (lineToks a ws).map er = (lineF ws).map tokOf
 | [],_,h,_ => absurd rfl h
 | [w],a,_,hw => by
  have h := (hw w (by simp)).ne
  simp only [lineToks,lineF,List.map_cons,List.map_nil,List.cons_append,List.nil_append,er_wt,tokOf,if_neg h,if_true]
  rfl
 | w :: v :: r,a,_,hw => by
  have h := (hw w (by simp)).ne
  have ih := lineToks_er (v :: r) (a + w.length + 1) (by simp) (fun x hx => hw x (List.mem_cons_of_mem _ hx))
  rw [lineToks,List.map_cons,ih,er_wt]
  simp only [lineF,List.cons_append,List.map_cons,tokOf,if_neg h]
theorem lineToks_text : ∀ (ws : List Bytes) (a : Nat),ws ≠ [] → (lineToks a ws).map (·.text) = lineF ws
 | [],_,h => absurd rfl h
 | [w],a,_ => by
  simp only [lineToks,lineF,List.map_cons,List.map_nil,List.cons_append,List.nil_append,wt_text]
  rfl
 | w :: v :: r,a,_ => by
  have ih := lineToks_text (v :: r) (a + w.length + 1) (by simp)
  rw [lineToks,List.map_cons,ih,wt_text]
  simp [lineF]
theorem linesToks_er : ∀ (ls : List (List Bytes)) (a : Nat),(∀ l ∈ ls,l ≠ [] ∧ ∀ w ∈ l,WordOk w) → (linesToks a ls).map er = (flatF ls).map tokOf
 | [],_,_ => rfl
 | l :: ls,a,h => by
  rw [linesToks,List.map_append,lineToks_er l a (h l (by simp)).1 (h l (by simp)).2,linesToks_er ls _ (fun x hx => h x (by simp [hx]))]
  simp [flatF]
theorem linesToks_text : ∀ (ls : List (List Bytes)) (a : Nat),(∀ l ∈ ls,l ≠ []) → (linesToks a ls).map (·.text) = flatF ls
 | [],_,_ => rfl
 | l :: ls,a,h => by
  rw [linesToks,List.map_append,lineToks_text l a (h l (by simp)),linesToks_text ls _ (fun x hx => h x (by simp [hx]))]
  simp [flatF]
def turnW (W : List Bytes) (i : Nat) : Bytes := if 1 < i ∧ W.getD (i - 2) [] = wdLink then W.getD (i - 1) [] else if 0 < i ∧ i + 1 < W.length ∧ W.getD (i - 1) [] = wdLink then W.getD (i + 1) [] else W.getD i []
def swc (p2 p1 : Bytes) : List Bytes → List Bytes
 | [] => []
 | w :: r => (if p2 = wdLink then p1 else if p1 = wdLink ∧ r ≠ [] then r.getD 0 [] else w) :: swc p1 w r
theorem swc_len : ∀ (W : List Bytes) (p2 p1 : Bytes),(swc p2 p1 W).length = W.length
 | [],_,_ => rfl
 | w :: r,p2,p1 => by rw [swc,List.length_cons,List.length_cons,swc_len r]
theorem turnW_cons (x : Bytes) (W : List Bytes) {i : Nat} (h : 2 ≤ i) : turnW (x :: W) (i + 1) = turnW W i := by
 obtain ⟨j,rfl⟩ : ∃ j,i = j + 2 := ⟨i - 2,by omega⟩
 have e1 : j + 2 + 1 - 2 = j + 1 := by omega
 have e2 : j + 2 + 1 - 1 = j + 2 := by omega
 have e3 : j + 2 - 2 = j := by omega
 have e4 : j + 2 - 1 = j + 1 := by omega
 unfold turnW
 rw [e1,e2,e3,e4]
 simp only [List.getD_cons_succ,List.length_cons,show (1 < j + 2 + 1) = True by simp,show (1 < j + 2) = True by simp,show (0 < j + 2 + 1) = True by simp,show (0 < j + 2) = True by simp,true_and,Nat.add_lt_add_iff_right]
theorem swc_get : ∀ (W : List Bytes) (p2 p1 : Bytes) (i : Nat),i < W.length → (swc p2 p1 W).getD i [] = turnW (p2 :: p1 :: W) (i + 2)
 | [],_,_,_,h => absurd h (Nat.not_lt_zero _)
 | w :: r,p2,p1,0,_ => by
  rw [swc,List.getD_cons_zero]
  unfold turnW
  cases r with
  | nil => by_cases h1 : p2 = wdLink <;> simp [h1]
  | cons v r => by_cases h1 : p2 = wdLink <;> by_cases h2 : p1 = wdLink <;> simp [h1,h2]
 | w :: r,p2,p1,i + 1,h => by
  rw [swc,List.getD_cons_succ,swc_get r p1 w i (by simpa using h),turnW_cons p2 _ (by omega)]
theorem wdLink_ne : wdLink ≠ [] := by decide
theorem turnW_start (W : List Bytes) : ∀ (i : Nat),turnW ([] :: [] :: W) (i + 2) = turnW W i
 | 0 => by
  have := wdLink_ne.symm
  unfold turnW
  simp [this]
 | 1 => by
  have := wdLink_ne.symm
  have e : (4 < W.length + 1 + 1) = (2 < W.length) := by rw [eq_iff_iff]; omega
  unfold turnW
  simp [this,e]
 | i + 2 => by rw [turnW_cons _ _ (by omega),turnW_cons _ _ (by omega)]
theorem swc_plain : ∀ (ws : List Bytes) (p2 p1 : Bytes) (R : List Bytes),p2 ≠ wdLink → p1 ≠ wdLink → (∀ w ∈ ws,w ≠ wdLink) → ∃ q2 q1,q2 ≠ wdLink ∧ q1 ≠ wdLink ∧ swc p2 p1 (ws ++ R) = ws ++ swc q2 q1 R
 | [],p2,p1,R,h2,h1,_ => ⟨p2,p1,h2,h1,rfl⟩
 | w :: ws,p2,p1,R,h2,h1,h => by
  obtain ⟨q2,q1,i1,i2,i3⟩ := swc_plain ws p1 w R h1 (h w (by simp)) (fun x hx => h x (by simp [hx]))
  refine ⟨q2,q1,i1,i2,?_⟩
  rw [List.cons_append,swc,if_neg h2,if_neg (fun h => h1 h.1),i3]
  rfl
theorem swc_link {p2 p1 a b c : Bytes} {R : List Bytes} (h2 : p2 ≠ wdLink) (h1 : p1 ≠ wdLink) (ha : a ≠ wdLink) (hb : b ≠ wdLink) (hc : c ≠ wdLink) : swc p2 p1 (wdLink :: a :: b :: c :: [59] :: R) = wdLink :: b :: a :: c :: [59] :: swc c [59] R := by
 simp [swc,h2,h1,ha,hb,hc]
inductive Tl : List (List Bytes) → List (List Bytes) → Prop where
 | nil : Tl [] []
 | plain {l : List Bytes} {ls ms : List (List Bytes)} (h : ∀ w ∈ l,w ≠ wdLink) (t : Tl ls ms) : Tl (l :: ls) (l :: ms)
 | link {a b c : Bytes} {ls ms : List (List Bytes)} (ha : a ≠ wdLink) (hb : b ≠ wdLink) (hc : c ≠ wdLink) (t : Tl ls ms) : Tl ([wdLink,a,b,c] :: ls) ([wdLink,b,a,c] :: ms)
theorem Tl.app {l m : List (List Bytes)} (h : Tl l m) {l' m' : List (List Bytes)} (h' : Tl l' m') : Tl (l ++ l') (m ++ m') := by
 induction h with
 | nil => exact h'
 | plain h _ ih => exact .plain h ih
 | link ha hb hc _ ih => exact .link ha hb hc ih
theorem Tl.all : ∀ {l : List (List Bytes)},(∀ x ∈ l,∀ w ∈ x,w ≠ wdLink) → Tl l l
 | [],_ => .nil
 | x :: l,h => .plain (h x (by simp)) (Tl.all fun y hy => h y (by simp [hy]))
theorem stop_link : ([59] : Bytes) ≠ wdLink := by decide
theorem Tl.swc {l m : List (List Bytes)} (h : Tl l m) : ∀ p2 p1,p2 ≠ wdLink → p1 ≠ wdLink → Go.Bk.swc p2 p1 (flatF l) = flatF m := by
 induction h with
 | nil => intro _ _ _ _; rfl
 | @plain l ls ms h _ ih =>
  intro p2 p1 h2 h1
  obtain ⟨q2,q1,i1,i2,i3⟩ := swc_plain (lineF l) p2 p1 (flatF ls) h2 h1 (fun w hw => by
   unfold lineF at hw
   rcases List.mem_append.1 hw with hw | hw
   ·exact h w hw
   ·rw [List.mem_singleton.1 hw]; exact stop_link)
  have e : ∀ ms,flatF (l :: ms) = lineF l ++ flatF ms := fun ms => by simp [flatF]
  rw [e,e,i3,ih q2 q1 i1 i2]
 | @link a b c ls ms ha hb hc _ ih =>
  intro p2 p1 h2 h1
  have e : ∀ x y z ms,flatF ([wdLink,x,y,z] :: ms) = wdLink :: x :: y :: z :: [59] :: flatF ms := fun x y z ms => by simp [flatF,lineF]
  rw [e,e,swc_link h2 h1 ha hb hc,ih c [59] hc stop_link]
theorem name_link {w : Bytes} (h : nameB w = true) : w ≠ wdLink := by
 rintro rfl
 have := name_kw h
 rw [k_link] at this
 cases this
theorem num_link {n : Int} (h0 : 0 ≤ n) (h1 : n ≤ 65535) : Lib.itoa n ≠ wdLink := by
 intro e
 have h2 := numI_itoa h0 h1
 rw [e,kw_num k_link] at h2
 omega
theorem lines_turn {p : PPlan} (hR : RightP p) : Tl (linesW p) (linesT p) := by
 rw [linesW_eq,linesT]
 have hk1 := hR.k1
 refine Tl.app (Tl.all fun x hx w hw => ?_) (Tl.app ?_ (Tl.app (Tl.all fun x hx w hw => ?_) (Tl.all fun x hx w hw => ?_)))
 ·unfold lines1 at hx
  simp only [List.mem_cons,List.mem_map] at hx
  rcases hx with rfl | rfl | ⟨y,hy,rfl⟩
  ·have hc := cap_is hR
   unfold protoW at hw
   split at hw
   ·simp only [List.mem_cons,List.not_mem_nil,or_false] at hw
    rcases hw with rfl | rfl | rfl
    ·decide
    ·decide
    ·exact num_link (by omega) (by omega)
   ·simp only [List.mem_cons,List.not_mem_nil,or_false] at hw
    rcases hw with rfl | rfl <;> decide
  ·simp only [List.mem_cons,List.not_mem_nil,or_false] at hw
   rcases hw with rfl | rfl
   ·decide
   ·exact num_link hR.k0 (by omega)
  ·have ha := hR.asn y hy
   simp only [nodeW,List.mem_cons,List.not_mem_nil,or_false] at hw
   rcases hw with rfl | rfl | rfl
   ·decide
   ·exact name_link (name_node hR hy)
   ·exact num_link (by omega) (by omega)
 ·have key : ∀ l : List PLink,(∀ x ∈ l,x ∈ p.links) → Tl (l.map (linkW p)) (l.map (linkT p)) := by
   intro l
   induction l with
   | nil => intro _; exact .nil
   | cons x l ih =>
    intro h
    have hx := hR.link x (h x (by simp))
    exact .link (name_link (nmN_name hR (by omega) (by omega))) (name_link (nmN_name hR (by omega) (by omega))) (num_link (by omega) (by omega)) (ih fun y hy => h y (by simp [hy]))
  exact key p.links fun x hx => hx
 ·obtain ⟨d,hd,rfl⟩ := List.mem_map.1 hx
  simp only [destW,List.mem_append,List.mem_cons,List.not_mem_nil,or_false,List.mem_map] at hw
  rcases hw with (rfl | rfl | rfl) | ⟨o,ho,rfl⟩
  ·decide
  ·exact name_link (name_dest hR hd)
  ·decide
  ·have := orig_in hR hd o ho
   exact name_link (nmN_name hR this.1 this.2)
 ·obtain ⟨c,hc,rfl⟩ := List.mem_map.1 hx
  have h0 := hR.n0
  have hb := checkN_bounds (n := p.nodes.length) (d := p.dests.length) (by omega) (hR.check c hc)
  have e1 := name_link (nmN_name hR hb.1.1 hb.1.2)
  have e2 := name_link (nmD_name hR hb.2.1.1 hb.2.1.2)
  have e3 := name_link (nmN_name hR hb.2.2.2.1.1 hb.2.2.2.1.2)
  have e4 := num_link hb.2.2.1.1 hb.2.2.1.2
  unfold checkW at hw
  split at hw
  ·simp only [List.mem_cons,List.not_mem_nil,or_false] at hw
   rcases hw with rfl | rfl | rfl | rfl
   ·decide
   ·decide
   ·exact e1
   ·exact e2
  ·split at hw
   ·simp only [List.mem_cons,List.not_mem_nil,or_false] at hw
    rcases hw with rfl | rfl | rfl | rfl | rfl
    ·decide
    ·decide
    ·exact e1
    ·exact e2
    ·exact e4
   ·split at hw
    ·simp only [List.mem_cons,List.not_mem_nil,or_false] at hw
     rcases hw with rfl | rfl | rfl | rfl | rfl
     ·decide
     ·decide
     ·exact e1
     ·exact e2
     ·exact e3
    ·simp only [List.mem_cons,List.not_mem_nil,or_false] at hw
     rcases hw with rfl | rfl | rfl | rfl | rfl
     ·decide
     ·decide
     ·exact e1
     ·exact e3
     ·exact e2
theorem turned_get {p : PPlan} (hR : RightP p) {i : Nat} (h : i < (flatF (linesW p)).length) : turnW (flatF (linesW p)) i = (flatF (linesT p)).getD i [] := by
 have h1 := (lines_turn hR).swc [] [] wdLink_ne.symm wdLink_ne.symm
 rw [← h1,swc_get _ _ _ _ h,turnW_start]
theorem turned_len {p : PPlan} (hR : RightP p) : (flatF (linesT p)).length = (flatF (linesW p)).length := by
 have h1 := (lines_turn hR).swc [] [] wdLink_ne.symm wdLink_ne.symm
 rw [← h1,swc_len]
theorem linesT_ok {p : PPlan} (hR : RightP p) : ∀ l ∈ linesT p,l ≠ [] ∧ ∀ w ∈ l,WordOk w := by
 intro l hl
 have old : l ∈ linesW p → l ≠ [] ∧ ∀ w ∈ l,WordOk w := fun h => ⟨(lines_ok hR l h).1,(lines_ok hR l h).2.1⟩
 unfold linesT at hl
 rw [linesW_eq] at old
 simp only [List.mem_append] at hl old
 rcases hl with hl | hl | hl
 ·exact old (.inl hl)
 ·obtain ⟨x,hx,rfl⟩ := List.mem_map.1 hl
  refine ⟨by simp [linkT],fun w hw => linkW_ok hR hx w ?_⟩
  simp only [linkT,linkW,List.mem_cons,List.not_mem_nil,or_false] at hw ⊢
  rcases hw with rfl | rfl | rfl | rfl <;> simp
 ·exact old (.inr (.inr hl))
def blanks4 : List Bytes := [[32],[10],[9,9],[32,35,32,120,59,10]]
def txtW (bl w : Nat → Bytes) : Nat → Bytes
 | 0 => []
 | i + 1 => (txtW bl w i ++ w i) ++ bl i
theorem Pre.step4 {s p b : Bytes} {want : List Tok} {t : Tok} (h : Pre s want) (W : Word p t) (hb : b ∈ blanks4) : Pre ((s ++ p) ++ b) (want ++ [{ t with at' := ((s.length : Nat) : Int) }]) := by
 by_cases h9 : b = [9,9]
 ·subst h9
  have h1 := (h.step W (b := [9]) (by decide)).blank (b := [9]) (by decide)
  simpa using h1
 ·refine h.step W ?_
  simp only [blanks4,List.mem_cons,List.not_mem_nil,or_false] at hb
  rcases hb with rfl | rfl | rfl | rfl
  ·decide
  ·decide
  ·exact absurd rfl h9
  ·decide
theorem txt_pre {bl w : Nat → Bytes} (hb : ∀ i,bl i ∈ blanks4) : ∀ (n : Nat),(∀ i,i < n → WordOk (w i) ∨ w i = [59]) → ∃ T,Pre (txtW bl w n) T ∧ T.map er = (List.range n).map fun i => tokOf (w i)
 | 0,_ => ⟨[],Pre.nil,rfl⟩
 | n + 1,h => by
  obtain ⟨T,h1,h2⟩ := txt_pre hb n (fun i hi => h i (by omega))
  refine ⟨_,h1.step4 (tokOf_word (h n (by omega))) (hb n),?_⟩
  rw [List.map_append,h2,List.range_succ,List.map_append]
  simp only [List.map_cons,List.map_nil,er_tokOf]
theorem map_range_get {α : Type} (d : α) (l : List α) : (List.range l.length).map (fun i => l.getD i d) = l := by
 apply List.ext_getElem
 ·simp
 ·intro i h1 h2
  simp only [List.getElem_map,List.getElem_range,List.getD_eq_getElem?_getD,List.getElem?_eq_getElem h2,Option.getD_some]
theorem flatF_ok {ls : List (List Bytes)} (h : ∀ l ∈ ls,l ≠ [] ∧ ∀ w ∈ l,WordOk w) : ∀ w ∈ flatF ls,WordOk w ∨ w = [59] := by
 intro w hw
 obtain ⟨l,hl,hw⟩ := List.mem_flatMap.1 hw
 rcases List.mem_append.1 hw with hw | hw
 ·exact .inl ((h l hl).2 w hw)
 ·exact .inr (List.mem_singleton.1 hw)
def bN (ys : List Int) (i : Nat) : Nat := if i < ys.length then pickN (ys.getD i 0) 4 else 0
def bl4 (ys : List Int) (i : Nat) : Bytes := blanks4.getD (bN ys i) []
theorem bN_hit {ys : List Int} {i : Nat} (h : i < ys.length) : bN ys i = pickN (ys.getD i 0) 4 := if_pos h
theorem bN_miss {ys : List Int} {i : Nat} (h : ¬ i < ys.length) : bN ys i = 0 := if_neg h
theorem bN_lt (ys : List Int) (i : Nat) : bN ys i < 4 := by
 unfold bN
 split
 ·exact pickN_lt _ (by decide)
 ·decide
theorem blanks4_len {k : Nat} (hk : k < 4) : (blanks4.getD k []).length ≤ 6 := by
 rcases (show k = 0 ∨ k = 1 ∨ k = 2 ∨ k = 3 by omega) with rfl | rfl | rfl | rfl <;> decide
theorem bl4_mem (ys : List Int) (i : Nat) : bl4 ys i ∈ blanks4 := tokGet (bN_lt ys i)
theorem txt_len {bl w : Nat → Bytes} (hb : ∀ i,(bl i).length ≤ 6) : ∀ (n : Nat),(∀ i,i < n → (w i).length ≤ 12) → (txtW bl w n).length ≤ 18 * n
 | 0,_ => Nat.le_refl _
 | n + 1,h => by
  have h1 := txt_len hb n (fun i hi => h i (by omega))
  have h2 := h n (by omega)
  have h3 := hb n
  simp only [txtW,List.length_append]
  omega
theorem words_len {p : PPlan} (hR : RightP p) {i : Nat} (h : i < (flatF (linesW p)).length) : (turnW (flatF (linesW p)) i).length ≤ 12 := by
 rw [turned_get hR h]
 have hn := turned_len hR
 rcases flatF_ok (linesT_ok hR) _ (tokGet (d := []) (i := i) (by omega)) with h | h
 ·exact h.len
 ·rw [h]; decide
theorem text_len {p : PPlan} (hR : RightP p) (ys : List Int) {i : Nat} (h : i ≤ (flatF (linesW p)).length) : (txtW (bl4 ys) (turnW (flatF (linesW p))) i).length ≤ 18 * i := txt_len (fun i => blanks4_len (bN_lt ys i)) i fun _ hj => words_len hR (by omega)
theorem toks_words {p : PPlan} (hR : RightP p) {L : List Tok} (hL : lexT (printT p) = (L,0,0)) : L.length = (flatF (linesW p)).length + 1 ∧ ∀ i,i < (flatF (linesW p)).length → (L.getD i d0T).text = (flatF (linesW p)).getD i [] := by
 rw [lex_print hR] at hL
 have hL : linesToks 0 (linesW p) ++ [endT (printT p).length] = L := (Prod.mk.inj hL).1
 have ht := linesToks_text (linesW p) 0 fun l hl => (lines_ok hR l hl).1
 rw [← ht,← hL]
 refine ⟨by simp,fun i hi => ?_⟩
 rw [List.length_map] at hi
 rw [appGetL hi,List.getD_eq_getElem?_getD,List.getD_eq_getElem?_getD,List.getElem?_map,List.getElem?_eq_getElem hi]
 rfl
theorem toks_short {s : Bytes} {L : List Tok} (hL : lexT s = (L,0,0)) (j : Nat) : (L.getD j d0T).text.length ≤ 10000 := by
 rw [List.getD_eq_getElem?_getD]
 cases h : L[j]? with
 | none => exact Nat.zero_le _
 | some t =>
  have hm : t ∈ (lexT s).1 := by rw [hL]; exact List.mem_of_getElem? h
  unfold lexT at hm
  split at hm
  ·simp at hm
  ·have := lexR_txt _ _ _ t hm
   simp only [Option.getD_some]
   omega
theorem turn_at {L : List Tok} {W : List Bytes} (hl : L.length = W.length + 1) (ht : ∀ i,i < W.length → (L.getD i d0T).text = W.getD i []) {i : Nat} (hi : i < W.length) {xz xm xp x0 : Bytes} (hz : (L.getD (i - 2) d0T).text = xz) (hm : (L.getD (i - 1) d0T).text = xm) (hp : (L.getD (i + 1) d0T).text = xp) (h0 : (L.getD i d0T).text = x0) :
  turnW W i = if 1 < i ∧ xz = wdLink then xm else if (0 < i ∧ i + 2 < L.length) ∧ xm = wdLink then xp else x0 := by
 rw [ht _ (by omega)] at hz hm h0
 unfold turnW
 rw [hz,hm,h0]
 by_cases h1 : 1 < i ∧ xz = wdLink
 ·rw [if_pos h1,if_pos h1]
 ·rw [if_neg h1,if_neg h1]
  by_cases h2 : (0 < i ∧ i + 2 < L.length) ∧ xm = wdLink
  ·rw [if_pos h2,if_pos ⟨h2.1.1,by omega,h2.2⟩,← ht _ (by omega),hp]
  ·rw [if_neg h2,if_neg (fun h => h2 ⟨⟨h.1,by omega⟩,h.2.2⟩)]
theorem txt_step {ys : List Int} {W : List Bytes} {i : Nat} {x b : Bytes} (h : turnW W i = x) (hb : blanks4.getD (bN ys i) [] = b) : txtW (bl4 ys) (turnW W) (i + 1) = (txtW (bl4 ys) (turnW W) i ++ x) ++ b := by rw [← h,← hb]; rfl
theorem blanks_law {p : PPlan} (hR : RightP p) {bl w : Nat → Bytes} (hb : ∀ i,bl i ∈ blanks4) (hw : ∀ i,i < (flatF (linesW p)).length → w i = turnW (flatF (linesW p)) i) (hl : (txtW bl w (flatF (linesW p)).length).length ≤ 10000) : parseT (txtW bl w (flatF (linesW p)).length) = (p,0,0) := by
 have hw2 : ∀ i,i < (flatF (linesW p)).length → w i = (flatF (linesT p)).getD i [] := fun i hi => (hw i hi).trans (turned_get hR hi)
 have hok := flatF_ok (linesT_ok hR)
 have hn := turned_len hR
 obtain ⟨T,h1,h2⟩ := txt_pre (w := w) hb (flatF (linesW p)).length (fun i hi => by rw [hw2 i hi]; exact hok _ (tokGet (by omega)))
 have h3 := h1.lex hl
 have h4 : T.map er = (linesToks 0 (linesT p)).map er := by
  rw [h2,linesToks_er _ _ (linesT_ok hR),← hn]
  conv => rhs; rw [← map_range_get [] (flatF (linesT p))]
  rw [List.map_map]
  refine List.map_congr_left fun i hi => ?_
  rw [List.mem_range,hn] at hi
  simp only [Function.comp,hw2 i hi]
 have h5 := allS_turn hR [endT 0] (NotAt.end _ _) (NotAt.end _ _) (NotAt.end _ _)
 rw [checksE_skip (NotAt.end _ _),endS_end _ hR.k2] at h5
 obtain ⟨s,h6,h7⟩ := Eu.all (s := ⟨noPlan,linesToks 0 (linesT p) ++ [endT 0]⟩) (c := ⟨noPlan,T ++ [endT (txtW bl w (flatF (linesW p)).length).length]⟩) ⟨rfl,by simp only [List.map_append,h4]; rfl⟩ _ h5
 unfold parseT parseToks
 rw [h3]
 have h8 : T ++ [(⟨4,[],0,(((txtW bl w (flatF (linesW p)).length).length : Nat) : Int)⟩ : Tok)] = T ++ [endT (txtW bl w (flatF (linesW p)).length).length] := rfl
 simp only [if_true,h8,h6]
 rw [← h7.1]
end Go.Bk
