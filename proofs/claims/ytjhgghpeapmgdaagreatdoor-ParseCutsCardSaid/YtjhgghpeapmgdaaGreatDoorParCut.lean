/-
  PARSE, PLAIN: what becomes of a text that is cut behind a token. No program here.
-/
import Derived.Test.YtjhgghpeapmgdaaGreatDoorParLines
namespace Go.Bk
open Go

theorem dropWhile_head {p : UInt8 → Bool} {d : UInt8} {s : Bytes} : ∀ {l : Bytes},l.dropWhile p = d :: s → p d = false
 | [],h => by simp at h
 | c :: l,h => by
  by_cases hp : p c = true
  ·simp only [List.dropWhile_cons,hp,if_true] at h
   exact dropWhile_head h
  ·simp only [List.dropWhile_cons,hp] at h
   have := (List.cons.inj h).1
   subst this
   simpa using hp
theorem dropWhile_pre {p : UInt8 → Bool} {d : UInt8} (hd : p d = false) (m : Bytes) : ∀ {l : Bytes},(∀ c ∈ l,p c = true) → (l ++ d :: m).dropWhile p = d :: m
 | [],_ => by simp [hd]
 | c :: l,h => by
  rw [List.cons_append,List.dropWhile_cons,if_pos (h c (by simp))]
  exact dropWhile_pre hd m (fun x hx => h x (by simp [hx]))
theorem skip_pre : ∀ (n : Nat) (r : Bytes),r.length ≤ n → skipL r ≠ [] → ∃ pre,r = pre ++ skipL r ∧ (∀ z,skipL (pre ++ z) = skipL z) ∧ blankB ((skipL r).getD 0 0) = false ∧ ((skipL r).getD 0 0).toNat ≠ 35 := by
 intro n
 induction n with
 | zero =>
  intro r hr hne
  have : r = [] := List.length_eq_zero_iff.1 (by omega)
  subst this
  exact absurd (by decide) hne
 | succ n ih =>
  intro r hr hne
  cases r with
  | nil => exact absurd (by decide) hne
  | cons c r =>
   simp only [List.length_cons] at hr
   by_cases hb : blankB c = true
   ·rw [skipL_blank hb] at hne ⊢
    obtain ⟨pre,h1,h2,h3⟩ := ih r (by omega) hne
    exact ⟨c :: pre,by rw [List.cons_append,← h1],fun z => by rw [List.cons_append,skipL_blank hb,h2],h3⟩
   ·by_cases hh : c.toNat = 35
    ·rw [skipL_hash hh] at hne ⊢
     have hc : notLineB c = true := by
      unfold notLineB
      simp only [Bool.not_eq_true',decide_eq_false_iff_not]
      omega
     have hsplit := List.takeWhile_append_dropWhile (p := notLineB) (l := c :: r)
     have htw := List.all_takeWhile (p := notLineB) (l := c :: r)
     rw [List.all_eq_true] at htw
     cases hd : (c :: r : Bytes).dropWhile notLineB with
     | nil => rw [hd] at hne; exact absurd (by decide) hne
     | cons d s =>
      have hn := dropWhile_head hd
      have hd10 : blankB d = true := by
       unfold notLineB at hn
       simp only [Bool.not_eq_false',decide_eq_true_eq] at hn
       unfold blankB
       simp only [Bool.or_eq_true,decide_eq_true_eq]
       exact .inr hn
      have hlen : s.length ≤ n := by
       have h1 := congrArg List.length hsplit
       rw [hd,List.length_append,List.length_cons,List.length_cons] at h1
       omega
      rw [hd] at hne hsplit
      rw [skipL_blank hd10] at hne ⊢
      obtain ⟨pre,h1,h2,h3⟩ := ih s hlen hne
      refine ⟨(c :: r).takeWhile notLineB ++ d :: pre,?_,fun z => ?_,h3⟩
      ·rw [List.append_assoc,List.cons_append,← h1,hsplit]
      ·have ht : (c :: r).takeWhile notLineB = c :: r.takeWhile notLineB := by rw [List.takeWhile_cons,if_pos hc]
       have e : (c :: r).takeWhile notLineB ++ d :: pre ++ z = c :: (r.takeWhile notLineB ++ d :: (pre ++ z)) := by rw [ht]; simp
       rw [e,skipL_hash hh]
       have e2 : c :: (r.takeWhile notLineB ++ d :: (pre ++ z)) = (c :: r).takeWhile notLineB ++ d :: (pre ++ z) := by rw [ht]; simp
       rw [e2,dropWhile_pre hn _ htw,skipL_blank hd10,h2]
    ·have e1 : skipL (c :: r) = c :: r := skipL_self (fun _ => by simpa using hb) (fun _ => by simpa using hh)
     rw [e1]
     exact ⟨[],rfl,fun z => rfl,by simpa using hb,by simpa using hh⟩
theorem takeWhile_take (p : UInt8 → Bool) : ∀ (l : Bytes) (n : Nat),(l.takeWhile p).length ≤ n → (l.take n).takeWhile p = l.takeWhile p
 | [],n,_ => by simp
 | c :: l,0,h => by
  have h0 : (c :: l).takeWhile p = [] := List.length_eq_zero_iff.1 (by omega)
  rw [h0]; rfl
 | c :: l,n + 1,h => by
  rw [List.take_succ_cons,List.takeWhile_cons,List.takeWhile_cons]
  rw [List.takeWhile_cons] at h
  split
  ·rename_i hp
   rw [if_pos hp,List.length_cons] at h
   rw [takeWhile_take p l n (by omega)]
  ·rfl
theorem getD_take {q : Bytes} {n : Nat} (h : 0 < n) : (q.take n).getD 0 0 = q.getD 0 0 := by
 cases q with
 | nil => rw [List.take_nil]
 | cons c q =>
  cases n with
  | zero => omega
  | succ n => rfl
theorem firstT_cut {q : Bytes} {t : Tok} (h : firstT q = (t,true)) (hq : q ≠ []) {n : Nat} (hn : t.text.length ≤ n) : firstT (q.take n) = (t,true) ∧ q.take n ≠ [] ∧ 0 < n := by
 have hp := firstT_pos hq (by rw [h])
 rw [h] at hp
 simp only at hp
 have hne : q.take n ≠ [] := by
  intro e
  rw [List.take_eq_nil_iff] at e
  rcases e with e | e
  ·omega
  ·exact hq e
 have hg := getD_take (q := q) (n := n) (by omega)
 refine ⟨?_,hne,by omega⟩
 by_cases hs : (q.getD 0 0).toNat = 59
 ·rw [firstT_semi hq hs] at h
  rw [firstT_semi hne (by rw [hg]; exact hs),h]
 ·rw [firstT_else hq hs] at h
  have hlen : (q.takeWhile partB).length ≤ n := by
   split at h
   ·have := (Prod.mk.inj h).1
    rw [← this] at hn
    exact hn
   ·have := (Prod.mk.inj h).1
    rw [← this] at hn
    exact hn
  rw [firstT_else hne (by rw [hg]; exact hs),takeWhile_take partB q n hlen,h]
theorem lexR_nil (g : Nat) (a : Nat) : lexR (g + 1) [] a = ([endT a],0,0) := by
 have e : skipL [] = [] := by decide
 simp only [lexR,e,firstT_nil]
 simp [endT]
theorem lexR_cut : ∀ (f : Nat) (r : Bytes) (a : Nat) (L : List Tok),lexR f r a = (L,0,0) → ∀ k,k + 1 < L.length →
  ∃ m,m ≤ r.length ∧ ((a + m : Nat) : Int) = (L.getD k d0T).at' + ((L.getD k d0T).text.length : Nat) ∧ ∀ g,m < g → lexR g (r.take m) a = (L.take (k + 1) ++ [endT (a + m)],0,0)
 | 0,r,a,L,h,_,_ => by simp [lexR] at h
 | f + 1,r,a,L,h,k,hk => by
  simp only [lexR] at h
  split at h
  ·simp at h
  ·rename_i h1
   split at h
   ·have := (Prod.mk.inj h).1
    rw [← this,List.length_singleton] at hk
    omega
   ·rename_i h2
    have h1 : (firstT (skipL r)).2 = true := by simpa using h1
    have hq := skip_ne h2
    obtain ⟨pre,hr,hpre,hb,hh⟩ := skip_pre r.length r (Nat.le_refl _) hq
    generalize hqe : skipL r = q at h h1 h2 hq hr hb hh
    generalize hte : (firstT q).1 = t at h h2
    have hft : firstT q = (t,true) := Prod.ext hte h1
    have hlen : r.length - q.length = pre.length := by rw [hr,List.length_append]; omega
    rw [hlen] at h
    have htl : t.text.length ≤ q.length := by have := firstT_text (l := q); rw [hft] at this; exact this
    have htp : 1 ≤ t.text.length := by have := firstT_pos hq h1; rw [hft] at this; exact this
    have hxf := lexR_form f (q.drop t.text.length) (a + pre.length + t.text.length)
    generalize hxe : lexR f (q.drop t.text.length) (a + pre.length + t.text.length) = x at h hxf
    split at h
    ·rename_i h3
     have hL : { t with at' := ((a + pre.length : Nat) : Int) } :: x.1 = L := (Prod.mk.inj h).1
     subst hL
     have hx : x = (x.1,0,0) := Prod.ext rfl (Prod.ext h3 (hxf.1 h3))
     -- one step of the cut text
     have step : ∀ (m' : Nat) (T : List Tok),m' ≤ (q.drop t.text.length).length → ∀ g,(∀ g,m' < g → lexR g ((q.drop t.text.length).take m') (a + pre.length + t.text.length) = (T,0,0)) → pre.length + (t.text.length + m') < g →
       lexR g (r.take (pre.length + (t.text.length + m'))) a = ({ t with at' := ((a + pre.length : Nat) : Int) } :: T,0,0) := by
      intro m' T hm' g hT hg
      obtain ⟨c1,c2,c3⟩ := firstT_cut hft hq (n := t.text.length + m') (by omega)
      have et : r.take (pre.length + (t.text.length + m')) = pre ++ q.take (t.text.length + m') := by
       conv => lhs; rw [hr]
       rw [List.take_append,Nat.add_sub_cancel_left,List.take_of_length_le (by omega)]
      have es : skipL (pre ++ q.take (t.text.length + m')) = q.take (t.text.length + m') := by
       rw [hpre]
       exact skipL_self (fun _ => by rw [getD_take c3]; exact hb) (fun _ => by rw [getD_take c3]; exact hh)
      have ed : (q.take (t.text.length + m')).drop t.text.length = (q.drop t.text.length).take m' := by
       rw [List.drop_take,Nat.add_sub_cancel_left]
      cases g with
      | zero => omega
      | succ g =>
       rw [et]
       simp only [lexR]
       rw [es,c1]
       have el : (pre ++ q.take (t.text.length + m')).length - (q.take (t.text.length + m')).length = pre.length := by rw [List.length_append]; omega
       simp only [el]
       rw [if_neg (by simp),if_neg h2,ed,hT g (by omega)]
       simp
     cases k with
     | zero =>
      refine ⟨pre.length + (t.text.length + 0),?_,?_,fun g hg => ?_⟩
      ·rw [hr,List.length_append]; omega
      ·simp only [List.getD_cons_zero]; omega
      ·rw [step 0 [endT (a + pre.length + t.text.length)] (Nat.zero_le _) g (fun g hg => ?_) hg]
       ·simp only [List.take_succ_cons,List.take_zero,List.cons_append,List.nil_append]
        rw [show a + (pre.length + (t.text.length + 0)) = a + pre.length + t.text.length by omega]
       ·cases g with
        | zero => omega
        | succ g => rw [List.take_zero]; exact lexR_nil g _
     | succ k =>
      rw [hx] at hxe
      obtain ⟨m',i1,i2,i3⟩ := lexR_cut f (q.drop t.text.length) (a + pre.length + t.text.length) x.1 hxe k (by simpa using hk)
      refine ⟨pre.length + (t.text.length + m'),?_,?_,fun g hg => ?_⟩
      ·rw [List.length_drop] at i1
       rw [hr,List.length_append]; omega
      ·rw [List.getD_cons_succ,← i2]
       omega
      ·rw [step m' _ i1 g i3 hg,List.take_succ_cons,List.cons_append,show a + (pre.length + (t.text.length + m')) = a + pre.length + t.text.length + m' by omega]
    ·rename_i h3
     exact absurd (Prod.mk.inj (Prod.mk.inj h).2).1 h3
theorem lexT_cut {s : Bytes} {L : List Tok} (h : lexT s = (L,0,0)) {k : Nat} (hk : k + 1 < L.length) : ∃ m,m ≤ s.length ∧ ((m : Nat) : Int) = (L.getD k d0T).at' + ((L.getD k d0T).text.length : Nat) ∧ lexT (s.take m) = (L.take (k + 1) ++ [endT m],0,0) := by
 unfold lexT at h
 split at h
 ·simp at h
 ·rename_i hs
  obtain ⟨m,h1,h2,h3⟩ := lexR_cut _ s 0 L h k hk
  refine ⟨m,h1,by rw [← h2]; omega,?_⟩
  unfold lexT
  rw [if_neg (by rw [List.length_take]; omega),h3 _ (by rw [List.length_take]; omega),Nat.zero_add]
theorem lexR_strict : ∀ (f : Nat) (r : Bytes) (a : Nat),∀ t ∈ (lexR f r a).1,t.kind ≠ 4 → t.at' < ((a + r.length : Nat) : Int)
 | 0,r,a,t,h,_ => by simp [lexR] at h
 | f + 1,r,a,t,h,hk => by
  have hs := skipL_le r
  simp only [lexR] at h
  split at h
  ·simp at h
  ·rename_i h1
   split at h
   ·rename_i h2
    rw [List.mem_singleton] at h
    rw [h] at hk
    exact absurd h2 hk
   ·rename_i h2
    have hp := firstT_pos (skip_ne h2) (by simpa using h1)
    have ht := firstT_text (l := skipL r)
    split at h
    ·rcases List.mem_cons.1 h with h | h
     ·subst h
      simp only
      omega
     ·have := lexR_strict f _ _ t h hk
      rw [List.length_drop] at this
      omega
    ·simp at h
theorem lexT_strict {s : Bytes} {t : Tok} (h : t ∈ (lexT s).1) (hk : t.kind ≠ 4) : t.at' < ((s.length : Nat) : Int) := by
 unfold lexT at h
 split at h
 ·simp at h
 ·have := lexR_strict _ _ _ t h hk
  omega

def Ct (n : Nat) (B : List Tok) (s c : PSt) : Prop := s.p = c.p ∧ ∃ A,s.ts = A ++ B ∧ c.ts = A ++ [endT n]
def Cv {α : Type} (n : Nat) (B : List Tok) (x y : α × PSt) : Prop := x.1 = y.1 ∧ Ct n B x.2 y.2
def Cs {α : Type} (n : Nat) (R : α → α → Prop) (x y : PE α) : Prop := y = .error (40,(n : Int)) ∨ (∃ a b,x = .ok a ∧ y = .ok b ∧ R a b) ∨ ∃ e,x = .error e ∧ y = .error e
theorem Cs.ok {α : Type} {n : Nat} {R : α → α → Prop} {a b : α} (h : R a b) : Cs n R (.ok a) (.ok b) := .inr (.inl ⟨a,b,rfl,rfl,h⟩)
theorem Cs.err {α : Type} {n : Nat} {R : α → α → Prop} (e : Int × Int) : Cs n R (.error e : PE α) (.error e) := .inr (.inr ⟨e,rfl,rfl⟩)
theorem Cs.and {α β : Type} {n : Nat} {R : α → α → Prop} {R' : β → β → Prop} {x y : PE α} {f f' : α → PE β} (h : Cs n R x y) (hf : ∀ a b,R a b → Cs n R' (f a) (f' b)) : Cs n R' (andE x f) (andE y f') := by
 rcases h with rfl | ⟨a,b,rfl,rfl,h⟩ | ⟨e,rfl,rfl⟩
 ·exact .inl rfl
 ·exact hf a b h
 ·exact Cs.err e
section
variable {n : Nat} {B : List Tok} {s c : PSt}
theorem Ct.take (h : Ct n B s c) {k : Int} (hk : k ≠ 4) : Cs n (Cv n B) (takeS k s) (takeS k c) := by
 obtain ⟨sp,st⟩ := s
 obtain ⟨cp,ct⟩ := c
 obtain ⟨h1,A,h2,h3⟩ := h
 simp only at h1 h2 h3
 subst h1 h2 h3
 cases A with
 | nil =>
  left
  unfold takeS
  rw [if_neg]
  ·rfl
  ·show ¬ (4 : Int) = k
   omega
 | cons t A =>
  unfold takeS
  have e1 : (⟨sp,t :: A ++ B⟩ : PSt).hd = t := rfl
  have e2 : (⟨sp,t :: A ++ [endT n]⟩ : PSt).hd = t := rfl
  rw [e1,e2]
  split
  ·show Cs n (Cv n B) (.ok (t,⟨sp,A ++ B⟩)) (.ok (t,⟨sp,A ++ [endT n]⟩))
   exact Cs.ok ⟨rfl,rfl,A,rfl,rfl⟩
  ·exact Cs.err _
theorem Ct.isS (h : Ct n B s c) (wd : Bytes) : isS wd s = isS wd c ∨ c.ts = [endT n] := by
 obtain ⟨sp,st⟩ := s
 obtain ⟨cp,ct⟩ := c
 obtain ⟨h1,A,h2,h3⟩ := h
 simp only at h1 h2 h3
 subst h1 h2 h3
 cases A with
 | nil => exact .inr rfl
 | cons t A => exact .inl rfl
theorem isS_end (wd : Bytes) {c : PSt} (h : c.ts = [endT n]) : Go.Bk.isS wd c = false := by
 obtain ⟨cp,ct⟩ := c
 simp only at h
 subst h
 exact isS_kind (by simp [endT])
theorem Ct.word (h : Ct n B s c) (wd : Bytes) : Cs n (Cv n B) (wordS wd s) (wordS wd c) := by
 obtain ⟨sp,st⟩ := s
 obtain ⟨cp,ct⟩ := c
 have h0 := h
 obtain ⟨h1,A,h2,h3⟩ := h
 simp only at h1 h2 h3
 subst h1 h2 h3
 unfold wordS
 cases A with
 | nil =>
  left
  rw [isS_end wd rfl,if_neg (by simp)]
  rfl
 | cons t A =>
  have e : Go.Bk.isS wd ⟨sp,t :: A ++ B⟩ = Go.Bk.isS wd ⟨sp,t :: A ++ [endT n]⟩ := rfl
  rw [e]
  split
  ·exact h0.take (by decide)
  ·exact Cs.err _
theorem Ct.head (h : Ct n B s c) (wd : Bytes) (a b : Int) : Cs n (Ct n B) (headS wd a b s) (headS wd a b c) := by
 unfold headS
 refine (h.word wd).and fun x y hx => ?_
 rw [hx.1]
 split
 ·exact Cs.err _
 ·exact Cs.ok hx.2
theorem Ct.number (h : Ct n B s c) (a b : Int) : Cs n (Cv n B) (numberS a b s) (numberS a b c) := by
 unfold numberS
 refine (h.take (by decide)).and fun x y hx => ?_
 rw [hx.1]
 split
 ·exact Cs.err _
 ·exact Cs.ok ⟨rfl,hx.2⟩
theorem Ct.fresh (h : Ct n B s c) : Cs n (Cv n B) (freshS s) (freshS c) := by
 unfold freshS
 refine (h.take (by decide)).and fun x y hx => ?_
 rw [hx.1,hx.2.1]
 split
 ·exact Cs.err _
 ·exact Cs.ok ⟨rfl,hx.2⟩
theorem Ct.known (h : Ct n B s c) (f : PPlan → Bytes → Int) : Cs n (Cv n B) (knownS f s) (knownS f c) := by
 unfold knownS
 refine (h.take (by decide)).and fun x y hx => ?_
 rw [hx.1,hx.2.1]
 split
 ·exact Cs.err _
 ·exact Cs.ok ⟨rfl,hx.2⟩
theorem Ct.kind (h : Ct n B s c) : Cs n (Cv n B) (kindS s) (kindS c) := by
 unfold kindS
 refine (h.take (by decide)).and fun x y hx => ?_
 rw [hx.1]
 split
 ·exact Cs.err _
 ·exact Cs.ok ⟨rfl,hx.2⟩
theorem Ct.stop (h : Ct n B s c) : Cs n (Ct n B) (stopS s) (stopS c) := by
 unfold stopS
 exact (h.take (by decide)).and fun x y hx => Cs.ok hx.2
theorem Ct.with (h : Ct n B s c) (g : PPlan → PPlan) : Ct n B ⟨g s.p,s.ts⟩ ⟨g c.p,c.ts⟩ := ⟨by show g s.p = g c.p; rw [h.1],h.2⟩
theorem Ct.protocol (h : Ct n B s c) : Cs n (Ct n B) (protocolS s) (protocolS c) := by
 unfold protocolS
 refine (h.word _).and fun x y hx => ?_
 rcases hx.2.isS wdPath with e | e
 ·rw [e]
  split
  ·refine (hx.2.word _).and fun x y hx => (hx.2.number _ _).and fun x y hx => ?_
   have := hx.2.with (fun p => { p with proto := 2,cap := x.1 })
   rw [hx.1] at this ⊢
   exact this.stop
  ·refine (hx.2.word _).and fun x y hx => ?_
   exact (hx.2.with (fun p => { p with proto := 1 })).stop
 ·left
  rw [isS_end wdPath e,if_neg (by simp)]
  have : wordS wdVector y.2 = .error (40,(n : Int)) := by
   unfold wordS
   rw [isS_end wdVector e,if_neg (by simp)]
   show Except.error ((40 : Int),y.2.hd.at') = _
   unfold PSt.hd
   rw [e]; rfl
  rw [this]
  rfl
theorem Ct.failures (h : Ct n B s c) : Cs n (fun x y => Ct n B x.2 y.2) (failuresS s) (failuresS c) := by
 unfold failuresS
 refine (h.word _).and fun x y hx => (hx.2.number _ _).and fun u v hu => ?_
 have := hu.2.with (fun p => { p with k := u.1 })
 rw [hu.1] at this ⊢
 exact this.stop.and fun z z' hz => Cs.ok hz
theorem Ct.node (h : Ct n B s c) : Cs n (Ct n B) (nodeS s) (nodeS c) := by
 unfold nodeS
 rw [h.1]
 refine (h.head _ _ _).and fun x y hx => hx.fresh.and fun a b ha => (ha.2.number _ _).and fun d e hd => hd.2.stop.and fun z z' hz => ?_
 rw [ha.1,hd.1]
 exact Cs.ok (hz.with (fun p => addNode p _))
theorem Ct.link (h : Ct n B s c) : Cs n (Ct n B) (linkS s) (linkS c) := by
 unfold linkS
 rw [h.1]
 refine (h.head _ _ _).and fun x y hx => (hx.known _).and fun a b ha => (ha.2.known _).and fun d e hd => ?_
 rw [ha.1,hd.1,hd.2.1]
 split
 ·exact Cs.err _
 ·refine (hd.2.number _ _).and fun u v hu => hu.2.stop.and fun z z' hz => ?_
  rw [hu.1]
  exact Cs.ok (hz.with (fun p => addLink p _))
end
theorem Ct.origins {n : Nat} {B : List Tok} : ∀ (m : Nat) (x y : List Int × PSt),x.2.ts.length ≤ m → Cv n B x y → Cs n (Cv n B) (originsS x) (originsS y)
 | m,x,y,hm,h => by
  have hs : Cs n (Cv n B) (origS x) (origS y) := by
   unfold origS
   refine (h.2.known _).and fun a b ha => ?_
   rw [ha.1,h.1]
   split
   ·exact Cs.err _
   ·exact Cs.ok ⟨rfl,ha.2⟩
  rw [originsS_step x,originsS_step y]
  obtain ⟨xo,sp,st⟩ := x
  obtain ⟨yo,cp,ct⟩ := y
  obtain ⟨e0,h1,A,h2,h3⟩ := h
  simp only at e0 h1 h2 h3
  subst e0 h1 h2 h3
  cases A with
  | nil =>
   left
   have hc : origC (xo,⟨sp,([] : List Tok) ++ [endT n]⟩) = true := by
    unfold origC
    rw [Bool.or_eq_true]
    right
    show (!decide ((4 : Int) = 3)) = true
    decide
   rw [if_pos hc]
   rfl
  | cons t A =>
   have hc : origC (xo,⟨sp,t :: A ++ B⟩) = origC (xo,⟨sp,t :: A ++ [endT n]⟩) := rfl
   rw [hc]
   split
   ·rcases hs with hs | ⟨a,b,ha,hb,hr⟩ | ⟨e,ha,hb⟩
    ·left; rw [hs]; rfl
    ·rw [ha,hb]
     have hl := origS_lt _ _ ha
     cases m with
     | zero => omega
     | succ m => exact Ct.origins m a b (by omega) hr
    ·rw [ha,hb]; exact Cs.err e
   ·exact Cs.ok ⟨rfl,rfl,t :: A,rfl,rfl⟩
section
variable {n : Nat} {B : List Tok} {s c : PSt}
theorem Ct.dest (h : Ct n B s c) : Cs n (Ct n B) (destS s) (destS c) := by
 unfold destS
 rw [h.1]
 refine (h.head _ _ _).and fun x y hx => hx.fresh.and fun a b ha => (ha.2.word _).and fun d e hd => (Ct.origins _ ([],d.2) ([],e.2) (Nat.le_refl _) ⟨rfl,hd.2⟩).and fun u v hu => hu.2.stop.and fun z z' hz => ?_
 rw [ha.1,hu.1]
 exact Cs.ok (hz.with (fun p => addDest p _))
theorem Ct.aNode (h : Ct n B s c) : Cs n (Cv n B) (aNodeS s) (aNodeS c) := by
 unfold aNodeS
 refine (h.known _).and fun x y hx => ?_
 rw [hx.1]
 exact Cs.ok ⟨rfl,hx.2⟩
theorem Ct.aDest (h : Ct n B s c) : Cs n (Cv n B) (aDestS s) (aDestS c) := by
 unfold aDestS
 refine (h.known _).and fun x y hx => ?_
 rw [hx.1]
 exact Cs.ok ⟨rfl,hx.2⟩
theorem Ct.other (h : Ct n B s c) (k : Int) : Cs n (Cv n B) (otherS k s) (otherS k c) := by
 unfold otherS
 split
 ·exact h.aNode
 ·exact Cs.ok ⟨rfl,h⟩
theorem Ct.rest (h : Ct n B s c) (k o : Int) : Cs n (Cv n B) (restS k o s) (restS k o c) := by
 unfold restS
 split
 ·refine (h.number _ _).and fun x y hx => ?_
  rw [hx.1]
  exact Cs.ok ⟨rfl,hx.2⟩
 ·split
  ·refine h.aNode.and fun x y hx => ?_
   rw [hx.1]
   exact Cs.ok ⟨rfl,hx.2⟩
  ·exact Cs.ok ⟨rfl,h⟩
theorem Ct.check (h : Ct n B s c) : Cs n (Ct n B) (checkS s) (checkS c) := by
 unfold checkS
 rw [h.1]
 refine (h.head _ _ _).and fun x y hx => hx.kind.and fun k k' hk => hk.2.aNode.and fun a a' ha => ?_
 rw [hk.1]
 refine (ha.2.other _).and fun o o' ho => ho.2.aDest.and fun d d' hd => ?_
 rw [ho.1]
 refine (hd.2.rest _ _).and fun r r' hr => hr.2.stop.and fun z z' hz => ?_
 rw [ha.1,hd.1,hr.1]
 exact Cs.ok (hz.with (fun p => addCheck p _))
end
theorem cut_line {α : Type} {f : PSt → PE α} {g : α → PSt} (hf : ∀ n B s c,Ct n B s c → Cs n (fun x y => Ct n B (g x) (g y)) (f s) (f c)) {q : PPlan} {a : α} {A C r : List Tok} (h : f ⟨q,(A ++ C) ++ r⟩ = .ok a) (ha : (g a).ts = r) (hC : C ≠ []) (n : Nat) : f ⟨q,A ++ [endT n]⟩ = .error (40,(n : Int)) := by
 rcases hf n (C ++ r) ⟨q,(A ++ C) ++ r⟩ ⟨q,A ++ [endT n]⟩ ⟨rfl,A,by simp,rfl⟩ with h1 | ⟨x,y,h1,h2,h3⟩ | ⟨e,h1,h2⟩
 ·exact h1
 ·rw [h] at h1
  cases h1
  obtain ⟨_,A',e1,_⟩ := h3
  rw [ha] at e1
  have := congrArg List.length e1
  have hp := List.length_pos_iff.2 hC
  simp only [List.length_append] at this
  omega
 ·rw [h] at h1
  cases h1
def Ended (A : List Tok) : Prop := A = [] ∨ ∃ l b,A = l ++ [stopT b]
theorem lineToks_last : ∀ (ws : List Bytes) (a : Nat),ws ≠ [] → ∃ l b,lineToks a ws = l ++ [stopT b]
 | [],_,h => absurd rfl h
 | [w],a,_ => ⟨[wt w a],_,rfl⟩
 | w :: v :: r,a,_ => by
  obtain ⟨l,b,e⟩ := lineToks_last (v :: r) (a + w.length + 1) (by simp)
  exact ⟨wt w a :: l,b,by rw [lineToks,e]; rfl⟩
theorem Ended.line {a : Nat} {ws : List Bytes} (hw : ws ≠ []) {A : List Tok} (h : Ended A) : Ended (lineToks a ws ++ A) := by
 rcases h with rfl | ⟨l,b,rfl⟩
 ·obtain ⟨l,b,e⟩ := lineToks_last ws a hw
  exact .inr ⟨l,b,by rw [e,List.append_nil]⟩
 ·exact .inr ⟨lineToks a ws ++ l,b,by simp⟩
theorem Ended.lines : ∀ {ls : List (List Bytes)} {a : Nat} (_ : ∀ l ∈ ls,l ≠ []) {A : List Tok} (_ : Ended A),Ended (linesToks a ls ++ A)
 | [],_,_,_,h => h
 | l :: ls,a,hl,A,h => by
  rw [linesToks,List.append_assoc]
  exact Ended.line (hl l (by simp)) (Ended.lines (fun x hx => hl x (by simp [hx])) h)
theorem app_cases {L R A B : List Tok} (h : L ++ R = A ++ B) : (∃ A',A = L ++ A' ∧ R = A' ++ B) ∨ ∃ C,C ≠ [] ∧ L = A ++ C := by
 rcases List.append_eq_append_iff.1 h with ⟨a,h1,h2⟩ | ⟨c,h1,h2⟩
 ·exact .inl ⟨a,h1,h2⟩
 ·cases c with
  | nil => exact .inl ⟨[],by simpa using h1.symm,by simpa using h2.symm⟩
  | cons t c => exact .inr ⟨t :: c,by simp,h1⟩
theorem NotAt.cut {wd : Bytes} {T A B X : List Tok} (h : NotAt wd (T ++ X)) (e : T = A ++ B) (n : Nat) : NotAt wd (A ++ [endT n]) := by
 cases A with
 | nil => exact NotAt.end n []
 | cons t A =>
  intro q
  have := h q
  rw [e] at this
  exact this
theorem many_cut {α : Type} {wd : Bytes} {f : PSt → PE PSt} (hf : ∀ s s' : PSt,f s = .ok s' → s'.ts.length < s.ts.length) (hc : ∀ n B s c,Ct n B s c → Cs n (Ct n B) (f s) (f c)) (enc : α → List Bytes) (add : PPlan → α → PPlan) (Ok : PPlan → List α → Prop)
  (hstep : ∀ q x xs a r,Ok q (x :: xs) → f ⟨q,lineToks a (enc x) ++ r⟩ = .ok ⟨add q x,r⟩ ∧ Ok (add q x) xs) (hk : kwB wd = true) (hwd : ∀ x,∃ l,enc x = wd :: l) (n : Nat) :
  ∀ (xs : List α) (q : PPlan) (a : Nat) (A B : List Tok),Ok q xs → linesToks a (xs.map enc) = A ++ B → manyS wd f ⟨q,A ++ [endT n]⟩ = .error (40,(n : Int)) ∨ (Ended A ∧ ∃ q',manyS wd f ⟨q,A ++ [endT n]⟩ = .ok ⟨q',[endT n]⟩)
 | [],q,a,A,B,_,e => by
  have e : [] = A ++ B := e
  rw [List.nil_eq_append_iff] at e
  rw [e.1]
  exact .inr ⟨.inl rfl,q,manyS_stop hf (NotAt.end n [])⟩
 | x :: xs,q,a,A,B,h,e => by
  obtain ⟨l,hl⟩ := hwd x
  rw [List.map_cons,linesToks] at e
  rcases app_cases e with ⟨A',rfl,e2⟩ | ⟨C,hC,e2⟩
  ·obtain ⟨h1,h2⟩ := hstep q x xs a (A' ++ [endT n]) h
   have := many_cut hf hc enc add Ok hstep hk hwd n xs (add q x) _ A' B h2 e2
   rw [List.append_assoc,manyS_step hf,if_pos (by rw [hl]; exact isS_line hk q l a _),h1,andE_ok]
   rcases this with h3 | ⟨h3,h4⟩
   ·exact .inl h3
   ·exact .inr ⟨Ended.line (by rw [hl]; simp) h3,h4⟩
  ·cases hA : A with
   | nil => exact .inr ⟨.inl rfl,q,manyS_stop hf (NotAt.end n [])⟩
   | cons t A' =>
    left
    rw [← hA]
    have hs : isS wd ⟨q,A ++ [endT n]⟩ = true := by
     obtain ⟨r',e3⟩ := lineToks_head wd l a []
     rw [List.append_nil,← hl,e2,hA,List.cons_append] at e3
     rw [hA]
     have e4 := (List.cons.inj e3).1
     rw [e4,wt_kw hk]
     exact isS_hit
    have h1 := (hstep q x xs a [] h).1
    rw [e2] at h1
    rw [manyS_step hf,if_pos hs,cut_line (g := id) hc h1 rfl hC n]
    rfl
def Good (n : Nat) (at' : Int) (A : List Tok) (y : PE PSt) : Prop := y = .error (40,(n : Int)) ∨ (Ended A ∧ ((∃ s,y = .ok s) ∨ y = .error (42,at')))
theorem endS_cut {at' : Int} {q : PPlan} {n : Nat} : (∃ s,endS at' ⟨q,[endT n]⟩ = .ok s) ∨ endS at' ⟨q,[endT n]⟩ = .error (42,at') := by
 have : takeS 4 ⟨q,[endT n]⟩ = .ok (endT n,⟨q,[endT n]⟩) := rfl
 unfold endS
 rw [this,andE_ok]
 simp only
 split
 ·exact .inr rfl
 ·exact .inl ⟨_,rfl⟩
theorem checksE_end {at' : Int} {q : PPlan} {n : Nat} : checksE at' ⟨q,[endT n]⟩ = endS at' ⟨q,[endT n]⟩ := checksE_skip (NotAt.end n [])
theorem destsE_end {at' : Int} {q : PPlan} {n : Nat} : destsE at' ⟨q,[endT n]⟩ = endS at' ⟨q,[endT n]⟩ := (destsE_skip (NotAt.end n [])).trans checksE_end
theorem linksE_end {at' : Int} {q : PPlan} {n : Nat} : linksE at' ⟨q,[endT n]⟩ = endS at' ⟨q,[endT n]⟩ := (linksE_skip (NotAt.end n [])).trans destsE_end
theorem Good.of {n : Nat} {at' : Int} {A : List Tok} {x : PE PSt} {f : PSt → PE PSt} (h : x = .error (40,(n : Int)) ∨ (Ended A ∧ ∃ q',x = .ok ⟨q',[endT n]⟩)) (hf : ∀ q,f ⟨q,[endT n]⟩ = endS at' ⟨q,[endT n]⟩) : Good n at' A (andE x f) := by
 rcases h with rfl | ⟨h1,q',rfl⟩
 ·exact .inl rfl
 ·refine .inr ⟨h1,?_⟩
  rw [andE_ok,hf]
  exact endS_cut
theorem Good.ended {n : Nat} {at' : Int} {A A' : List Tok} {y : PE PSt} (h : Good n at' A y) (hA : Ended A → Ended A') : Good n at' A' y := by
 rcases h with h | ⟨h1,h2⟩
 ·exact .inl h
 ·exact .inr ⟨hA h1,h2⟩
section
variable {p : PPlan} (hR : RightP p) (at' : Int) (n : Nat)
include hR
theorem checksE_cut {a : Nat} {A B : List Tok} (e : linesToks a (p.checks.map (checkW p)) = A ++ B) : Good n at' A (checksE at' ⟨P3 p,A ++ [endT n]⟩) := by
 have := many_cut checkS_lt (fun _ _ _ _ h => h.check) (checkW p) addCheck (ChecksOk p) (checks_step hR) k_check (fun x => by
  unfold checkW
  split
  ·exact ⟨_,rfl⟩
  ·split
   ·exact ⟨_,rfl⟩
   ·split <;> exact ⟨_,rfl⟩) n p.checks (P3 p) a A B ⟨rfl,rfl,by simpa [P3] using hR.c1,fun x hx => hx⟩ e
 exact Good.of this fun q => rfl
theorem destsE_cut {a c : Nat} {A B : List Tok} (e : linesToks a (p.dests.map (destW p)) ++ linesToks c (p.checks.map (checkW p)) = A ++ B) : Good n at' A (destsE at' ⟨P2 p,A ++ [endT n]⟩) := by
 rcases app_cases e with ⟨A',rfl,e2⟩ | ⟨C,_,e2⟩
 ·have hn : NotAt wdDest (A' ++ [endT n]) := (NotAt.lines (r := [endT 0]) k_check (by decide) (checks_first p) c (NotAt.end 0 [])).cut e2 n
  rw [List.append_assoc,destsE_lines hR,destsE_skip hn]
  exact (checksE_cut hR at' n e2).ended (Ended.lines fun l hl => by obtain ⟨l',e⟩ := dests_first p l hl; rw [e]; simp)
 ·have := many_cut destS_lt (fun _ _ _ _ h => h.dest) (destW p) addDest (DestsOk p) (dests_step hR) k_dest (fun x => ⟨_,rfl⟩) n p.dests (P2 p) a A C ⟨rfl,by simpa [P2] using hR.d1,fun x hx => hx,by simpa [P2,namesL] using hR.nnd⟩ e2
  exact Good.of this fun q => checksE_end
theorem linksE_cut {a b c : Nat} {A B : List Tok} (e : linesToks a (p.links.map (linkW p)) ++ (linesToks b (p.dests.map (destW p)) ++ linesToks c (p.checks.map (checkW p))) = A ++ B) : Good n at' A (linksE at' ⟨P1 p,A ++ [endT n]⟩) := by
 rcases app_cases e with ⟨A',rfl,e2⟩ | ⟨C,_,e2⟩
 ·have hn : NotAt wdLink (A' ++ [endT n]) := NotAt.cut (X := [endT 0]) (by
   rw [List.append_assoc]
   exact NotAt.lines k_dest (by decide) (dests_first p) b (NotAt.lines k_check (by decide) (checks_first p) c (NotAt.end 0 []))) e2 n
  rw [List.append_assoc,linksE_lines hR,linksE_skip hn]
  exact (destsE_cut hR at' n e2).ended (Ended.lines fun l hl => by obtain ⟨l',e⟩ := links_first p l hl; rw [e]; simp)
 ·have := many_cut linkS_lt (fun _ _ _ _ h => h.link) (linkW p) addLink (LinksOkP p) (links_step hR) k_link (fun x => ⟨_,rfl⟩) n p.links (P1 p) a A C ⟨rfl,by simpa [P1] using hR.l1,hR.link,by simpa [P1] using hR.lnd⟩ e2
  exact Good.of this fun q => destsE_end
end
theorem allS_cut {p : PPlan} (hR : RightP p) (n : Nat) {A B : List Tok} (e : linesToks 0 (linesW p) = A ++ B) : allS ⟨noPlan,A ++ [endT n]⟩ = .error (40,(n : Int)) ∨ (Ended A ∧ ((∃ s,allS ⟨noPlan,A ++ [endT n]⟩ = .ok s) ∨ (allS ⟨noPlan,A ++ [endT n]⟩ = .error (42,kAt4 p) ∧ ∃ t ∈ A,t.kind ≠ 4 ∧ t.at' = kAt4 p))) := by
 have h1 := hR.n1
 have h0 := hR.n0
 obtain ⟨x,xs,hx⟩ : ∃ x xs,p.nodes = x :: xs := by
  cases hn : p.nodes with
  | nil => rw [hn] at h0; simp at h0
  | cons x xs => exact ⟨x,xs,rfl⟩
 have hnd := hR.nnd
 unfold namesL at hnd
 rw [List.nodup_append] at hnd
 have hok : NodesOk ⟨p.proto,p.cap,p.k,[],[],[],[]⟩ (x :: xs) := ⟨by rw [← hx]; simpa using h1,rfl,fun y hy => name_node hR (by rw [hx]; exact hy),by rw [← hx]; simpa using hnd.1,fun y hy => hR.asn y (by rw [hx]; exact hy)⟩
 rw [linesW_eq,lines1,hx] at e
 simp only [List.map_cons,List.cons_append] at e
 rw [linesToks,linesToks,linesToks] at e
 rw [allS_eq]
 have hpw := (protoW_ok hR).1
 rcases app_cases e with ⟨A1,rfl,e1⟩ | ⟨C,hC,e1⟩
 ·rw [List.append_assoc,protocolS_line hR,andE_ok]
  rcases app_cases e1 with ⟨A2,rfl,e2⟩ | ⟨C,hC,e2⟩
  ·rw [List.append_assoc,failuresS_line hR.k0 hR.k1,andE_ok]
   have hmem : ∀ A3 : List Tok,∃ t ∈ lineToks 0 (protoW p) ++ (lineToks (0 + (lineW (protoW p)).length) [wdFailures,Lib.itoa p.k] ++ A3),t.kind ≠ 4 ∧ t.at' = kAt4 p := by
    intro A3
    have hk1 := hR.k1
    refine ⟨wt (Lib.itoa p.k) (0 + (lineW (protoW p)).length + wdFailures.length + 1),?_,?_,?_⟩
    ·simp [lineToks]
    ·rw [wt_num hR.k0 (by omega)]; simp
    ·rw [wt_num hR.k0 (by omega)]
     simp only [kAt4,Nat.zero_add]
     rfl
   have main : ∀ at',Good n at' A2 (andE (nodeS ⟨⟨p.proto,p.cap,p.k,[],[],[],[]⟩,A2 ++ [endT n]⟩) (nodesE at')) := by
    intro at'
    rcases app_cases e2 with ⟨A3,rfl,e3⟩ | ⟨C,hC,e3⟩
    ·obtain ⟨s1,s2⟩ := nodes_step _ x xs (0 + (lineW (protoW p)).length + (lineW [wdFailures,Lib.itoa p.k]).length) (A3 ++ [endT n]) hok
     rw [List.append_assoc,s1,andE_ok]
     refine Good.ended (A := A3) ?_ (Ended.line (by simp [nodeW]))
     rw [linesToks_app,linesToks_app,linesToks_app] at e3
     rcases app_cases e3 with ⟨A4,rfl,e4⟩ | ⟨C,_,e4⟩
     ·have hn : NotAt wdNode (A4 ++ [endT n]) := NotAt.cut (X := [endT 0]) (by
       rw [List.append_assoc,List.append_assoc]
       exact NotAt.lines k_link (by decide) (links_first p) _ (NotAt.lines k_dest (by decide) (dests_first p) _ (NotAt.lines k_check (by decide) (checks_first p) _ (NotAt.end 0 [])))) e4 n
      unfold nodesE
      rw [List.append_assoc,manyS_lines nodeS_lt nodeW addNode NodesOk nodes_step (fun q x a r => isS_line k_node q _ a r) xs _ _ _ s2,foldl_node,manyS_stop nodeS_lt hn,andE_ok]
      have hp1 : ({ addNode ⟨p.proto,p.cap,p.k,[],[],[],[]⟩ x with nodes := (addNode ⟨p.proto,p.cap,p.k,[],[],[],[]⟩ x).nodes ++ xs } : PPlan) = P1 p := by simp [addNode,P1,hx]
      rw [hp1]
      exact (linksE_cut hR at' n e4).ended (Ended.lines fun l hl => by obtain ⟨y,_,rfl⟩ := List.mem_map.1 hl; simp [nodeW])
     ·have := many_cut nodeS_lt (fun _ _ _ _ h => h.node) nodeW addNode NodesOk nodes_step k_node (fun x => ⟨_,rfl⟩) n xs _ _ A3 C s2 e4
      exact Good.of this fun q => linksE_end
    ·have h := (nodes_step _ x xs (0 + (lineW (protoW p)).length + (lineW [wdFailures,Lib.itoa p.k]).length) [] hok).1
     rw [e3] at h
     left
     rw [cut_line (g := id) (fun _ _ _ _ h => h.node) h rfl hC n]
     rfl
   have hat : (((0 + (lineW (protoW p)).length + 9 : Nat)) : Int) = kAt4 p := by simp [kAt4]
   simp only [hat]
   rcases main (kAt4 p) with h | ⟨h2,h3 | h3⟩
   ·exact .inl h
   ·exact .inr ⟨Ended.line hpw (Ended.line (by simp) h2),.inl h3⟩
   ·exact .inr ⟨Ended.line hpw (Ended.line (by simp) h2),.inr ⟨h3,hmem A2⟩⟩
  ·have h := failuresS_line (q := ⟨p.proto,p.cap,0,[],[],[],[]⟩) (a := 0 + (lineW (protoW p)).length) (r := []) hR.k0 hR.k1
   rw [e2] at h
   left
   rw [cut_line (g := Prod.snd) (fun _ _ _ _ h => h.failures) h rfl hC n]
   rfl
 ·have h := protocolS_line (a := 0) (r := []) hR
  rw [e1] at h
  left
  rw [cut_line (g := id) (fun _ _ _ _ h => h.protocol) h rfl hC n]
  rfl
theorem lex_two {p : PPlan} (hR : RightP p) {L : List Tok} (hL : lexT (printT p) = (L,0,0)) : 2 ≤ L.length := by
 rw [lex_print hR] at hL
 have hL : linesToks 0 (linesW p) ++ [endT (printT p).length] = L := (Prod.mk.inj hL).1
 obtain ⟨l,b,e⟩ := lineToks_last (protoW p) 0 (protoW_ok hR).1
 rw [← hL,linesW_eq,lines1]
 simp only [List.cons_append]
 rw [linesToks,e]
 simp only [List.length_append,List.length_singleton]
 omega
theorem cuts_law {p : PPlan} (hR : RightP p) {L : List Tok} (hL : lexT (printT p) = (L,0,0)) {k : Nat} (hk : k + 1 < L.length) :
  ∃ m,m ≤ (printT p).length ∧ ((m : Nat) : Int) = (L.getD k d0T).at' + ((L.getD k d0T).text.length : Nat) ∧
   (((L.getD k d0T).kind ≠ 3 ∧ parseT ((printT p).take m) = (noPlan,40,(m : Int))) ∨
   ((L.getD k d0T).kind = 3 ∧ ((∃ q,parseT ((printT p).take m) = (q,0,0)) ∨ parseT ((printT p).take m) = (noPlan,40,(m : Int)) ∨ ∃ pl : Int,pl < m ∧ parseT ((printT p).take m) = (noPlan,42,pl)))) := by
 obtain ⟨m,h1,h2,h3⟩ := lexT_cut hL hk
 refine ⟨m,h1,h2,?_⟩
 rw [lex_print hR] at hL
 have hL : linesToks 0 (linesW p) ++ [endT (printT p).length] = L := (Prod.mk.inj hL).1
 have hk2 : k < (linesToks 0 (linesW p)).length := by rw [← hL,List.length_append,List.length_singleton] at hk; omega
 have ht : L.take (k + 1) = (linesToks 0 (linesW p)).take (k + 1) := by rw [← hL,List.take_append_of_le_length (by omega)]
 have hg : L.getD k d0T = (linesToks 0 (linesW p)).getD k d0T := by rw [← hL]; exact appGetL hk2
 have hA := allS_cut hR m (List.take_append_drop (k + 1) (linesToks 0 (linesW p))).symm
 rw [ht] at h3
 rw [hg]
 generalize hW : linesToks 0 (linesW p) = W at *
 have hend : Ended (W.take (k + 1)) → (W.getD k d0T).kind = 3 := by
  intro h
  rcases h with h | ⟨l,b,h⟩
  ·have := congrArg List.length h
   rw [List.length_take,List.length_nil] at this
   omega
  ·have hl := congrArg List.length h
   rw [List.length_take,List.length_append,List.length_singleton] at hl
   have e : W.getD k d0T = (W.take (k + 1)).getD k d0T := by
    rw [List.getD_eq_getElem?_getD,List.getD_eq_getElem?_getD,List.getElem?_take,if_pos (by omega)]
   rw [e,h,show k = l.length + 0 by omega,appGetR]
   rfl
 have hp : ∀ y,allS ⟨noPlan,W.take (k + 1) ++ [endT m]⟩ = y → parseT ((printT p).take m) = (match y with | .ok s => (s.p,0,0) | .error e => (noPlan,e.1,e.2)) := by
  intro y hy
  unfold parseT parseToks
  rw [h3]
  simp only [if_true,hy]
  rfl
 rcases hA with h | ⟨h4,⟨s,h⟩ | ⟨h,t,h5,h6,h7⟩⟩
 ·have := hp _ h
  by_cases h3 : (W.getD k d0T).kind = 3
  ·exact .inr ⟨h3,.inr (.inl this)⟩
  ·exact .inl ⟨h3,this⟩
 ·exact .inr ⟨hend h4,.inl ⟨s.p,hp _ h⟩⟩
 ·refine .inr ⟨hend h4,.inr (.inr ⟨kAt4 p,?_,hp _ h⟩)⟩
  have := lexT_strict (s := (printT p).take m) (t := t) (by rw [h3]; exact List.mem_append_left _ h5) h6
  rw [List.length_take] at this
  omega
end Go.Bk
