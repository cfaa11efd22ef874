/-
  WHAT A CALL HOLDS OF ITS OWN: blocks and rows, apart from one another; how each operation turns that.
-/
import Derived.Test.YtcbclephakfemaaGreatRRRDoorDraw
import Derived.Maps.AppendAt
namespace Go.Bk
open Go

inductive Res where
 /-- A block that is known whole. -/
 | blk (b : Nat) (cs : List Value) (t : TypeId)
 /-- A slice that owns its row. -/
 | row (v : Value) (e : TypeId) (size n : Nat) (xs : List Value)
 /-- A map,of which only the keys are told. -/
 | map (b : Nat) (ks : List Value)
def Res.own : Res → Option Nat
 | .blk b _ _ => some b
 | .row v _ _ _ _ => v.ownBlock
 | .map b _ => some b
def Res.At (w : World) (B : Nat) : Res → Prop
 | .blk b cs t => B ≤ b ∧ w.heap[b]? = some (.cells cs.toArray t (0,0))
 | .row v e size n xs => w.ownsRow B e size v n xs
 | .map b ks => B ≤ b ∧ ∃ es clock,w.heap[b]? = some (.map es clock) ∧ es.toList.map (·.key) = ks
def Apart (r r' : Res) : Prop := ∀ b,¬ (r.own = some b ∧ r'.own = some b)
structure Hold (w : World) (B : Nat) (L : List Res) : Prop where
 base : B ≤ w.heap.size
 all : ∀ (i : Nat) (r : Res),L[i]? = some r → r.At w B
 apart : ∀ (i j : Nat) (r r' : Res),L[i]? = some r → L[j]? = some r' → i ≠ j → Apart r r'

theorem Res.lt {w : World} {B b : Nat} {r : Res} (h : r.At w B) (hb : r.own = some b) : B ≤ b ∧ b < w.heap.size := by
 cases r with
 | blk b' cs t =>
  simp only [Res.own,Option.some.injEq] at hb
  subst hb
  exact ⟨h.1,heap_lt h.2⟩
 | row v e size n xs =>
  obtain ⟨_,h2⟩ := h
  rcases h2 with ⟨hv,_⟩ | ⟨g,cap,cur,hv,hg,hh,_⟩
  ·rw [Res.own,hv] at hb; cases hb
  ·rw [Res.own,hv] at hb
   simp only [Value.ownBlock,Option.some.injEq] at hb
   subst hb
   exact ⟨hg,heap_lt hh⟩
 | map b' ks =>
  simp only [Res.own,Option.some.injEq] at hb
  subst hb
  obtain ⟨h1,es,clock,h2,_⟩ := h
  exact ⟨h1,heap_lt h2⟩
theorem Res.keep {w w' : World} {B : Nat} {r : Res} (h : r.At w B) (hk : ∀ b,r.own = some b → w'.heap[b]? = w.heap[b]?) : r.At w' B := by
 cases r with
 | blk b cs t => exact ⟨h.1,(hk b rfl).trans h.2⟩
 | row v e size n xs =>
  obtain ⟨h1,h2⟩ := h
  refine ⟨h1,?_⟩
  rcases h2 with h2 | ⟨g,cap,cur,hv,hg,hh,r⟩
  ·exact .inl h2
  ·refine .inr ⟨g,cap,cur,hv,hg,?_,r⟩
   rw [hk g (by rw [Res.own,hv]; rfl)]; exact hh
 | map b ks =>
  obtain ⟨h1,es,clock,h2,h3⟩ := h
  exact ⟨h1,es,clock,(hk b rfl).trans h2,h3⟩

namespace Hold
variable {w w' : World} {B : Nat} {L : List Res}
theorem nil (h : B ≤ w.heap.size) : Hold w B [] := ⟨h,fun i r h => by simp at h,fun i j r r' h => by simp at h⟩
theorem blk (h : Hold w B L) (i : Nat) {b : Nat} {cs : List Value} {t : TypeId} (hi : L[i]? = some (.blk b cs t)) : w.heap[b]? = some (.cells cs.toArray t (0,0)) := (h.all i _ hi).2
theorem lo (h : Hold w B L) (i : Nat) {b : Nat} {cs : List Value} {t : TypeId} (hi : L[i]? = some (.blk b cs t)) : B ≤ b := (h.all i _ hi).1
theorem row (h : Hold w B L) (i : Nat) {v : Value} {e : TypeId} {size n : Nat} {xs : List Value} (hi : L[i]? = some (.row v e size n xs)) : w.ownsRow B e size v n xs := h.all i _ hi
theorem ext (h : Hold w B L) (hE : Ext w w') : Hold w' B L :=
 ⟨Nat.le_trans h.base hE.le,fun i r hi => Res.keep (h.all i r hi) fun b hb => hE.block b (Res.lt (h.all i r hi) hb).2,h.apart⟩
theorem new (h : Hold w B L) {b : Nat} {cs : List Value} {t : TypeId} (hN : New w w' b (.cells cs.toArray t (0,0))) : Hold w' B (.blk b cs t :: L) := by
 have h' := h.ext hN.ext
 have fresh : ∀ (i : Nat) (r : Res),L[i]? = some r → r.own ≠ some b := by
  intro i r hi e
  have := (Res.lt (h.all i r hi) e).2
  have := hN.lo
  omega
 refine ⟨h'.base,fun i r hi => ?_,fun i j r r' hi hj hne => ?_⟩
 ·cases i with
  | zero =>
   simp only [List.getElem?_cons_zero,Option.some.injEq] at hi
   subst hi
   exact ⟨by have := hN.lo; have := h.base; omega,hN.own⟩
  | succ i => exact h'.all i r (by simpa using hi)
 ·cases i with
  | zero =>
   cases j with
   | zero => exact absurd rfl hne
   | succ j =>
    simp only [List.getElem?_cons_zero,Option.some.injEq] at hi
    subst hi
    rintro c ⟨h1,h2⟩
    have h1' := Option.some.inj h1
    subst h1'
    exact fresh j r' (by simpa using hj) h2
  | succ i =>
   cases j with
   | zero =>
    simp only [List.getElem?_cons_zero,Option.some.injEq] at hj
    subst hj
    rintro c ⟨h1,h2⟩
    have h2' := Option.some.inj h2
    subst h2'
    exact fresh i r (by simpa using hi) h1
   | succ j => exact h'.apart i j r r' (by simpa using hi) (by simpa using hj) (by omega)
theorem setGet {L : List Res} {i j : Nat} {x r : Res} (h : (L.set i x)[j]? = some r) : (j = i ∧ i < L.length ∧ r = x) ∨ (j ≠ i ∧ L[j]? = some r) := by
 rw [List.getElem?_set] at h
 by_cases e : i = j
 ·subst e
  rw [if_pos rfl] at h
  by_cases hl : i < L.length
  ·rw [if_pos hl] at h
   exact .inl ⟨rfl,hl,(Option.some.inj h).symm⟩
  ·rw [if_neg hl] at h; cases h
 ·rw [if_neg e] at h
  exact .inr ⟨fun h => e h.symm,h⟩
theorem newMap (h : Hold w B L) {b : Nat} {clock : Nat} (hN : New w w' b (.map #[] clock)) : Hold w' B (.map b [] :: L) := by
 have h' := h.ext hN.ext
 have fresh : ∀ (i : Nat) (r : Res),L[i]? = some r → r.own ≠ some b := by
  intro i r hi e
  have := (Res.lt (h.all i r hi) e).2
  have := hN.lo
  omega
 refine ⟨h'.base,fun i r hi => ?_,fun i j r r' hi hj hne => ?_⟩
 ·cases i with
  | zero =>
   simp only [List.getElem?_cons_zero,Option.some.injEq] at hi
   subst hi
   exact ⟨by have := hN.lo; have := h.base; omega,#[],clock,hN.own,rfl⟩
  | succ i => exact h'.all i r (by simpa using hi)
 ·cases i with
  | zero =>
   cases j with
   | zero => exact absurd rfl hne
   | succ j =>
    simp only [List.getElem?_cons_zero,Option.some.injEq] at hi
    subst hi
    rintro c ⟨h1,h2⟩
    have h1' := Option.some.inj h1
    subst h1'
    exact fresh j r' (by simpa using hj) h2
  | succ i =>
   cases j with
   | zero =>
    simp only [List.getElem?_cons_zero,Option.some.injEq] at hj
    subst hj
    rintro c ⟨h1,h2⟩
    have h2' := Option.some.inj h2
    subst h2'
    exact fresh i r (by simpa using hi) h1
   | succ j => exact h'.apart i j r r' (by simpa using hi) (by simpa using hj) (by omega)
theorem put (h : Hold w B L) (i : Nat) {r0 x : Res} (hi : L[i]? = some r0) (hle : w.heap.size ≤ w'.heap.size) (hx : x.At w' B) (hown : x.own = r0.own ∨ x.own = some w.heap.size)
  (hk : ∀ b,b < w.heap.size → r0.own ≠ some b → w'.heap[b]? = w.heap[b]?) : Hold w' B (L.set i x) := by
 have other : ∀ (j : Nat) (r : Res),j ≠ i → L[j]? = some r → ∀ b,r.own = some b → b < w.heap.size ∧ r0.own ≠ some b :=
  fun j r hj hr b hb => ⟨(Res.lt (h.all j r hr) hb).2,fun e => h.apart j i r r0 hr hi hj b ⟨hb,e⟩⟩
 have apartx : ∀ (j : Nat) (r : Res),j ≠ i → L[j]? = some r → ∀ b,r.own = some b → x.own ≠ some b := by
  intro j r hj hr b hb e'
  have := other j r hj hr b hb
  rcases hown with e | e
  ·exact this.2 (e ▸ e')
  ·rw [e] at e'
   have := Option.some.inj e'
   omega
 refine ⟨Nat.le_trans h.base hle,fun j r hj => ?_,fun j k r r' hj hk' hne => ?_⟩
 ·rcases setGet hj with ⟨_,_,rfl⟩ | ⟨hne,hr⟩
  ·exact hx
  ·exact Res.keep (h.all j r hr) fun b hb => hk b (other j r hne hr b hb).1 (other j r hne hr b hb).2
 ·rcases setGet hj with ⟨rfl,_,rfl⟩ | ⟨hj1,hr⟩
  ·rcases setGet hk' with ⟨rfl,_,_⟩ | ⟨hk1,hr'⟩
   ·exact absurd rfl hne
   ·exact fun b ⟨h1,h2⟩ => apartx k r' hk1 hr' b h2 h1
  ·rcases setGet hk' with ⟨rfl,_,rfl⟩ | ⟨hk1,hr'⟩
   ·exact fun b ⟨h1,h2⟩ => apartx j r hj1 hr b h1 h2
   ·exact h.apart j k r r' hr hr' hne
theorem set (h : Hold w B L) (i : Nat) {b : Nat} {cs cs' : List Value} {t : TypeId} (hi : L[i]? = some (.blk b cs t)) (hC : Chg w w' b (.cells cs'.toArray t (0,0))) : Hold w' B (L.set i (.blk b cs' t)) :=
 h.put i hi (Nat.le_of_eq hC.size.symm) ⟨h.lo i hi,hC.own⟩ (.inl rfl) fun k _ hk => hC.block k fun e => hk (by rw [e]; rfl)
theorem setMap (h : Hold w B L) (i : Nat) {b : Nat} {ks ks' : List Value} {es : Array MapEntry} {clock : Nat} (hi : L[i]? = some (.map b ks)) (hC : Chg w w' b (.map es clock)) (hk : es.toList.map (·.key) = ks') : Hold w' B (L.set i (.map b ks')) :=
 h.put i hi (Nat.le_of_eq hC.size.symm) ⟨(h.all i _ hi).1,es,clock,hC.own,hk⟩ (.inl rfl) fun k _ hk => hC.block k fun e => hk (by rw [e]; rfl)
theorem toExtMap {w0 : World} (h : Hold w w0.heap.size L) {b : Nat} {o : Obj} (hE : Ext w0 w) (hC : Chg w w' b o) (i : Nat) {ks : List Value} (hi : L[i]? = some (.map b ks)) : Ext w0 w' := hC.ext hE (h.all i _ hi).1
theorem map (h : Hold w B L) (i : Nat) {b : Nat} {ks : List Value} (hi : L[i]? = some (.map b ks)) : ∃ es clock,w.heap[b]? = some (.map es clock) ∧ es.toList.map (·.key) = ks := (h.all i _ hi).2
theorem setRow (h : Hold w B L) (i : Nat) {v : Value} {e : TypeId} {size n : Nat} {xs xs' : List Value} (hi : L[i]? = some (.row v e size n xs)) {g : Nat} (hg : v.ownBlock = some g) {o : Obj} (hC : Chg w w' g o) (hr : w'.ownsRow B e size v n xs') : Hold w' B (L.set i (.row v e size n xs')) :=
 h.put i hi (Nat.le_of_eq hC.size.symm) hr (.inl rfl) fun k _ hk => hC.block k fun e => hk (by rw [e]; exact hg)
theorem app (h : Hold w B L) (i : Nat) {v v' : Value} {e : TypeId} {size n n' : Nat} {xs xs' : List Value} (hi : L[i]? = some (.row v e size n xs)) (hr : w'.ownsRow B e size v' n' xs') (hg : w.grownBy w' v.ownBlock)
  (ho : v'.ownBlock = v.ownBlock ∨ v'.ownBlock = some w.heap.size) : Hold w' B (L.set i (.row v' e size n' xs')) :=
 h.put i hi hg.size hr ho fun k hk hne => hg.block k hk fun e => hne e.symm
theorem keep (h : Hold w B L) (ks : List Nat) (hks : ks.Nodup) {L' : List Res} (hL : ks.filterMap (fun k => L[k]?) = L') (hlt : ∀ k ∈ ks,k < L.length) : Hold w B L' := by
 subst hL
 have at' : ∀ (i : Nat) (r : Res),(ks.filterMap fun k => L[k]?)[i]? = some r → ∃ k,ks[i]? = some k ∧ L[k]? = some r := by
  clear hks
  induction ks with
  | nil => intro i r h; simp at h
  | cons k ks ih =>
   intro i r hr
   have hk : k < L.length := hlt k (by simp)
   rw [List.filterMap_cons,List.getElem?_eq_getElem hk] at hr
   simp only at hr
   cases i with
   | zero =>
    simp only [List.getElem?_cons_zero,Option.some.injEq] at hr
    exact ⟨k,rfl,by rw [List.getElem?_eq_getElem hk,hr]⟩
   | succ i => exact ih (fun k hk => hlt k (by simp [hk])) i r (by simpa using hr)
 refine ⟨h.base,fun i r hi => ?_,fun i j r r' hi hj hne => ?_⟩
 ·obtain ⟨k,_,hk⟩ := at' i r hi
  exact h.all k r hk
 ·obtain ⟨k,hk1,hk⟩ := at' i r hi
  obtain ⟨m,hm1,hm⟩ := at' j r' hj
  refine h.apart k m r r' hk hm fun e => hne ?_
  subst e
  exact (List.getElem?_inj (List.getElem?_eq_some_iff.1 hk1).1 hks).1 (hk1.trans hm1.symm)
theorem toRow (h : Hold w B L) (i : Nat) {b : Nat} {cs : List Value} {t : TypeId} (size n : Nat) (hi : L[i]? = some (.blk b cs t)) (hl : cs.length = n * size) (hn : n ≤ maxLen) : Hold w B (L.set i (.row (.slice (some ⟨b,0,none⟩) n n) t size n cs)) := by
 refine h.put i hi (Nat.le_refl _) ⟨hl,.inr ⟨b,n,cs.toArray,rfl,h.lo i hi,h.blk i hi,Nat.le_refl _,hn,by simpa using hl,by rw [← hl]; simp⟩⟩ (.inl rfl) fun _ _ _ => rfl
theorem nilRow (h : Hold w B L) {e : TypeId} {size : Nat} : Hold w B (.row (.slice none 0 0) e size 0 [] :: L) := by
 refine ⟨h.base,fun i r hi => ?_,fun i j r r' hi hj hne => ?_⟩
 ·cases i with
  | zero =>
   simp only [List.getElem?_cons_zero,Option.some.injEq] at hi
   subst hi
   exact ownsRow_nil
  | succ i => exact h.all i r (by simpa using hi)
 ·cases i with
  | zero =>
   simp only [List.getElem?_cons_zero,Option.some.injEq] at hi
   subst hi
   rintro b ⟨h1,_⟩
   cases h1
  | succ i =>
   cases j with
   | zero =>
    simp only [List.getElem?_cons_zero,Option.some.injEq] at hj
    subst hj
    rintro b ⟨_,h1⟩
    cases h1
   | succ j => exact h.apart i j r r' (by simpa using hi) (by simpa using hj) (by omega)
theorem toExt {w0 : World} (h : Hold w w0.heap.size L) {b : Nat} {o : Obj} (hE : Ext w0 w) (hC : Chg w w' b o) (i : Nat) {cs : List Value} {t : TypeId} (hi : L[i]? = some (.blk b cs t)) : Ext w0 w' := hC.ext hE (h.lo i hi)
theorem toExtApp {w0 : World} (h : Hold w w0.heap.size L) (hE : Ext w0 w) (i : Nat) {v : Value} {e : TypeId} {size n : Nat} {xs : List Value} (hi : L[i]? = some (.row v e size n xs)) (hg : w.grownBy w' v.ownBlock) : Ext w0 w' := grown_ext hg hE (h.row i hi) (Nat.le_refl _)
end Hold
section
variable {P : Program} {w : World}
theorem runs_appH {t ty e : TypeId} {B : Nat} {size bytes : Nat} {cs : Array Bool} (h : appInfo P t = some (e,size,bytes)) {v : Value} {n : Nat} {xs : List Value} (hown : w.ownsRow B e size v n xs) {b m c : Nat} {news : List Value} {e' : TypeId} {fz : Nat × Nat}
  (hb : w.heap[b]? = some (.cells news.toArray e' fz)) (hl : news.length = m * size) (h1 : ∀ u ∈ news,u.oneCell' = true) (h63 : n + m ≤ 9223372036854775807) (hbytes : (n + m) * bytes ≤ 140737488355328) (hbase : B ≤ w.heap.size) :
  Runs P w (.builtin .append #[t,t] ty cs [v,.slice (some ⟨b,0,none⟩) m c]) fun v' w' => w'.ownsRow B e size v' (n + m) (xs ++ news) ∧ w.grownBy w' v.ownBlock ∧ (v'.ownBlock = v.ownBlock ∨ v'.ownBlock = some w.heap.size) := by
 unfold appInfo at h
 split at h
 ·rename_i e0 hu
  split at h
  ·rename_i i hi
   split at h
   ·rename_i z hz
    cases hc : (Nat.beq z.cells.size i.size && Nat.blt 0 i.size) with
    | false => rw [hc] at h; cases h
    | true =>
     rw [hc] at h
     simp only [cond_true,Option.some.injEq,Prod.mk.injEq] at h
     obtain ⟨rfl,rfl,rfl⟩ := h
     simp only [Bool.and_eq_true] at hc
     have hzs : z.cells.size = i.size := Nat.eq_of_beq_eq_true hc.1
     have hsz : 0 < i.size := by simpa [Nat.blt_eq] using hc.2
     obtain ⟨v',w',hr,a1,a2,_,a4⟩ := run_append_own_at (P := P) w B t ty e0 i z i.size i.bytes hu hi hz rfl rfl hzs hsz v n xs hown ⟨b,0,none⟩ m c news hl (fun j u hu => by rw [addr_add]; exact cell_of hb (by simpa using hu)) h1 (by simpa [maxLen] using h63) hbytes hbase
     exact runs_value (s := Builtin.append_ #[t,t] ty #[v,.slice (some ⟨b,0,none⟩) m c]) rfl hr ⟨a1,a2,a4⟩
   ·cases h
  ·cases h
 ·cases h
theorem Chg.same {b : Nat} {o : Obj} (h : w.heap[b]? = some o) : Chg w w b o := ⟨rfl,rfl,rfl,rfl,h,fun _ _ => rfl⟩
theorem flat_drop {α : Type} {enc : α → List Value} {sz : Nat} (hsz : ∀ x,(enc x).length = sz) : ∀ (xs : List α) (l : Nat),(xs.drop l).flatMap enc = (xs.flatMap enc).drop (l * sz)
 | xs,0 => by simp
 | [],l + 1 => by simp
 | x :: xs,l + 1 => by
  have he : (enc x).length ≤ (l + 1) * sz := by rw [hsz,Nat.add_mul]; omega
  have e2 : (l + 1) * sz - sz = l * sz := by rw [Nat.add_mul]; omega
  rw [List.drop_succ_cons,flat_drop hsz xs l,List.flatMap_cons,List.drop_append,(show (enc x).drop ((l + 1) * sz) = [] from List.drop_eq_nil_of_le he),List.nil_append,hsz,e2]
theorem flat_take {α : Type} {enc : α → List Value} {sz : Nat} (hsz : ∀ x,(enc x).length = sz) : ∀ (xs : List α) (l : Nat),(xs.take l).flatMap enc = (xs.flatMap enc).take (l * sz)
 | xs,0 => by simp
 | [],l + 1 => by simp
 | x :: xs,l + 1 => by
  have he : (enc x).length ≤ (l + 1) * sz := by rw [hsz,Nat.add_mul]; omega
  have e2 : (l + 1) * sz - sz = l * sz := by rw [Nat.add_mul]; omega
  rw [List.take_succ_cons,List.flatMap_cons,flat_take hsz xs l,List.flatMap_cons,List.take_append,(show (enc x).take ((l + 1) * sz) = enc x from List.take_of_length_le he),hsz,e2]
theorem Cells.take {w : World} {a : Option Addr} {vs : List Value} (h : Cells w a vs) (k : Nat) : Cells w a (vs.take k) := by
 rcases h with h | ⟨h1,h2⟩
 ·exact .inl (by rw [h]; simp)
 ·refine .inr ⟨h1,fun j v hv => h2 j v ?_⟩
  rw [List.getElem?_take] at hv
  split at hv
  ·exact hv
  ·cases hv
theorem Cells.drop {w : World} {a : Option Addr} {vs : List Value} (h : Cells w a vs) (k : Nat) : Cells w (a.map (·.add k)) (vs.drop k) := by
 rcases h with h | ⟨h1,h2⟩
 ·exact .inl (by rw [h]; simp)
 ·right
  have e : a.map (·.add k) = some ⟨slB a,slO a + k,none⟩ := by
   rw [h1]
   simp only [Option.map_some,slB,slO,addr_add]
  refine ⟨by rw [e]; rfl,fun j v hv => ?_⟩
  rw [e]
  simp only [slB,slO]
  rw [Nat.add_assoc]
  exact h2 (k + j) v (by rw [List.getElem?_drop] at hv; exact hv)
theorem runs_slc_lo {α : Type} {enc : α → List Value} {sz : Nat} (hsz : ∀ x,(enc x).length = sz) {t e : TypeId} (ht : P.underlying t = some (.slice e)) (hs : (tabOf P).siz e = some sz) {w0 : World} {a : Option Addr} {c l : Nat} {xs : List α} (hc : Cells w0 a (xs.flatMap enc)) (hl : l ≤ xs.length) (hcap : xs.length ≤ c) :
  Runs P w (.slc t (.slice a xs.length c) (some (.int .i64 ((l : Nat) : Int))) none none) fun v w' => w = w' ∧ ∃ a',v = .slice a' (xs.drop l).length (c - l) ∧ Cells w0 a' ((xs.drop l).flatMap enc) := by
 refine runs_value (s := Instr.sliceAt t (.slice a xs.length c) (some (.int .i64 ((l : Nat) : Int))) none none) (v := .slice (if c = l then a else a.map (·.add (l * sz))) (xs.length - l) (c - l)) (w' := w) rfl ?_ ⟨rfl,_,by rw [List.length_drop],?_⟩
 ·unfold Instr.sliceAt
  rw [run_bindOk (run_underlying ht w)]
  simp only
  unfold Instr.slice
  rw [run_bindOk (run_underlying ht w)]
  simp only
  have hb : (Instr.sliceBounds true xs.length c (some (.int .i64 ((l : Nat) : Int))) none none).run P w = .ok (l,xs.length,c) w := by
   unfold Instr.sliceBounds
   simp only
   rw [run_bindOk (run_pure' c w),run_bindOk (run_pure' xs.length w),run_bindOk (run_bound rfl (by omega) w)]
   simp
  rw [run_bindOk hb,run_bindOk (run_siz (tabOk P) hs w)]
  rfl
 ·split
  ·rename_i e
   rcases hc with h | ⟨h1,h2⟩
   ·left
    rw [flat_drop hsz,h]; simp
   ·rcases Nat.lt_or_ge l xs.length with h | h
    ·omega
    ·left
     rw [List.drop_eq_nil_of_le h]; rfl
  ·rw [flat_drop hsz]; exact hc.drop _
theorem runs_slc_hi {α : Type} {enc : α → List Value} {sz : Nat} (hsz : ∀ x,(enc x).length = sz) {t e : TypeId} (ht : P.underlying t = some (.slice e)) (hs : (tabOf P).siz e = some sz) {w0 : World} {a : Option Addr} {c l : Nat} {xs : List α} (hc : Cells w0 a (xs.flatMap enc)) (hl : l ≤ xs.length) (hcap : xs.length ≤ c) :
  Runs P w (.slc t (.slice a xs.length c) none (some (.int .i64 ((l : Nat) : Int))) none) fun v w' => w = w' ∧ v = .slice a (xs.take l).length c ∧ Cells w0 a ((xs.take l).flatMap enc) := by
 refine runs_value (s := Instr.sliceAt t (.slice a xs.length c) none (some (.int .i64 ((l : Nat) : Int))) none) (v := .slice a l c) (w' := w) rfl ?_ ⟨rfl,by rw [List.length_take,Nat.min_eq_left hl],by rw [flat_take hsz]; exact hc.take _⟩
 unfold Instr.sliceAt
 rw [run_bindOk (run_underlying ht w)]
 simp only
 unfold Instr.slice
 rw [run_bindOk (run_underlying ht w)]
 simp only
 have hb : (Instr.sliceBounds true xs.length c none (some (.int .i64 ((l : Nat) : Int))) none).run P w = .ok (0,l,c) w := by
  unfold Instr.sliceBounds
  simp only
  rw [run_bindOk (run_pure' c w),run_bindOk (run_bound rfl (by omega) w)]
  simp
 rw [run_bindOk hb,run_bindOk (run_siz (tabOk P) hs w)]
 simp only [Nat.zero_mul,Nat.sub_zero,Sem.run_pure]
 congr 2
 split
 ·rfl
 ·cases a with
  | none => rfl
  | some a => simp [Addr.add]
end
end Go.Bk
