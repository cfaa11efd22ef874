/-
  REGIONS THAT DRAW THEIR ORDER: what only reads is taken first; what changes the world comes up in each order that is open.
-/
import Derived.Test.YtcbclephakfemaaGreatRRRDoorMem
import Derived.OrdersHeld
namespace Go.Bk
open Go

def PQ (Q : Exit → Act → World → Prop) : Prop := ∀ c (a : Act) d v w,Q (.panic c) (a.put d v) w → Q (.panic c) a w
theorem put_defers (a : Act) (d : Option Tmp) (v : Value) : (a.put d v).defers = a.defers := by cases d <;> rfl
theorem PQ.body (P : Program) (fn : Func) (R : Ending → World → Prop) : PQ (bodyPost P fn R) := fun _ _ _ _ _ h => ⟨put_defers _ _ _ ▸ h.1,h.2⟩
theorem PQ.kt {P : Program} {Q : Exit → Act → World → Prop} (h : PQ Q) : ∀ k,PQ (Kt P Q k)
 | [] => h
 | .code _ :: k => fun c a d v w hx => PQ.kt h k c a d v w hx
 | .blk _ :: k => fun c a d v w hx => PQ.kt h k c a d v w hx
 | .ops _ _ :: k => fun c a d v w hx => PQ.kt h k c a d v w hx
 | .inv _ :: k => fun c a d v w hx => PQ.kt h k c a d v w hx

def evLoadW (T : Tab) (t : TypeId) (x v : Value) : Option (Value × (World → List Prop)) :=
 match T.und t,x with
 | some d,.pointer (some ⟨b,o,none⟩) =>
  bif aggT d then
   (match v,T.siz t with
   | .agg cs,some s => bif Nat.beq cs.toList.length s then some (v,fun w => cellConds w b o cs.toList) else none
   | _,_ => none)
  else some (v,fun w => [w.cell? ⟨b,o,none⟩ = some v])
 | _,_ => none
theorem evLoadW_at {T : Tab} {t : TypeId} {x u v : Value} {f : World → List Prop} (h : evLoadW T t x u = some (v,f)) (w : World) : evLoad T w t x u = some (v,f w) := by
 unfold evLoadW at h
 unfold evLoad
 split at h
 ·rename_i d b o hd
  rw [hd]
  simp only
  cases ha : aggT d with
  | true =>
   rw [ha] at h
   simp only [cond_true] at h ⊢
   split at h
   ·rename_i cs s hs
    rw [hs]
    simp only
    cases hb : Nat.beq cs.toList.length s with
    | true =>
     rw [hb] at h
     simp only [cond_true,Option.some.injEq,Prod.mk.injEq] at h ⊢
     obtain ⟨rfl,rfl⟩ := h
     exact ⟨rfl,rfl⟩
    | false => rw [hb] at h; cases h
   ·cases h
  | false =>
   rw [ha] at h
   simp only [cond_false,Option.some.injEq,Prod.mk.injEq] at h ⊢
   obtain ⟨rfl,rfl⟩ := h
   exact ⟨rfl,rfl⟩
 ·cases h
def evOpW (T : Tab) (w0 : World) (st : St) (h : Option Value) (op : Op) : Option (Value × (World → List Prop)) :=
 match op with
 | .load t x => match h,opnd st x with
  | some u,some (a,p) => match evLoadW T t a u with
   | some (v,f) => some (v,fun w => p ++ f w)
   | none => none
  | _,_ => none
 | op => match evOp T w0 st none op with
  | some (v,ps) => some (v,fun _ => ps)
  | none => none
theorem evOpW_at {T : Tab} {w0 : World} {st : St} {h : Option Value} {op : Op} {v : Value} {f : World → List Prop} (he : evOpW T w0 st h op = some (v,f)) (w : World) :
  ∃ h',evOp T w st h' op = some (v,f w) := by
 unfold evOpW at he
 split at he
 ·rename_i t x
  split at he
  ·rename_i u a p ho
   split at he
   ·rename_i v' g hl
    simp only [Option.some.injEq,Prod.mk.injEq] at he
    obtain ⟨rfl,rfl⟩ := he
    refine ⟨some u,?_⟩
    simp only [evOp,ho,with1,evLoadW_at hl w]
   ·cases he
  ·cases he
 ·rename_i op hop
  split at he
  ·rename_i u ps hx
   simp only [Option.some.injEq,Prod.mk.injEq] at he
   obtain ⟨rfl,rfl⟩ := he
   refine ⟨none,?_⟩
   rw [← hx]
   cases op <;> first | rfl | exact absurd rfl (hop _ _)
  ·cases he

def take1 (T : Tab) (n : Nat) (w0 : World) (ops : Array Oper) (i : Nat) (L : List Bool) (st : St) (hs : List Hint) : Option (List Bool × St × List Hint × (World → List Prop)) :=
 match ops[i]? with
 | some o =>
  bif Region.noSelect ops && (Region.ready .any ops L.toArray).contains i && Region.free .any ops L.toArray i then
   match evGuard ops st o.guard hs with
   | some (none,ps,hs) => match o.dst with
    | some d => bif Nat.blt d n then some (L.set i true,sput st d none undef,hs,fun _ => ps) else none
    | none => none
   | some (some g,ps,hs) => match o.dst with
    | some d => bif Nat.blt d n then
      (bif isLoad o.op then
       (match hs with
       | .ld v :: hs => match evOpW T w0 st (some v) o.op with
        | some (v,f) => some (L.set i true,sput st d g v,hs,fun w => ps ++ under g (f w))
        | none => none
       | _ => none)
      else match evOpW T w0 st none o.op with
       | some (v,f) => some (L.set i true,sput st d g v,hs,fun w => ps ++ under g (f w))
       | none => none)
     else none
    | none => none
   | none => none
  else none
 | none => none
def takes (T : Tab) (n : Nat) (w0 : World) (ops : Array Oper) : List Nat → List Bool → St → List Hint → Option (List Bool × St × List Hint × (World → List Prop))
 | [],L,st,hs => some (L,st,hs,fun _ => [])
 | i :: r,L,st,hs => match take1 T n w0 ops i L st hs with
  | some (L1,st1,hs1,f) => match takes T n w0 ops r L1 st1 hs1 with
   | some (L2,st2,hs2,g) => some (L2,st2,hs2,fun w => f w ++ g w)
   | none => none
  | none => none

section
variable {P : Program} {T : Tab} {n : Nat} {ds : List Deferred} {Q : Exit → Act → World → Prop} {w : World}

def D (P : Program) (n : Nat) (ds : List Deferred) (Q : Exit → Act → World → Prop) (k : List Fr) (ops : Array Oper) (S : World → Prop) (fuel : Nat) (L : List Bool) (st : St) (w : World) : Prop :=
 PQ Q → ∀ a,Agree n ds st a → wpAnyH P .any ops (Kt P Q k) S fuel L.toArray a w

def opsAt : Code → Array Oper
 | .region _ ops _ => ops
 | _ => #[]
theorem dBegin {k k' : List Fr} {id m : Nat} {ops : Array Oper} {st : St} (S : World → World → Prop) (hm : P.follows .mixedOrders = true) (hQ : PQ Q) (hk : k = .code (.region id ops true) :: k') (hs : ops.size = m)
  (h : ∀ w1,Ext w w1 → D P n ds Q k' ops (S w1) m (List.replicate m false) st w1) : G P n ds Q k st w := by
 subst hk; subst hs
 intro a ha
 refine wp_region_held (S := S { w with drawn := w.drawn + 1 }) hm ?_
 have := h { w with drawn := w.drawn + 1 } (Ext.drew w) hQ a ha
 simpa using this

theorem set_arr (L : List Bool) (i : Nat) : L.toArray.setIfInBounds i true = (L.set i true).toArray := by simp

theorem take1_sound (hT : T.Ok P) {k : List Fr} {ops : Array Oper} {S : World → Prop} {fuel i : Nat} {L L' : List Bool} {st st' : St} {hs hs' : List Hint} {f : World → List Prop}
  (h : take1 T n w ops i L st hs = some (L',st',hs',f)) (hp : ∀ w,S w → ∀ p,p ∈ f w → p) (hS : S w) (hk : D P n ds Q k ops S fuel L' st' w) : D P n ds Q k ops S (fuel + 1) L st w := by
 unfold take1 at h
 split at h
 ·rename_i o ho
  cases hc : (Region.noSelect ops && (Region.ready .any ops L.toArray).contains i && Region.free .any ops L.toArray i) with
  | false => rw [hc] at h; cases h
  | true =>
   rw [hc] at h
   simp only [Bool.and_eq_true] at hc
   obtain ⟨⟨h1,h2⟩,h3⟩ := hc
   simp only [cond_true] at h
   intro hQ a ha
   split at h
   ·rename_i ps hs1 hg
    split at h
    ·rename_i d hd
     cases hdn : Nat.blt d n with
     | false => rw [hdn] at h; cases h
     | true =>
      rw [hdn] at h
      simp only [cond_true,Option.some.injEq,Prod.mk.injEq] at h
      obtain ⟨rfl,rfl,rfl,rfl⟩ := h
      have hw := evGuard_sound ha hg (hp w hS)
      simp only [GSays] at hw
      have hlt : d < n := by simpa [Nat.blt_eq] using hdn
      refine wpAnyH_take (v := undef) ho h1 h3 h2 (fun c a w => PQ.kt hQ k c a _ _ w) (.inr ⟨hw,rfl⟩) hS ?_
      rw [set_arr,hd]
      exact hk hQ _ (ha.put hlt none undef)
    ·cases h
   ·rename_i g ps hs1 hg
    split at h
    ·rename_i d hd
     cases hdn : Nat.blt d n with
     | false => rw [hdn] at h; cases h
     | true =>
      rw [hdn] at h
      simp only [cond_true] at h
      have hlt : d < n := by simpa [Nat.blt_eq] using hdn
      have main : ∀ {hv : Option Value} {v : Value} {q : World → List Prop} {hs2 : List Hint},evOpW T w st hv o.op = some (v,q) → (L.set i true,sput st d g v,hs2,fun w => ps ++ under g (q w)) = (L',st',hs',f) →
        wpAnyH P .any ops (Kt P Q k) S (fuel + 1) L.toArray a w := by
       intro hv v q hs2 he hx
       simp only [Prod.mk.injEq] at hx
       obtain ⟨rfl,rfl,rfl,rfl⟩ := hx
       have hw := evGuard_sound ha hg (mem_app_l (hp w hS))
       refine wpAnyH_take (v := gval g v) ho h1 h3 h2 (fun c a w => PQ.kt hQ k c a _ _ w) ?_ hS ?_
       ·have run : GOn g → ∀ w',S w' → (execOp a.eval o).run P w' = .ok (.value v) w' := by
         intro hon w' hS'
         obtain ⟨h',he'⟩ := evOpW_at he w'
         exact evOp_sound hT ha he' (under_on hon (mem_app_r (hp w' hS')))
        cases hgv : g with
        | none =>
         rw [hgv] at hw
         exact .inl ⟨hw,run (by rw [hgv]; trivial)⟩
        | some b =>
         rw [hgv] at hw
         cases hb : b with
         | true => subst hb; exact .inl ⟨hw,run (by rw [hgv]; rfl)⟩
         | false => subst hb; exact .inr ⟨hw,rfl⟩
       ·rw [set_arr,hd]
        exact hk hQ _ (ha.put hlt g v)
      cases hl : isLoad o.op with
      | true =>
       rw [hl] at h
       simp only [cond_true] at h
       split at h
       ·split at h
        ·rename_i he
         exact main he (Option.some.inj h)
        ·cases h
       ·cases h
      | false =>
       rw [hl] at h
       simp only [cond_false] at h
       split at h
       ·rename_i he
        exact main he (Option.some.inj h)
       ·cases h
    ·cases h
   ·cases h
 ·cases h
theorem takes_sound (hT : T.Ok P) {k : List Fr} {ops : Array Oper} {S : World → Prop} : ∀ (is : List Nat) {fuel : Nat} {L L' : List Bool} {st st' : St} {hs hs' : List Hint} {f : World → List Prop},
  takes T n w ops is L st hs = some (L',st',hs',f) → (∀ w,S w → ∀ p,p ∈ f w → p) → S w → D P n ds Q k ops S fuel L' st' w → D P n ds Q k ops S (fuel + is.length) L st w
 | [],fuel,L,L',st,st',hs,hs',f,h,_,_,hk => by
  simp only [takes,Option.some.injEq,Prod.mk.injEq] at h
  obtain ⟨rfl,rfl,rfl,rfl⟩ := h
  exact hk
 | i :: r,fuel,L,L',st,st',hs,hs',f,h,hp,hS,hk => by
  simp only [takes] at h
  split at h
  ·rename_i L1 st1 hs1 f1 h1
   split at h
   ·rename_i L2 st2 hs2 f2 h2
    simp only [Option.some.injEq,Prod.mk.injEq] at h
    obtain ⟨rfl,rfl,rfl,rfl⟩ := h
    exact take1_sound hT h1 (fun w hw => mem_app_l (hp w hw)) hS (takes_sound hT r h2 (fun w hw => mem_app_r (hp w hw)) hS hk)
   ·cases h
  ·cases h
theorem wpAnyH_mono {ops : Array Oper} {Q : Exit → Act → World → Prop} {S S' : World → Prop} (hi : ∀ w,S' w → S w) : ∀ (fuel : Nat) (listed : Array Bool) (a : Act) (w : World),wpAnyH P .any ops Q S' fuel listed a w → wpAnyH P .any ops Q S fuel listed a w
 | 0,_,_,_,h => h
 | fuel + 1,_,_,_,h => ⟨h.1,fun i hr => wpOp_mono (fun a' w' h' => ⟨hi _ h'.1,wpAnyH_mono hi fuel _ a' w' h'.2⟩) (h.2 i hr)⟩
theorem dMore {k : List Fr} {ops : Array Oper} {S : World → Prop} (S' : World → Prop) (hi : ∀ w,S' w → S w) {fuel : Nat} {L : List Bool} {st : St} (h : D P n ds Q k ops S' fuel L st w) : D P n ds Q k ops S fuel L st w :=
 fun hQ a ha => wpAnyH_mono hi _ _ _ _ (h hQ a ha)

def W (P : Program) (n : Nat) (ds : List Deferred) (Q : Exit → Act → World → Prop) (k : List Fr) (ops : Array Oper) (S : World → Prop) (fuel : Nat) (L : List Bool) (st : St) (w : World) (i : Nat) : Prop :=
 PQ Q → ∀ a,Agree n ds st a → wpOp P ops (Kt P Q k) i (fun a' w' => S w' ∧ wpAnyH P .any ops (Kt P Q k) S fuel (L.toArray.setIfInBounds i true) a' w') a w
def WAll (P : Program) (n : Nat) (ds : List Deferred) (Q : Exit → Act → World → Prop) (k : List Fr) (ops : Array Oper) (S : World → Prop) (fuel : Nat) (L : List Bool) (st : St) (w : World) : List Nat → Prop
 | [] => True
 | [i] => W P n ds Q k ops S fuel L st w i
 | i :: r => W P n ds Q k ops S fuel L st w i ∧ WAll P n ds Q k ops S fuel L st w r
theorem WAll.mem {k : List Fr} {ops : Array Oper} {S : World → Prop} {fuel : Nat} {L : List Bool} {st : St} : ∀ {rs : List Nat},WAll P n ds Q k ops S fuel L st w rs → ∀ i ∈ rs,W P n ds Q k ops S fuel L st w i
 | [],_,i,h => by cases h
 | [j],hw,i,h => by
  have : i = j := by simpa using h
  subst this; exact hw
 | j :: m :: r,hw,i,h => by
  rcases List.mem_cons.1 h with rfl | h
  ·exact hw.1
  ·exact WAll.mem hw.2 i h
theorem dAll {k : List Fr} {ops : Array Oper} {S : World → Prop} {fuel : Nat} {L : List Bool} {st : St} (r : Nat) (rs : List Nat) (hr : Region.ready .any ops L.toArray = r :: rs) (h : WAll P n ds Q k ops S fuel L st w (r :: rs)) : D P n ds Q k ops S (fuel + 1) L st w :=
 fun hQ a ha => wpAnyH_all hr (by simp) (fun i hi => WAll.mem h i hi hQ a ha)
def opInfoW (n : Nat) (ops : Array Oper) (st : St) (hs : List Hint) (i : Nat) : Option (EOp × Option Nat × List Prop) :=
 match ops[i]? with
 | some o => match evGuard ops st o.guard hs with
  | some (some none,ps,[]) => match evE st o.type o.op with
   | some (e,qs) => match o.dst with
    | some d => bif Nat.blt d n then some (e,some d,ps ++ qs) else none
    | none => some (e,none,ps ++ qs)
   | none => none
  | _ => none
 | none => none
theorem dOp {k : List Fr} {ops : Array Oper} {S : World → Prop} {fuel i : Nat} {L L' : List Bool} {st : St} {e : EOp} {d : Option Nat} {ps : List Prop} {Φ : Value → World → Prop} {hs : List Hint}
  (h : opInfoW n ops st hs i = some (e,d,ps)) (hp : All ps) (hL : L.set i true = L') (hr : Runs P w e Φ) (hn : ∀ v w',Φ v w' → S w' ∧ D P n ds Q k ops S fuel L' (sputO st d v) w') : W P n ds Q k ops S fuel L st w i := by
 subst hL
 have hp := hp.mem
 unfold opInfoW at h
 split at h
 ·rename_i o ho
  split at h
  ·rename_i ps' hg
   split at h
   ·rename_i e' qs he
    intro hQ a ha
    have main : ∀ {dd : Option Nat},o.dst = dd → d = dd → (∀ i,dd = some i → i < n) → e' = e → ps = ps' ++ qs → wpOp P ops (Kt P Q k) i (fun a' w' => S w' ∧ wpAnyH P .any ops (Kt P Q k) S fuel (L.toArray.setIfInBounds i true) a' w') a w := by
     intro dd hd hdd hlt hee hps
     subst hee; subst hps; subst hdd
     have hw := evGuard_sound ha hg (mem_app_l hp)
     simp only [GSays] at hw
     have hx := evE_sound ha he (mem_app_r hp)
     have next : ∀ v w',Φ v w' → (S w' ∧ wpAnyH P .any ops (Kt P Q k) S fuel (L.toArray.setIfInBounds i true) (a.put o.dst v) w') := by
      intro v w' hv
      obtain ⟨h1,h2⟩ := hn v w' hv
      refine ⟨h1,?_⟩
      rw [set_arr]
      refine h2 hQ _ ?_
      rw [hd]
      cases d with
      | none => exact ha
      | some i => exact ha.put (hlt i rfl) none v
     unfold wpOp
     simp only [ho]
     rw [if_pos hw]
     refine .inl ?_
     unfold Oper.wp
     rw [hx]
     unfold Runs at hr
     cases hres : e'.sem.run P w with
     | ok nx w' =>
      rw [hres] at hr
      cases nx <;> simp only at hr <;> first | exact next _ _ hr | exact hr.elim | skip
      rw [Oper.upon_enter]
      refine Calls.mono hr ?_
      rintro en w'' ⟨v,rfl,hv⟩
      exact next v w'' hv
     | halt x w' => rw [hres] at hr; exact hr.elim
    split at h
    ·rename_i j hd
     cases hb : Nat.blt j n with
     | false => rw [hb] at h; cases h
     | true =>
      rw [hb] at h
      simp only [cond_true,Option.some.injEq,Prod.mk.injEq] at h
      obtain ⟨h1,h2,h3⟩ := h
      exact main hd h2.symm (fun i hi => by cases hi; simpa [Nat.blt_eq] using hb) h1 h3.symm
    ·rename_i hd
     simp only [Option.some.injEq,Prod.mk.injEq] at h
     obtain ⟨h1,h2,h3⟩ := h
     exact main hd h2.symm (fun i hi => by cases hi) h1 h3.symm
   ·cases h
  ·cases h
 ·cases h
theorem dDone {k : List Fr} {ops : Array Oper} {S : World → Prop} {fuel : Nat} {L : List Bool} {st : St} (hr : Region.ready .any ops L.toArray = []) (h : G P n ds Q k st w) : D P n ds Q k ops S fuel L st w :=
 fun _ a ha => wpAnyH_done hr (h a ha) fuel
def lb (n m : Nat) : List Bool := (List.range n).map fun i => m.testBit i
end
end Go.Bk
