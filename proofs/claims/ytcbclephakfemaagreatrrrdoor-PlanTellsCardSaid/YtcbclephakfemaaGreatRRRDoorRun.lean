/-
  THE ENGINE's SECOND PART: calls, memory, branches, loops, beginnings and ends.
-/
import Derived.Test.YtcbclephakfemaaGreatRRRDoorEng
import Derived.Deep.LoopGhost
namespace Go.Bk
open Go

def Ret (Φ : Value → World → Prop) (e : Ending) (w : World) : Prop := ∃ v,e = .returned v ∧ Φ v w
def Does (P : Program) (f : FuncId) (args : List Value) (w : World) (Φ : Value → World → Prop) : Prop := Calls P f args.toArray w (Ret Φ)
theorem Does.mono {P : Program} {f : FuncId} {args : List Value} {w : World} {Φ Ψ : Value → World → Prop} (h : Does P f args w Φ) (hi : ∀ v w',Φ v w' → Ψ v w') : Does P f args w Ψ :=
 Calls.mono h fun _ _ ⟨v,he,hv⟩ => ⟨v,he,hi _ _ hv⟩
theorem Does.of_calls {P : Program} {f : FuncId} {args : List Value} {w : World} {R : Ending → World → Prop} {Φ : Value → World → Prop} (h : Calls P f args.toArray w R) (hi : ∀ e w',R e w' → ∃ v,e = .returned v ∧ Φ v w') : Does P f args w Φ :=
 Calls.mono h hi

inductive EOp where
 | call (f : FuncId) (args : List Value)
 | invoke (x : Value) (name : String) (args : List Value)
 | builtin (b : Builtin) (ts : Array TypeId) (ty : TypeId) (consts : Array Bool) (args : List Value)
 | box (t : TypeId) (v : Value)
 | alloc (t : TypeId)
 | bslice (t : TypeId) (len : Nat) (parts : List (Nat × Value))
 | store (t : TypeId) (a v : Value)
 | load (t : TypeId) (a : Value)
 | lookup (t : TypeId) (m k : Value) (ok : Bool)
 | mapUpd (t : TypeId) (m k v : Value)
 | makeMap (t : TypeId)
 | makeSlice (t : TypeId) (l c : Value)
 | conv (s d : TypeId) (x : Value)
 | bin (op : BinOp) (t : TypeId) (x y : Value)
 | slc (t : TypeId) (x : Value) (lo hi mx : Option Value)
 | index (t : TypeId) (x i : Value)
 | range (t : TypeId) (x : Value)
 | next (it : Value) (str : Bool) (ty : TypeId)
 | assertT (x : Value) (t u : TypeId) (ok : Bool)
 | panic (x : Value)

def EOp.sem : EOp → Sem Next
 | .call f args => callFunc f args.toArray
 | .invoke x name args => callMethod x name args.toArray
 | .builtin b ts ty cs args => Go.builtin b ts ty cs args.toArray
 | .box t v => do pure (.value (← Instr.box t v))
 | .alloc t => do pure (.value (← Instr.alloc t true (.tuple #[])))
 | .bslice t n ps => do pure (.value (← Instr.buildSlice t n ps.toArray))
 | .store t a v => do Instr.storeAt t a v; pure .skip
 | .load t a => do pure (.value (← Instr.loadAt t a))
 | .lookup t m k ok => do pure (.value (← Instr.lookup t m k ok))
 | .mapUpd t m k v => do Instr.mapUpdate t m k v; pure .skip
 | .makeMap t => do pure (.value (← Instr.makeMap t none))
 | .makeSlice t l c => do pure (.value (← Instr.makeSlice t l c))
 | .conv s d x => do pure (.value (← convert s d x))
 | .bin op t x y => do pure (.value (← (do eqGuard op t (.const x) (.const y) x y; binOp op t x y)))
 | .slc t x lo hi mx => do pure (.value (← Instr.sliceAt t x lo hi mx))
 | .index t x i => do pure (.value (← Instr.index t x i))
 | .range t x => do pure (.value (← Instr.range t x))
 | .next it s ty => do pure (.value (← Instr.next it s ty))
 | .assertT x t u ok => do pure (.value (← Instr.typeAssert x t u ok))
 | .panic x => do pure (.value (← Instr.panic x))

def Runs (P : Program) (w : World) (e : EOp) (Φ : Value → World → Prop) : Prop :=
 match e.sem.run P w with
 | .ok (.value v) w' => Φ v w'
 | .ok .skip w' => Φ undef w'
 | .ok (.enter f args) w' => Calls P f args w' (Ret Φ)
 | _ => False

def optOpnd (st : St) : Option Operand → Option (Option Value × List Prop)
 | none => some (none,[])
 | some x => match opnd st x with
  | some (v,p) => some (some v,p)
  | none => none

def eo1 (a : Option (Value × List Prop)) (f : Value → EOp) : Option (EOp × List Prop) :=
 match a with
 | some (v,p) => some (f v,p)
 | none => none
def eo2 (a b : Option (Value × List Prop)) (f : Value → Value → EOp) : Option (EOp × List Prop) :=
 match a,b with
 | some (v,p),some (u,q) => some (f v u,p ++ q)
 | _,_ => none
def eo3 (a b c : Option (Value × List Prop)) (f : Value → Value → Value → EOp) : Option (EOp × List Prop) :=
 match a,b,c with
 | some (v,p),some (u,q),some (x,r) => some (f v u x,p ++ (q ++ r))
 | _,_,_ => none

def evE (st : St) (ty : TypeId) : Op → Option (EOp × List Prop)
 | .call { callee := .value f,args,argTypes := _ } => match opnd st f,evArgs st args.toList with
  | some (.func (.func F) first captured,p),some (vs,q) => some (.call F (first.toList ++ (vs ++ captured.toList)),p ++ q)
  | _,_ => none
 | .call { callee := .invoke r name,args,argTypes := _ } => match opnd st r,evArgs st args.toList with
  | some (v,p),some (vs,q) => some (.invoke v name vs,p ++ q)
  | _,_ => none
 | .call { callee := .builtin b,args,argTypes } => match evArgs st args.toList with
  | some (vs,q) => some (.builtin b argTypes ty (args.map fun | .const _ => true | _ => false) vs,q)
  | none => none
 | .box t x => eo1 (opnd st x) (.box t)
 | .alloc t => some (.alloc t,[])
 | .buildSlice t n parts => match evParts st parts.toList with
  | some (vs,q) => some (.bslice t n vs,q)
  | none => none
 | .store t a x => eo2 (opnd st a) (opnd st x) (.store t)
 | .load t a => eo1 (opnd st a) (.load t)
 | .lookup t m k ok => eo2 (opnd st m) (opnd st k) fun m k => .lookup t m k ok
 | .mapUpdate t m k x | .insert t m k x => eo3 (opnd st m) (opnd st k) (opnd st x) (.mapUpd t)
 | .makeMap t none => some (.makeMap t,[])
 | .makeSlice t l c => eo2 (opnd st l) (opnd st c) (.makeSlice t)
 | .convert s d x => eo1 (opnd st x) (.conv s d)
 | .slice t x lo hi mx => match opnd st x,optOpnd st lo,optOpnd st hi,optOpnd st mx with
  | some (v,p),some (l,q),some (h,r),some (m,s) => some (.slc t v l h m,p ++ (q ++ (r ++ s)))
  | _,_,_,_ => none
 | .index t x i => eo2 (opnd st x) (opnd st i) (.index t)
 | .range t x => eo1 (opnd st x) (.range t)
 | .next it s => eo1 (opnd st it) fun v => .next v s ty
 | .typeAssert x t u ok => eo1 (opnd st x) fun v => .assertT v t u ok
 | .panic x => eo1 (opnd st x) .panic
 | _ => none

def opInfo (n : Nat) (st : St) (hs : List Hint) : List Fr → Option (EOp × Option Nat × List Fr × List Prop)
 | .ops all (o :: r) :: k =>
  match evGuard all st o.guard hs with
  | some (some none,ps,[]) => match evE st o.type o.op with
   | some (e,qs) => match o.dst with
    | some d => bif Nat.blt d n then some (e,some d,.ops all r :: k,ps ++ qs) else none
    | none => some (e,none,.ops all r :: k,ps ++ qs)
   | none => none
  | _ => none
 | _ => none

def sputO (st : St) (d : Option Nat) (v : Value) : St :=
 match d with
 | some d => sput st d none v
 | none => st

section
variable {P : Program} {n : Nat} {ds : List Deferred} {Q : Exit → Act → World → Prop} {w : World}

theorem eo1_some {a : Option (Value × List Prop)} {f : Value → EOp} {e : EOp} {ps : List Prop} (h : eo1 a f = some (e,ps)) : ∃ v,a = some (v,ps) ∧ e = f v := by
 unfold eo1 at h
 split at h
 ·simp only [Option.some.injEq,Prod.mk.injEq] at h
  obtain ⟨rfl,rfl⟩ := h
  exact ⟨_,rfl,rfl⟩
 ·cases h
theorem eo2_some {a b : Option (Value × List Prop)} {f : Value → Value → EOp} {e : EOp} {ps : List Prop} (h : eo2 a b f = some (e,ps)) : ∃ v u p q,a = some (v,p) ∧ b = some (u,q) ∧ e = f v u ∧ ps = p ++ q := by
 unfold eo2 at h
 split at h
 ·simp only [Option.some.injEq,Prod.mk.injEq] at h
  obtain ⟨rfl,rfl⟩ := h
  exact ⟨_,_,_,_,rfl,rfl,rfl,rfl⟩
 ·cases h
theorem eo3_some {a b c : Option (Value × List Prop)} {f : Value → Value → Value → EOp} {e : EOp} {ps : List Prop} (h : eo3 a b c f = some (e,ps)) : ∃ v u x p q r,a = some (v,p) ∧ b = some (u,q) ∧ c = some (x,r) ∧ e = f v u x ∧ ps = p ++ (q ++ r) := by
 unfold eo3 at h
 split at h
 ·simp only [Option.some.injEq,Prod.mk.injEq] at h
  obtain ⟨rfl,rfl⟩ := h
  exact ⟨_,_,_,_,_,_,rfl,rfl,rfl,rfl,rfl⟩
 ·cases h

theorem optOpnd_sound {st : St} {a : Act} (ha : Agree n ds st a) {x : Option Operand} {v : Option Value} {ps : List Prop} (h : optOpnd st x = some (v,ps)) (hp : ∀ p,p ∈ ps → p) : x.map a.eval = v := by
 cases x with
 | none =>
  simp only [optOpnd,Option.some.injEq,Prod.mk.injEq] at h
  rw [← h.1]; rfl
 | some x =>
  simp only [optOpnd] at h
  split at h
  ·rename_i u p ho
   simp only [Option.some.injEq,Prod.mk.injEq] at h
   obtain ⟨rfl,rfl⟩ := h
   rw [← opnd_sound ha ho hp]; rfl
  ·cases h

theorem evE_sound {st : St} {a : Act} (ha : Agree n ds st a) {o : Oper} {e : EOp} {ps : List Prop} (h : evE st o.type o.op = some (e,ps)) (hp : ∀ p,p ∈ ps → p) :
  execOp a.eval o = e.sem := by
 obtain ⟨dst,op,ty,pos,after,guard⟩ := o
 simp only at h
 unfold evE at h
 split at h
 ·rename_i f args _
  split at h
  ·rename_i F first captured p vs q h1 h2
   simp only [Option.some.injEq,Prod.mk.injEq] at h
   obtain ⟨rfl,rfl⟩ := h
   have e1 := opnd_sound ha h1 (mem_app_l hp)
   have e2 := map_toList_arr args a.eval _ (evArgs_sound ha _ _ _ h2 (mem_app_r hp))
   simp only [execOp,resolve,e1,e2,Deferred.ofValue,EOp.sem]
   simp only [pure_bind,invoke]
   congr 1
   apply Array.ext'
   simp
  ·cases h
 ·rename_i r name args _
  split at h
  ·rename_i v p vs q h1 h2
   simp only [Option.some.injEq,Prod.mk.injEq] at h
   obtain ⟨rfl,rfl⟩ := h
   have e1 := opnd_sound ha h1 (mem_app_l hp)
   have e2 := map_toList_arr args a.eval _ (evArgs_sound ha _ _ _ h2 (mem_app_r hp))
   simp only [execOp,resolve,e1,e2,EOp.sem,pure_bind,Go.invoke]
   have e3 : (#[v] ++ vs.toArray)[0]? = some v := by simp
   have e4 : (#[v] ++ vs.toArray).extract 1 (#[v] ++ vs.toArray).size = vs.toArray := by apply Array.ext'; simp
   simp only [e3,e4]
  ·cases h
 ·rename_i b args argTypes
  split at h
  ·rename_i vs q h2
   simp only [Option.some.injEq,Prod.mk.injEq] at h
   obtain ⟨rfl,rfl⟩ := h
   have e2 := map_toList_arr args a.eval _ (evArgs_sound ha _ _ _ h2 hp)
   simp only [execOp,resolve,e2,EOp.sem,pure_bind,invoke]
   rfl
  ·cases h
 ·obtain ⟨v,h1,rfl⟩ := eo1_some h
  simp only [execOp,opnd_sound ha h1 hp,EOp.sem]
 ·simp only [Option.some.injEq,Prod.mk.injEq] at h
  obtain ⟨rfl,rfl⟩ := h
  rfl
 ·rename_i parts
  split at h
  ·rename_i vs q h2
   simp only [Option.some.injEq,Prod.mk.injEq] at h
   obtain ⟨rfl,rfl⟩ := h
   have e2 : parts.map (fun (i,x) => (i,a.eval x)) = vs.toArray := map_toList_arr parts _ _ (evParts_sound ha _ _ _ h2 hp)
   simp only [execOp,e2,EOp.sem]
  ·cases h
 ·obtain ⟨v,u,p,q,h1,h2,rfl,rfl⟩ := eo2_some h
  simp only [execOp,opnd_sound ha h1 (mem_app_l hp),opnd_sound ha h2 (mem_app_r hp),EOp.sem]
 ·obtain ⟨v,h1,rfl⟩ := eo1_some h
  simp only [execOp,opnd_sound ha h1 hp,EOp.sem]
 ·obtain ⟨v,u,p,q,h1,h2,rfl,rfl⟩ := eo2_some h
  simp only [execOp,opnd_sound ha h1 (mem_app_l hp),opnd_sound ha h2 (mem_app_r hp),EOp.sem]
 ·obtain ⟨v,u,x,p,q,r,h1,h2,h3,rfl,rfl⟩ := eo3_some h
  simp only [execOp,opnd_sound ha h1 (mem_app_l hp),opnd_sound ha h2 (mem_app_l (mem_app_r hp)),opnd_sound ha h3 (mem_app_r (mem_app_r hp)),EOp.sem]
 ·obtain ⟨v,u,x,p,q,r,h1,h2,h3,rfl,rfl⟩ := eo3_some h
  simp only [execOp,opnd_sound ha h1 (mem_app_l hp),opnd_sound ha h2 (mem_app_l (mem_app_r hp)),opnd_sound ha h3 (mem_app_r (mem_app_r hp)),EOp.sem]
 ·simp only [Option.some.injEq,Prod.mk.injEq] at h
  obtain ⟨rfl,rfl⟩ := h
  rfl
 ·obtain ⟨v,u,p,q,h1,h2,rfl,rfl⟩ := eo2_some h
  simp only [execOp,opnd_sound ha h1 (mem_app_l hp),opnd_sound ha h2 (mem_app_r hp),EOp.sem]
 ·obtain ⟨v,h1,rfl⟩ := eo1_some h
  simp only [execOp,opnd_sound ha h1 hp,EOp.sem]
 ·split at h
  ·rename_i v p l q u r m s h1 h2 h3 h4
   simp only [Option.some.injEq,Prod.mk.injEq] at h
   obtain ⟨rfl,rfl⟩ := h
   simp only [execOp,opnd_sound ha h1 (mem_app_l hp),optOpnd_sound ha h2 (mem_app_l (mem_app_r hp)),optOpnd_sound ha h3 (mem_app_l (mem_app_r (mem_app_r hp))),optOpnd_sound ha h4 (mem_app_r (mem_app_r (mem_app_r hp))),EOp.sem]
  ·cases h
 ·obtain ⟨v,u,p,q,h1,h2,rfl,rfl⟩ := eo2_some h
  simp only [execOp,opnd_sound ha h1 (mem_app_l hp),opnd_sound ha h2 (mem_app_r hp),EOp.sem]
 ·obtain ⟨v,h1,rfl⟩ := eo1_some h
  simp only [execOp,opnd_sound ha h1 hp,EOp.sem]
 ·obtain ⟨v,h1,rfl⟩ := eo1_some h
  simp only [execOp,opnd_sound ha h1 hp,EOp.sem]
 ·obtain ⟨v,h1,rfl⟩ := eo1_some h
  simp only [execOp,opnd_sound ha h1 hp,EOp.sem]
 ·obtain ⟨v,h1,rfl⟩ := eo1_some h
  simp only [execOp,opnd_sound ha h1 hp,EOp.sem]
 ·cases h

theorem opStep {hs : List Hint} {k k' : List Fr} {st : St} {e : EOp} {d : Option Nat} {ps : List Prop} {Φ : Value → World → Prop}
  (h : opInfo n st hs k = some (e,d,k',ps)) (hp : All ps) (hr : Runs P w e Φ) (hn : ∀ v w',Φ v w' → G P n ds Q k' (sputO st d v) w') : G P n ds Q k st w := by
 have hp := hp.mem
 unfold opInfo at h
 split at h
 ·rename_i all o r k0
  split at h
  ·rename_i ps' hg
   split at h
   ·rename_i e' qs he
    intro a ha
    have main : ∀ {dd : Option Nat},o.dst = dd → d = dd → (∀ i,dd = some i → i < n) → e' = e → k' = .ops all r :: k0 → ps = ps' ++ qs → wpList P all (Kt P Q k0) (o :: r) a w := by
     intro dd hd hdd hlt hee hk hps
     subst hee; subst hk; subst hps; subst hdd
     have hw := evGuard_sound ha hg (mem_app_l hp)
     simp only [GSays] at hw
     have hx := evE_sound ha he (mem_app_r hp)
     have next : ∀ v w',Φ v w' → wpList P all (Kt P Q k0) r (a.put o.dst v) w' := by
      intro v w' hv
      refine hn v w' hv _ ?_
      rw [hd]
      cases d with
      | none => exact ha
      | some i => exact ha.put (hlt i rfl) none v
     unfold wpList
     rw [if_pos hw]
     refine .inl ?_
     unfold Oper.wp
     rw [hx]
     unfold Runs at hr
     cases hres : e'.sem.run P w with
     | ok nx w' =>
      rw [hres] at hr
      cases nx <;> simp only at hr <;> first | exact next _ _ hr | exact hr.elim | skip
      rw [Oper.upon_enter]
      refine Calls.mono hr ?_
      rintro en w'' ⟨v,rfl,hv⟩
      exact next v w'' hv
     | halt x w' => rw [hres] at hr; exact hr.elim
    split at h
    ·rename_i i hd
     cases hb : Nat.blt i n with
     | false => rw [hb] at h; cases h
     | true =>
      rw [hb] at h
      simp only [cond_true,Option.some.injEq,Prod.mk.injEq] at h
      obtain ⟨h1,h2,h3,h4⟩ := h
      exact main hd h2.symm (fun j hj => by cases hj; simpa [Nat.blt_eq] using hb) h1 h3.symm h4.symm
    ·rename_i hd
     simp only [Option.some.injEq,Prod.mk.injEq] at h
     obtain ⟨h1,h2,h3,h4⟩ := h
     exact main hd h2.symm (fun j hj => by cases hj) h1 h3.symm h4.symm
   ·cases h
  ·cases h
 ·cases h

def opInfoG (n : Nat) (st : St) : List Fr → Option (EOp × Nat × Bool × List Fr × List Prop)
 | .ops all (o :: r) :: k =>
  match evGuard all st o.guard [.sym] with
  | some (some (some g),ps,[]) => match evE st o.type o.op with
   | some (e,qs) => match o.dst with
    | some d => bif Nat.blt d n then some (e,d,g,.ops all r :: k,ps ++ under (some g) qs) else none
    | none => none
   | none => none
  | _ => none
 | _ => none
theorem opCond {k k' : List Fr} {st : St} {e : EOp} {d : Nat} {g : Bool} {ps : List Prop} (R : World → Prop) (X : Value)
  (h : opInfoG n st k = some (e,d,g,k',ps)) (hp : All ps) (hR : R w) (hr : g = true → Runs P w e fun v w' => v = X ∧ R w') (hn : ∀ w',R w' → G P n ds Q k' (sput st d (some g) X) w') : G P n ds Q k st w := by
 have hp := hp.mem
 unfold opInfoG at h
 split at h
 ·rename_i all o r k0
  split at h
  ·rename_i g' ps' hg
   split at h
   ·rename_i e' qs he
    split at h
    ·rename_i i hd
     cases hb : Nat.blt i n with
     | false => rw [hb] at h; cases h
     | true =>
      rw [hb] at h
      simp only [cond_true,Option.some.injEq,Prod.mk.injEq] at h
      obtain ⟨rfl,rfl,rfl,rfl,rfl⟩ := h
      intro a ha
      have hlt : i < n := by simpa [Nat.blt_eq] using hb
      have hw := evGuard_sound ha hg (mem_app_l hp)
      simp only [GSays] at hw
      show wpList P all (Kt P Q k0) (o :: r) a w
      unfold wpList
      cases hgv : g' with
      | false =>
       rw [hgv] at hw
       rw [if_neg (by simp [hw])]
       have := hn w hR _ (ha.put hlt (some g') X)
       rw [hgv] at this
       rw [hd]
       exact this
      | true =>
       rw [hgv] at hw
       rw [if_pos hw]
       refine .inl ?_
       have hx := evE_sound ha he (under_on (g := some g') hgv (mem_app_r hp))
       unfold Oper.wp
       rw [hx]
       have hr := hr hgv
       unfold Runs at hr
       have next : ∀ v w',(v = X ∧ R w') → wpList P all (Kt P Q k0) r (a.put o.dst v) w' := by
        rintro v w' ⟨rfl,hv⟩
        have := hn w' hv _ (ha.put hlt (some g') v)
        rw [hgv] at this
        rw [hd]
        exact this
       cases hres : e'.sem.run P w with
       | ok nx w' =>
        rw [hres] at hr
        cases nx <;> simp only at hr <;> first | exact next _ _ hr | exact hr.elim | skip
        rw [Oper.upon_enter]
        refine Calls.mono hr ?_
        rintro en w'' ⟨v,rfl,hv⟩
        exact next v w'' hv
       | halt x w' => rw [hres] at hr; exact hr.elim
    ·cases h
   ·cases h
  ·cases h
 ·cases h

theorem runs_call {f : FuncId} {args : List Value} {Φ : Value → World → Prop} (hE : Proofs.Enters P f) (h : Does P f args w Φ) : Runs P w (.call f args) Φ := by
 unfold Runs
 rw [show (EOp.call f args).sem = callFunc f args.toArray from rfl,hE]
 exact h

def condInfo (st : St) : List Fr → Option (Bool × List Fr × List Fr × List Prop)
 | .code (.cond c x y) :: k => match opnd st c with
  | some (.bool b,ps) => some (b,.code x :: k,.code y :: k,ps)
  | _ => none
 | _ => none
theorem br {k kt kf : List Fr} {st : St} {b : Bool} {ps : List Prop} (h : condInfo st k = some (b,kt,kf,ps)) (hp : All ps) {p : Prop} (hb : b = true ↔ p)
  (ht : p → G P n ds Q kt st w) (hf : ¬ p → G P n ds Q kf st w) : G P n ds Q k st w := by
 unfold condInfo at h
 split at h
 ·rename_i c x y k0
  split at h
  ·rename_i b' qs ho
   simp only [Option.some.injEq,Prod.mk.injEq] at h
   obtain ⟨rfl,rfl,rfl,rfl⟩ := h
   intro a ha
   have e := opnd_sound ha ho hp.mem
   show Code.wp P (.cond c x y) (Kt P Q k0) a w
   cases hb' : b' with
   | true => rw [hb'] at e hb; exact wp_cond_true e (ht (hb.1 rfl) a ha)
   | false => rw [hb'] at e hb; exact wp_cond_false e (hf (fun hx => by have := hb.2 hx; cases this) a ha)
  ·cases h
 ·cases h

theorem iffDec {p : Prop} [Decidable p] : decide p = true ↔ p := decide_eq_true_iff
theorem iffNot {b : Bool} {p : Prop} (h : b = true ↔ p) : (!b) = true ↔ ¬ p := by
 cases b with
 | false => exact ⟨fun _ hp => absurd (h.2 hp) (by decide),fun _ => rfl⟩
 | true => exact ⟨fun hx => absurd hx (by decide),fun hp => absurd (h.1 rfl) hp⟩
theorem iffAnd {b c : Bool} {p q : Prop} (h : b = true ↔ p) (k : c = true ↔ q) : (b && c) = true ↔ p ∧ q := by rw [Bool.and_eq_true,h,k]
theorem iffOr {b c : Bool} {p q : Prop} (h : b = true ↔ p) (k : c = true ↔ q) : (b || c) = true ↔ p ∨ q := by rw [Bool.or_eq_true,h,k]
structure Lp (ι : Type) where
 S : ι → St
 J : ι → World → Prop
 M : ι → Nat
def LI {ι : Type} (n : Nat) (ds : List Deferred) (L : Lp ι) (i : ι) : Act → World → Prop :=
 fun a w => ∃ i',Agree n ds (L.S i') a ∧ L.J i' w ∧ L.M i' < L.M i
theorem loopR {ι : Type} (L : Lp ι) {k k' : List Fr} {body : Code} {st : St} (hk : k = .code (.loop body) :: k') (i0 : ι) (ks : List Nat) (hst : keepOnly ks st = L.S i0) (hJ : L.J i0 w)
  (round : ∀ i w,L.J i w → G P n ds Q (.code body :: .inv (LI n ds L i) :: k') (L.S i) w) : G P n ds Q k st w := by
 subst hk
 intro a ha
 refine wp_loop_ghost (fun m a w => ∃ i,L.M i = m ∧ Agree n ds (L.S i) a ∧ L.J i w) (L.M i0) ⟨i0,rfl,hst ▸ ha.keep ks,hJ⟩ ?_
 rintro m a w ⟨i,rfl,ha',hJ'⟩
 refine wp_mono (round i w hJ' a ha') ?_
 intro e a' w' hq
 cases e with
 | normal =>
  obtain ⟨i',h1,h2,h3⟩ := hq
  exact ⟨L.M i',h3,i',rfl,h1,h2⟩
 | _ => exact hq
theorem again {ι : Type} {L : Lp ι} {i : ι} {k : List Fr} {st : St} (i' : ι) (ks : List Nat) (hst : keepOnly ks st = L.S i') (hJ : L.J i' w) (hμ : L.M i' < L.M i) : G P n ds Q (.inv (LI n ds L i) :: k) st w :=
 fun _ ha => ⟨i',hst ▸ ha.keep ks,hJ,hμ⟩

def argSt : Nat → List Value → St
 | _,[] => []
 | i,v :: r => (i,none,v) :: argSt (i + 1) r
theorem argSt_get : ∀ (l : List Value) (i j : Nat) (g : Option Bool) (v : Value),sget (argSt i l) j = some (g,v) → g = none ∧ i ≤ j ∧ l[j - i]? = some v
 | [],_,_,_,_,h => by cases h
 | x :: r,i,j,g,v,h => by
  simp only [argSt,sget] at h
  by_cases e : i = j
  ·subst e
   simp only [beqT,cond_true,Option.some.injEq,Prod.mk.injEq] at h
   obtain ⟨rfl,rfl⟩ := h
   exact ⟨rfl,Nat.le_refl _,by simp⟩
  ·simp only [beqF e,cond_false] at h
   obtain ⟨h1,h2,h3⟩ := argSt_get r (i + 1) j g v h
   refine ⟨h1,by omega,?_⟩
   rw [show j - i = (j - (i + 1)) + 1 by omega,List.getElem?_cons_succ]
   exact h3
theorem startG {f : FuncId} {fn : Func} {c : Code} {args : List Value} {R : Ending → World → Prop} (hf : P.funcs[f]? = some fn) (hb : fn.body = some c) (hn : Nat.ble args.length fn.ntmps = true)
  (h : G P fn.ntmps [] (bodyPost P fn R) [.code c] (argSt 0 args) w) : Calls P f args.toArray w R := by
 refine calls_of_wp hf hb ?_
 have hn := Nat.le_of_ble_eq_true hn
 refine h _ ⟨by simp; omega,rfl,fun i g v hs => ?_⟩
 obtain ⟨rfl,_,h3⟩ := argSt_get args 0 i g v hs
 simp only [Nat.sub_zero] at h3
 have hi : i < args.length := (List.getElem?_eq_some_iff.1 h3).1
 simp only [gval]
 rw [Array.getElem?_append_left (by simpa using hi)]
 simpa using h3

def retVals (T : Tab) (w : World) (st : St) : List Value → List ResultVar → Option (List Value × List Prop)
 | _,[] => some ([],[])
 | hs,.tmp t :: r => match sget st t,retVals T w st hs r with
  | some (g,v),some (vs,q) => some (v :: vs,need g ++ q)
  | _,_ => none
 | u :: hs,.cell a t :: r => match sget st a with
  | some (none,p) => match evLoad T w t p u,retVals T w st hs r with
   | some (v,ps),some (vs,q) => some (v :: vs,ps ++ q)
   | _,_ => none
  | _ => none
 | [],.cell _ _ :: _ => none
def retOf : List Value → Value
 | [v] => v
 | vs => .tuple vs.toArray
def rvF (tmps : Array Value) : ResultVar → Sem Value
 | .tmp t => pure (tmps.getD t undef)
 | .cell b t => do loadVar t (← asAddr (tmps.getD b undef))
theorem results_rvF (fn : Func) (tmps : Array Value) : results fn tmps = (do let vs ← fn.results.mapM (rvF tmps); pure (if h : vs.size = 1 then vs[0] else .tuple vs)) := by
 unfold results
 congr 1
theorem retVals_sound {st : St} {a : Act} (ha : Agree n ds st a) : ∀ (l : List ResultVar) (hs vs : List Value) (ps : List Prop),retVals (tabOf P) w st hs l = some (vs,ps) → (∀ p,p ∈ ps → p) →
  (l.mapM (rvF a.tmps)).run P w = .ok vs w
 | [],hs,vs,ps,h,_ => by
  simp only [retVals,Option.some.injEq,Prod.mk.injEq] at h
  rw [← h.1]; rfl
 | .tmp t :: r,hs,vs,ps,h,hp => by
  simp only [retVals] at h
  split at h
  ·rename_i g v us q h1 h2
   simp only [Option.some.injEq,Prod.mk.injEq] at h
   obtain ⟨rfl,rfl⟩ := h
   have hg := ha.get t g v h1
   rw [gval_on (need_on (mem_app_l hp))] at hg
   have ih := retVals_sound ha r hs us q h2 (mem_app_r hp)
   rw [List.mapM_cons,run_bindOk (a := v) (w' := w) (by simp [rvF,Array.getD_eq_getD_getElem?,hg]),run_bindOk ih]
   rfl
  ·cases h
 | .cell b t :: r,[],_,_,h,_ => by cases h
 | .cell b t :: r,u :: hs,vs,ps,h,hp => by
  simp only [retVals] at h
  split at h
  ·rename_i pv hs1
   split at h
   ·rename_i v qs us q h1 h2
    simp only [Option.some.injEq,Prod.mk.injEq] at h
    obtain ⟨rfl,rfl⟩ := h
    have hg := ha.get b none pv hs1
    simp only [gval] at hg
    have ih := retVals_sound ha r hs us q h2 (mem_app_r hp)
    have hl := evLoad_sound (tabOk P) h1 (mem_app_l hp)
    have hb : (rvF a.tmps (.cell b t)).run P w = .ok v w := by
     simp only [rvF,Array.getD_eq_getD_getElem?,hg,Option.getD_some]
     unfold evLoad at h1
     split at h1
     ·unfold Instr.loadAt at hl
      simp only [Instr.sureAddr] at hl
      rw [run_bindOk (Sem.run_pure (P := P) (w := w) _)] at hl
      simp only [asAddr]
      rw [run_bindOk (Sem.run_pure (P := P) (w := w) _)]
      exact hl
     ·cases h1
    rw [List.mapM_cons,run_bindOk hb,run_bindOk ih]
    rfl
   ·cases h
  ·cases h
theorem results_sound {fn : Func} {st : St} {a : Act} (ha : Agree n ds st a) {hs vs : List Value} {ps : List Prop} (h : retVals (tabOf P) w st hs fn.results.toList = some (vs,ps)) (hp : ∀ p,p ∈ ps → p) :
  (results fn a.tmps).run P w = .ok (retOf vs) w := by
 rw [results_rvF]
 have e := retVals_sound (P := P) (w := w) ha fn.results.toList hs vs ps h hp
 rw [Array.mapM_eq_mapM_toList,← bind_pure_comp]
 rw [Sem.run_bind,run_bindOk e]
 simp only [Sem.run_pure,Result.andThen]
 match vs with
 | [] => rfl
 | [v] => rfl
 | v :: u :: r => simp [retOf]
theorem retG {fn : Func} {R : Ending → World → Prop} {k : List Fr} {st : St} {hs vs : List Value} {ps : List Prop} (h : retVals (tabOf P) w st hs fn.results.toList = some (vs,ps)) (hp : All ps) (hR : R (.returned (retOf vs)) w) :
  G P n [] (bodyPost P fn R) (.code .ret :: k) st w := by
 intro a ha
 exact wp_ret (Kt_ret ⟨ha.defers,_,results_sound ha h hp.mem,hR⟩)
theorem endG {fn : Func} {R : Ending → World → Prop} {st : St} {hs vs : List Value} {ps : List Prop} (h : retVals (tabOf P) w st hs fn.results.toList = some (vs,ps)) (hp : All ps) (hR : R (.returned (retOf vs)) w) :
  G P n [] (bodyPost P fn R) [] st w := by
 intro a ha
 exact ⟨ha.defers,_,results_sound ha h hp.mem,hR⟩
theorem retD {fn : Func} {Φ : Value → World → Prop} {k : List Fr} {st : St} {hs vs : List Value} {ps : List Prop} (h : retVals (tabOf P) w st hs fn.results.toList = some (vs,ps)) (hp : All ps) {v : Value} (hv : retOf vs = v) (hR : Φ v w) :
  G P n [] (bodyPost P fn (Ret Φ)) (.code .ret :: k) st w := retG h hp ⟨_,rfl,hv ▸ hR⟩
theorem endD {fn : Func} {Φ : Value → World → Prop} {st : St} {hs vs : List Value} {ps : List Prop} (h : retVals (tabOf P) w st hs fn.results.toList = some (vs,ps)) (hp : All ps) {v : Value} (hv : retOf vs = v) (hR : Φ v w) :
  G P n [] (bodyPost P fn (Ret Φ)) [] st w := endG h hp ⟨_,rfl,hv ▸ hR⟩
theorem startD {f : FuncId} {fn : Func} {c : Code} {args : List Value} {Φ : Value → World → Prop} (hf : P.funcs[f]? = some fn) (hb : fn.body = some c) (hn : Nat.ble args.length fn.ntmps = true)
  (h : G P fn.ntmps [] (bodyPost P fn (Ret Φ)) [.code c] (argSt 0 args) w) : Does P f args w Φ := startG hf hb hn h
def goK (T : Tab) (n : Nat) (w : World) (m : Nat) (ks : List Nat) (c : Cfg) : Option (List Fr × St × List Prop) :=
 match go T n w m c with
 | some ((k,st,[]),ps) => some (k,keepOnly ks st,ps)
 | _ => none
theorem sg {T : Tab} (hT : T.Ok P) (m : Nat) (hs : List Hint) (ks : List Nat) {k k' : List Fr} {st st' : St} {ps : List Prop}
  (h : goK T n w m ks (k,st,hs) = some (k',st',ps)) (hp : All ps) (hk : G P n ds Q k' st' w) : G P n ds Q k st w := by
 unfold goK at h
 split at h
 ·rename_i k1 st1 qs hg
  simp only [Option.some.injEq,Prod.mk.injEq] at h
  obtain ⟨rfl,rfl,rfl⟩ := h
  exact seg hT m hs ks hg rfl hp hk
 ·cases h

def bodyOf (fn : Func) : Code := fn.body.getD .skip
def cAt : Code → List Nat → Code
 | c,[] => c
 | .seq a _,0 :: p => cAt a p
 | .seq _ b,_ :: p => cAt b p
 | .block _ c,_ :: p => cAt c p
 | .loop c,_ :: p => cAt c p
 | .cond _ x _,0 :: p => cAt x p
 | .cond _ _ y,_ :: p => cAt y p
 | c,_ :: _ => c
def kAt : Code → List Nat → List Fr → List Fr
 | c,[],k => .code c :: k
 | .seq a b,0 :: p,k => kAt a p (.code b :: k)
 | .seq _ b,_ :: p,k => kAt b p k
 | .block id c,_ :: p,k => kAt c p (.blk id :: k)
 | .cond _ x _,0 :: p,k => kAt x p k
 | .cond _ _ y,_ :: p,k => kAt y p k
 | c,_ :: _,k => .code c :: k
def kEnd (c : Code) (p : List Nat) (k : List Fr) : List Fr := (kAt c p k).tail
def kOp (c : Code) (p : List Nat) (i : Nat) (k : List Fr) : List Fr :=
 match cAt c p with
 | .region _ ops _ => .ops ops (ops.toList.drop i) :: kEnd c p k
 | _ => []
def stz (l : List (Nat × Value)) : St := l.map fun x => (x.1,none,x.2)
abbrev cl (w : World) (b i : Nat) (v : Value) : Prop := w.cell? ⟨b,i,none⟩ = some v
end
end Go.Bk
