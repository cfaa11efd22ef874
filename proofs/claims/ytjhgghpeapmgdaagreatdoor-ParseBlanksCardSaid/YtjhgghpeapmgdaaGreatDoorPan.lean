/-
  CALLS THAT MAY PANIC: contracts of two ends; deferred calls that recover.
-/
import Derived.Test.YtjhgghpeapmgdaaGreatDoorMore
import Derived.Recover
namespace Go.Bk
open Go

def Out (Φ Χ : Value → World → Prop) (e : Ending) (w : World) : Prop :=
 (∃ v,e = .returned v ∧ Φ v w) ∨ ∃ x,e = .panicked [{ v := x,recovered := false }] ∧ Χ x w
def DoesP (P : Program) (f : FuncId) (args : List Value) (w : World) (Φ Χ : Value → World → Prop) : Prop := Calls P f args.toArray w (Out Φ Χ)
theorem DoesP.mono {P : Program} {f : FuncId} {args : List Value} {w : World} {Φ Χ Φ' Χ' : Value → World → Prop} (h : DoesP P f args w Φ Χ) (hi : ∀ v w',Φ v w' → Φ' v w') (hx : ∀ v w',Χ v w' → Χ' v w') : DoesP P f args w Φ' Χ' :=
 Calls.mono h fun _ _ h => h.elim (fun ⟨v,he,hv⟩ => .inl ⟨v,he,hi _ _ hv⟩) fun ⟨x,he,hv⟩ => .inr ⟨x,he,hx _ _ hv⟩
def RunsP (P : Program) (w : World) (e : EOp) (Φ Χ : Value → World → Prop) : Prop :=
 match e.sem.run P w with
 | .ok (.value v) w' => Φ v w'
 | .ok .skip w' => Φ undef w'
 | .ok (.enter f args) w' => Calls P f args w' (Out Φ Χ)
 | .halt (.panic x) w' => Χ x w'
 | _ => False
section
variable {P : Program} {n : Nat} {ds : List Deferred} {Q : Exit → Act → World → Prop} {w : World}
theorem runs_callP {f : FuncId} {args : List Value} {Φ Χ : Value → World → Prop} (hE : Proofs.Enters P f) (h : DoesP P f args w Φ Χ) : RunsP P w (.call f args) Φ Χ := by
 unfold RunsP
 rw [show (EOp.call f args).sem = callFunc f args.toArray from rfl,hE]
 exact h
theorem runs_panic {t : TypeId} {v : Value} {Φ Χ : Value → World → Prop} (h : Χ (.iface t v) w) : RunsP P w (.panic (.iface t v)) Φ Χ := by
 unfold RunsP
 have : (EOp.panic (.iface t v)).sem.run P w = .halt (.panic (.iface t v)) w := rfl
 rw [this]
 exact h
theorem opStepP {hs : List Hint} {k k' : List Fr} {st : St} {e : EOp} {d : Option Nat} {ps : List Prop} {Φ Χ : Value → World → Prop}
  (h : opInfo n st hs k = some (e,d,k',ps)) (hp : All ps) (hr : RunsP P w e Φ Χ) (hx : ∀ x w',Χ x w' → ∀ a : Act,Agree n ds st a → Q (.panic [{ v := x,recovered := false }]) a w') (hn : ∀ v w',Φ v w' → G P n ds Q k' (sputO st d v) w') : G P n ds Q k st w := by
 have hp := hp.mem
 unfold opInfo at h
 split at h
 ·rename_i all o r k0
  split at h
  ·rename_i ps' hg
   split at h
   ·rename_i e' qs he
    intro a ha
    have main : ∀ {dd : Option Nat},o.dst = dd → d = dd → (∀ i,dd = some i → i < n) → e' = e → k' = .ops all r :: k0 → ps = ps' ++ qs → wpList P all (Kt P Q k0) (o :: r) a w := by
     intro dd hd hdd hlt hee hk hps
     subst hee; subst hk; subst hps; subst hdd
     have hw := evGuard_sound ha hg (mem_app_l hp)
     simp only [GSays] at hw
     have hx' := evE_sound ha he (mem_app_r hp)
     have next : ∀ v w',Φ v w' → wpList P all (Kt P Q k0) r (a.put o.dst v) w' := by
      intro v w' hv
      refine hn v w' hv _ ?_
      rw [hd]
      cases d with
      | none => exact ha
      | some i => exact ha.put (hlt i rfl) none v
     unfold wpList
     rw [if_pos hw]
     refine .inl ?_
     unfold Oper.wp
     rw [hx']
     unfold RunsP at hr
     cases hres : e'.sem.run P w with
     | ok nx w' =>
      rw [hres] at hr
      cases nx <;> simp only at hr <;> first | exact next _ _ hr | exact hr.elim | skip
      rw [Oper.upon_enter]
      refine Calls.mono hr ?_
      rintro en w'' (⟨v,rfl,hv⟩ | ⟨x,rfl,hv⟩)
      ·exact next v w'' hv
      ·exact Kt_panic (hx x w'' hv a ha)
     | halt x w' =>
      rw [hres] at hr
      cases x <;> simp only at hr
      exact Kt_panic (hx _ w' hr a ha)
    split at h
    ·rename_i i hd
     cases hb : Nat.blt i n with
     | false => rw [hb] at h; cases h
     | true =>
      rw [hb] at h
      simp only [cond_true,Option.some.injEq,Prod.mk.injEq] at h
      obtain ⟨h1,h2,h3,h4⟩ := h
      exact main hd h2.symm (fun j hj => by cases hj; simpa [Nat.blt_eq] using hb) h1 h3.symm h4.symm
    ·rename_i hd
     simp only [Option.some.injEq,Prod.mk.injEq] at h
     obtain ⟨h1,h2,h3,h4⟩ := h
     exact main hd h2.symm (fun j hj => by cases hj) h1 h3.symm h4.symm
   ·cases h
  ·cases h
 ·cases h
theorem ossP (hs : List Hint) (e : EOp) (d : Option Nat) (k' : List Fr) (ps : List Prop) (hp : All ps) {P : Program} {n : Nat} {fn : Func} {w : World} {k : List Fr} {st : St} {Φ Χ Φ0 Χ0 : Value → World → Prop}
  (hr : RunsP P w e Φ Χ) (hx : ∀ x w',Χ x w' → Χ0 x w') (hn : ∀ v w',Φ v w' → G P n [] (bodyPost P fn (Out Φ0 Χ0)) k' (sputO st d v) w') (h : opInfo n st hs k = some (e,d,k',ps) := by kernel_rfl) : G P n [] (bodyPost P fn (Out Φ0 Χ0)) k st w :=
 opStepP h hp hr (fun x w' hv _ ha => ⟨ha.defers,.inr ⟨x,rfl,hx x w' hv⟩⟩) hn
theorem startP {f : FuncId} {fn : Func} {c : Code} {args : List Value} {Φ Χ : Value → World → Prop} (hf : P.funcs[f]? = some fn) (hb : fn.body = some c) (hn : Nat.ble args.length fn.ntmps = true)
  (h : G P fn.ntmps [] (bodyPost P fn (Out Φ Χ)) [.code c] (argSt 0 args) w) : DoesP P f args w Φ Χ := startG hf hb hn h
theorem retP {fn : Func} {Φ Χ : Value → World → Prop} {k : List Fr} {st : St} {hs vs : List Value} {ps : List Prop} (h : retVals (tabOf P) w st hs fn.results.toList = some (vs,ps)) (hp : All ps) {v : Value} (hv : retOf vs = v) (hR : Φ v w) :
  G P n [] (bodyPost P fn (Out Φ Χ)) (.code .ret :: k) st w := retG h hp (.inl ⟨_,rfl,hv ▸ hR⟩)
theorem endP {fn : Func} {Φ Χ : Value → World → Prop} {st : St} {hs vs : List Value} {ps : List Prop} (h : retVals (tabOf P) w st hs fn.results.toList = some (vs,ps)) (hp : All ps) {v : Value} (hv : retOf vs = v) (hR : Φ v w) :
  G P n [] (bodyPost P fn (Out Φ Χ)) [] st w := endG h hp (.inl ⟨_,rfl,hv ▸ hR⟩)
end
section
variable {P : Program} {n : Nat}
theorem wpOpsS_of_list {ops : Array Oper} {Q1 : Exit → Act → World → Prop} {Q : Exit → Act → List Frame → World → Prop} {cs : List Frame} (hQ : ∀ e a w,Q1 e a w → Q e a cs w) (hno : ¬ LetsOut Q1) : ∀ (l : List Oper) (k : Nat) (a : Act) (w : World),(∀ j,j < l.length → l[j]? = ops[k + j]?) →
  wpList P ops Q1 l a w → wpOpsS P ops Q (List.range' k l.length) a cs w
 | [],_,a,w,_,h => hQ _ _ _ h
 | o :: r,k,a,w,hl,h => by
  have ho : ops[k]? = some o := by have := hl 0 (by simp); simpa using this.symm
  have hl' : ∀ j,j < r.length → r[j]? = ops[k + 1 + j]? := fun j hj => by
   have := hl (j + 1) (by simpa using hj)
   rw [List.getElem?_cons_succ] at this
   rw [this,show k + (j + 1) = k + 1 + j by omega]
  have ih := fun a w => wpOpsS_of_list hQ hno r (k + 1) a w hl'
  unfold wpList at h
  rw [List.length_cons,List.range'_succ]
  simp only [wpOpsS,ho]
  split
  ·rename_i hw
   rw [if_pos hw] at h
   have h := h.resolve_right fun x => hno x.2
   unfold Oper.wp at h
   split
   ·rename_i w' hr
    rw [hr] at h
    exact h.elim
   ·rename_i x hnot
    revert h
    generalize (execOp a.eval o).run P w = y
    intro h
    unfold Oper.upon at h ⊢
    split at h <;> rename_i hx
    ·exact ih _ _ h
    ·exact ih _ _ h
    ·exact ih _ _ h
    ·refine Calls.mono h ?_
     intro e w'' he
     cases e with
     | returned v => exact ih _ _ he
     | panicked c => exact hQ _ _ _ he
     | outgrown => obtain ⟨a1,w1,h1⟩ := he; exact ⟨a1,w1,hQ _ _ _ h1⟩
    ·intro fr cs'
     obtain ⟨v,w'',hv,hs⟩ := h fr cs'
     exact ⟨v,w'',ih _ _ hv,hs⟩
    ·exact hQ _ _ _ h
    ·exact h.elim
  ·rename_i hw
   rw [if_neg hw] at h
   exact ih _ _ h
theorem callsD_recover {f : FuncId} {fn : Func} {id : Nat} {ops : Array Oper} {rest : Code} {args : List Value} {u u1 : FrameMode} {w : World} {R : Ending → FrameMode → World → Prop} {o : Oper} {os : List Oper} {d : Nat} {val : Value}
  (hf : P.funcs[f]? = some fn) (hb : fn.body = some (.seq (.region id ops false) rest)) (hops : ops.toList = o :: os) (ho : o.op = .call { callee := .builtin .recover,args := #[],argTypes := #[] }) (hg : o.guard = none) (hd : o.dst = some d) (hdn : d < fn.ntmps) (hn : args.length ≤ fn.ntmps)
  (hrec : ∀ (c : Frame) (cs : List Frame),c.mode = u → (match recoverD (c :: cs) with | some (v,cs') => v = val ∧ cs' = { c with mode := u1 } :: cs | none => val = .nilIface ∧ u1 = u)) (hout : ∀ u w,¬ R .outgrown u w)
  (h : G P fn.ntmps [] (bodyPost P fn (fun e w' => R e u1 w')) [.ops ops os,.code rest] (sput (argSt 0 args) d none val) w) : CallsD P f args.toArray u w R := by
 refine callsD_of_wpS hf hb fun c₀ cs hu => ?_
 refine wpS_seq (wpS_region ?_)
 have hsz : ops.size = os.length + 1 := by rw [← Array.length_toList,hops]; rfl
 have h0 : ops[0]? = some o := by rw [← Array.getElem?_toList,hops]; rfl
 rw [hsz,List.range_eq_range',List.range'_succ]
 have hw : Region.wanted o (yielded ops (args.toArray ++ Array.replicate (fn.ntmps - args.toArray.size) undef)) = true := by simp [Region.wanted,hg]
 have hx : ∀ (ρ : Operand → Value) (w : World),(execOp ρ o).run P w = .ok .recover w := by
  intro ρ w
  unfold execOp
  rw [ho]
  rfl
 simp only [wpOpsS,h0,hw,if_true,hx]
 have hag : Agree fn.ntmps [] (argSt 0 args) { tmps := args.toArray ++ Array.replicate (fn.ntmps - args.toArray.size) undef,defers := [] } := by
  refine ⟨by simp; omega,rfl,fun i g v hs => ?_⟩
  obtain ⟨rfl,_,h3⟩ := argSt_get args 0 i g v hs
  simp only [Nat.sub_zero] at h3
  have hi : i < args.length := (List.getElem?_eq_some_iff.1 h3).1
  simp only [gval]
  rw [Array.getElem?_append_left (by simpa using hi)]
  simpa using h3
 have key := h _ (hag.put hdn none val)
 have hQ : ∀ e a w',bodyPost P fn (fun e w' => R e u1 w') e a w' → bodyPostS P fn c₀ cs R e a ({ c₀ with mode := u1 } :: cs) w' := by
  intro e a w' he
  cases e with
  | normal => obtain ⟨h1,v,h2,h3⟩ := he; exact ⟨h1,u1,rfl,v,h2,h3⟩
  | ret => obtain ⟨h1,v,h2,h3⟩ := he; exact ⟨h1,u1,rfl,v,h2,h3⟩
  | panic c => exact ⟨he.1,u1,rfl,he.2⟩
  | exit id => exact he.elim
  | goto l => exact he.elim
  | outgrown => exact (hout _ _ he).elim
 have main : wpOpsS P ops (Exit.thenS (rest.wpS P (bodyPostS P fn c₀ cs R)) (bodyPostS P fn c₀ cs R)) (List.range' (0 + 1) os.length) (({ tmps := args.toArray ++ Array.replicate (fn.ntmps - args.toArray.size) undef,defers := [] } : Act).put o.dst val) ({ c₀ with mode := u1 } :: cs) w := by
  refine wpOpsS_of_list (Q1 := Kt P (bodyPost P fn (fun e w' => R e u1 w')) [.code rest]) ?_ ?_ os 1 _ w (fun j _ => ?_) ?_
  ·intro e a w' he
   cases e with
   | normal => exact wpS_of_wp (wp_mono he hQ)
   | ret => exact hQ .ret a w' he
   | panic c => exact hQ (.panic c) a w' he
   | exit id => exact hQ (.exit id) a w' he
   | goto l => exact hQ (.goto l) a w' he
   | outgrown => exact hQ .outgrown a w' he
  ·rintro ⟨a,w',hh⟩
   exact hout _ _ hh
  ·rw [← Array.getElem?_toList,hops,show 1 + j = j + 1 by omega,List.getElem?_cons_succ]
  ·rw [hd] ; exact key
 have hr := hrec c₀ cs hu
 cases hc : recoverD (c₀ :: cs) with
 | none =>
  rw [hc] at hr
  obtain ⟨rfl,rfl⟩ := hr
  have e : ({ c₀ with mode := u1 } : Frame) = c₀ := by rw [← hu]
  rw [e] at main
  exact main
 | some p =>
  obtain ⟨v,cs'⟩ := p
  rw [hc] at hr
  obtain ⟨rfl,rfl⟩ := hr
  exact main
end
section
variable {P : Program} {n : Nat} {w : World}
theorem startDefers {f : FuncId} {fn : Func} {c : Code} {args : List Value} {R : Ending → World → Prop} (hf : P.funcs[f]? = some fn) (hb : fn.body = some c) (hn : Nat.ble args.length fn.ntmps = true)
  (h : G P fn.ntmps [] (bodyPostD P fn R) [.code c] (argSt 0 args) w) : Calls P f args.toArray w R := by
 refine calls_of_wp_defers hf hb ?_
 have hn := Nat.le_of_ble_eq_true hn
 refine h _ ⟨by simp; omega,rfl,fun i g v hs => ?_⟩
 obtain ⟨rfl,_,h3⟩ := argSt_get args 0 i g v hs
 simp only [Nat.sub_zero] at h3
 have hi : i < args.length := (List.getElem?_eq_some_iff.1 h3).1
 simp only [gval]
 rw [Array.getElem?_append_left (by simpa using hi)]
 simpa using h3
def defInfo (st : St) : List Fr → Option (Fn × Array Value × List Fr × List Prop)
 | .ops all (o :: r) :: k => match o.guard,o.dst,o.op with
  | none,none,.defer { callee := .value f,args,argTypes := _ } => match args.toList,opnd st f with
   | [],some (.func fv first captured,ps) => match first.toList with
    | [] => some (fv,captured,.ops all r :: k,ps)
    | _ => none
   | _,_ => none
  | _,_,_ => none
 | _ => none
theorem opDefer {Q : Exit → Act → World → Prop} {k k' : List Fr} {st : St} {fv : Fn} {cap : Array Value} {ps : List Prop} (h : defInfo st k = some (fv,cap,k',ps)) (hp : All ps)
  (hn : G P n [{ target := .fn fv cap,args := #[] }] Q k' st w) : G P n [] Q k st w := by
 have hp := hp.mem
 unfold defInfo at h
 split at h
 ·rename_i all o r k0
  split at h
  ·rename_i f args argTypes hg hd hop
   split at h
   ·rename_i fv' first captured qs hargs ho
    split at h
    ·rename_i hfirst
     simp only [Option.some.injEq,Prod.mk.injEq] at h
     obtain ⟨rfl,rfl,rfl,rfl⟩ := h
     intro a ha
     have e1 := opnd_sound ha ho hp
     have e2 : args = #[] := by apply Array.ext'; simpa using hargs
     have e3 : first = #[] := by apply Array.ext'; simpa using hfirst
     subst e2; subst e3
     have hx : (execOp a.eval o).run P w = .ok (.defer { target := .fn fv' captured,args := #[] }) w := by
      unfold execOp
      rw [hop]
      simp [resolve,e1,Deferred.ofValue]
     show wpList P all (Kt P Q k0) (o :: r) a w
     unfold wpList
     rw [if_pos (by simp [Region.wanted,hg])]
     refine .inl ?_
     unfold Oper.wp
     rw [hx,Oper.upon_defer,hd]
     refine hn _ ⟨ha.size,?_,ha.get⟩
     show _ :: a.defers = _
     rw [ha.defers]
    ·cases h
   ·cases h
  ·cases h
 ·cases h
theorem leaves_one {fn : Func} {R : Ending → World → Prop} {f : FuncId} {cap : List Value} {u : FrameMode} {a : Act} {st : St} {Ψ : World → Prop} {d : Deferred} (ha : Agree n [d] st a) (hd : d = { target := .fn (.func f) cap.toArray,args := #[] }) (hu : u ≠ .run) (hE : Proofs.Enters P f)
  (h : CallsD P f cap.toArray u w fun e u' w' => settle u' = .returning ∧ (∃ v,e = .returned v) ∧ Ψ w')
  (hres : ∀ w',Ψ w' → ∃ hs vs ps,retVals (tabOf P) w' st hs fn.results.toList = some (vs,ps) ∧ All ps ∧ R (.returned (retOf vs)) w') : Leaves P fn a.tmps R [d] u w := by
 subst hd
 have hi : (invoke (.fn (.func f) cap.toArray) #[]).run P w = .ok (.enter f cap.toArray) w := by
  have := hE (args := cap.toArray) (w := w)
  simpa [invoke] using this
 refine leaves_cons hu hi (h.mono ?_)
 rintro e u' w' ⟨hs,⟨v,rfl⟩,hΨ⟩
 obtain ⟨hs',vs,ps,h1,h2,h3⟩ := hres w' hΨ
 show Leaves P fn a.tmps R [] (settle u') w'
 rw [hs]
 exact ⟨_,results_sound ha h1 h2.mem,h3⟩
theorem retDefer {fn : Func} {R : Ending → World → Prop} {f : FuncId} {cap : List Value} {st : St} {k : List Fr} {Ψ : World → Prop} (hE : Proofs.Enters P f)
  (h : CallsD P f cap.toArray .returning w fun e u' w' => settle u' = .returning ∧ (∃ v,e = .returned v) ∧ Ψ w')
  (hres : ∀ w',Ψ w' → ∃ hs vs ps,retVals (tabOf P) w' st hs fn.results.toList = some (vs,ps) ∧ All ps ∧ R (.returned (retOf vs)) w') : G P n [{ target := .fn (.func f) cap.toArray,args := #[] }] (bodyPostD P fn R) (.code .ret :: k) st w := by
 intro a ha
 refine wp_ret (Kt_ret ?_)
 show Leaves P fn a.tmps R a.defers .returning w
 rw [ha.defers]
 exact leaves_one ha rfl (by simp) hE h hres
theorem callDefer {fn : Func} {R : Ending → World → Prop} {f : FuncId} {cap : List Value} {st : St} {k k' : List Fr} {hs : List Hint} {e : EOp} {dd : Option Nat} {ps : List Prop} {Φ Χ : Value → World → Prop} {Ψ : Value → World → Prop} (hi : opInfo n st hs k = some (e,dd,k',ps)) (hp : All ps) (hr : RunsP P w e Φ Χ) (hE : Proofs.Enters P f)
  (h : ∀ x w',Χ x w' → CallsD P f cap.toArray (.panicking [{ v := x,recovered := false }]) w' fun e u' w2 => settle u' = .returning ∧ (∃ v,e = .returned v) ∧ Ψ x w2)
  (hres : ∀ x w' w2,Χ x w' → Ψ x w2 → ∃ hs vs ps,retVals (tabOf P) w2 st hs fn.results.toList = some (vs,ps) ∧ All ps ∧ R (.returned (retOf vs)) w2)
  (hn : ∀ v w',Φ v w' → G P n [{ target := .fn (.func f) cap.toArray,args := #[] }] (bodyPostD P fn R) k' (sputO st dd v) w') : G P n [{ target := .fn (.func f) cap.toArray,args := #[] }] (bodyPostD P fn R) k st w := by
 refine opStepP hi hp hr (fun x w' hv a ha => ?_) hn
 show Leaves P fn a.tmps R a.defers (.panicking [{ v := x,recovered := false }]) w'
 rw [ha.defers]
 exact leaves_one ha rfl (by simp) hE (h x w' hv) (fun w2 => hres x w' w2 hv)
theorem runs_assert_hit {t u : TypeId} {fs : Array Field} {v : Value} (hu : P.underlying u = some (.struct fs)) : Runs P w (.assertT (.iface u v) t u true) fun r w' => r = .tuple #[v,.bool true] ∧ w = w' := by
 refine runs_value (s := Instr.typeAssert (.iface u v) t u true) (v := .tuple #[v,.bool true]) (w' := w) rfl ?_ ⟨rfl,rfl⟩
 unfold Instr.typeAssert
 simp only
 rw [run_bindOk (run_underlying hu w)]
 simp
theorem runs_assert_nil {t u : TypeId} {fs : Array Field} {z : Value} (hu : P.underlying u = some (.struct fs)) (hz : (tabOf P).zero u = some z) : Runs P w (.assertT .nilIface t u true) fun r w' => r = .tuple #[z,.bool false] ∧ w = w' := by
 refine runs_value (s := Instr.typeAssert .nilIface t u true) (v := .tuple #[z,.bool false]) (w' := w) rfl ?_ ⟨rfl,rfl⟩
 unfold Instr.typeAssert
 simp only
 rw [run_bindOk (run_underlying hu w)]
 simp only [if_true]
 rw [run_bindOk (run_zer (tabOk P) hz w)]
 rfl
end
theorem Hold.join {w1 w2 : World} {B : Nat} {L1 L2 : List Res} (h1 : Hold w1 B L1) (hE : Ext w1 w2) (h2 : Hold w2 w1.heap.size L2) : Hold w2 B (L1 ++ L2) := by
 have h1' := h1.ext hE
 have low : ∀ (r : Res),r.At w2 w1.heap.size → r.At w2 B := by
  intro r hr
  have hb := h1.base
  cases r with
  | blk b cs t => exact ⟨Nat.le_trans hb hr.1,hr.2⟩
  | row v e size n xs => exact ownsRow_base hr hb
  | map b ks => exact ⟨Nat.le_trans hb hr.1,hr.2⟩
 have lt1 : ∀ (i : Nat) (r : Res),L1[i]? = some r → ∀ b,r.own = some b → b < w1.heap.size := fun i r hi b hb => (Res.lt (h1.all i r hi) hb).2
 have ge2 : ∀ (i : Nat) (r : Res),L2[i]? = some r → ∀ b,r.own = some b → w1.heap.size ≤ b := fun i r hi b hb => (Res.lt (h2.all i r hi) hb).1
 have at' : ∀ (i : Nat) (r : Res),(L1 ++ L2)[i]? = some r → (i < L1.length ∧ L1[i]? = some r) ∨ (L1.length ≤ i ∧ L2[i - L1.length]? = some r) := by
  intro i r hi
  rw [List.getElem?_append] at hi
  split at hi
  ·exact .inl ⟨by assumption,hi⟩
  ·exact .inr ⟨by omega,hi⟩
 refine ⟨h1'.base,fun i r hi => ?_,fun i j r r' hi hj hne => ?_⟩
 ·rcases at' i r hi with ⟨_,hi⟩ | ⟨_,hi⟩
  ·exact h1'.all i r hi
  ·exact low r (h2.all _ r hi)
 ·rcases at' i r hi with ⟨li,hi⟩ | ⟨li,hi⟩
  ·rcases at' j r' hj with ⟨lj,hj⟩ | ⟨lj,hj⟩
   ·exact h1'.apart i j r r' hi hj hne
   ·rintro b ⟨e1,e2⟩
    have := lt1 _ r hi b e1
    have := ge2 _ r' hj b e2
    omega
  ·rcases at' j r' hj with ⟨lj,hj⟩ | ⟨lj,hj⟩
   ·rintro b ⟨e1,e2⟩
    have := ge2 _ r hi b e1
    have := lt1 _ r' hj b e2
    omega
   ·exact h2.apart _ _ r r' hi hj (by omega)
theorem Hold.addRow {w1 w2 : World} {B : Nat} {L : List Res} (h1 : Hold w1 B L) (hE : Ext w1 w2) {v : Value} {e : TypeId} {size n : Nat} {xs : List Value} (hr : w2.ownsRow w1.heap.size e size v n xs) : Hold w2 B (L ++ [.row v e size n xs]) := by
 refine h1.join hE ⟨hE.le,fun i r hi => ?_,fun i j r r' hi hj hne => ?_⟩
 ·cases i with
  | zero =>
   simp only [List.getElem?_cons_zero,Option.some.injEq] at hi
   subst hi; exact hr
  | succ i => simp at hi
 ·have h1 : i = 0 := by
   have := (List.getElem?_eq_some_iff.1 hi).1
   simpa using this
  have h2 : j = 0 := by
   have := (List.getElem?_eq_some_iff.1 hj).1
   simpa using this
  omega
section
variable {P : Program} {n : Nat} {w : World}
theorem wpList_mono {ops : Array Oper} {Q1 Q2 : Exit → Act → World → Prop} (hQ : ∀ e a w,Q1 e a w → Q2 e a w) : ∀ (l : List Oper) (a : Act) (w : World),wpList P ops Q1 l a w → wpList P ops Q2 l a w
 | [],_,_,h => hQ _ _ _ h
 | o :: r,a,w,h => by
  have ih := wpList_mono (ops := ops) hQ r
  unfold wpList at h ⊢
  split at h
  ·rename_i hw
   rw [if_pos hw]
   rcases h with h | ⟨h1,a1,w1,h2⟩
   ·refine .inl ?_
    unfold Oper.wp at h ⊢
    revert h
    generalize (execOp a.eval o).run P w = y
    intro h
    unfold Oper.upon at h ⊢
    split at h
    ·exact ih _ _ h
    ·exact ih _ _ h
    ·exact ih _ _ h
    ·refine Calls.mono h ?_
     intro e w'' he
     cases e with
     | returned v => exact ih _ _ he
     | panicked c => exact hQ _ _ _ he
     | outgrown => obtain ⟨a1,w1,h1⟩ := he; exact ⟨a1,w1,hQ _ _ _ h1⟩
    ·intro fr cs'
     obtain ⟨v,w'',hv,hs⟩ := h fr cs'
     exact ⟨v,w'',ih _ _ hv,hs⟩
    ·exact hQ _ _ _ h
    ·exact h.elim
   ·exact .inr ⟨h1,a1,w1,hQ _ _ _ h2⟩
  ·rename_i hw
   rw [if_neg hw]
   exact ih _ _ h
theorem Kt_mono {Q1 Q2 : Exit → Act → World → Prop} (hQ : ∀ e a w,Q1 e a w → Q2 e a w) : ∀ (k : List Fr) (e : Exit) (a : Act) (w : World),Kt P Q1 k e a w → Kt P Q2 k e a w
 | [],e,a,w,h => hQ e a w h
 | .code c :: k,e,a,w,h => by
  cases e <;> first | exact wp_mono (show c.wp P (Kt P Q1 k) a w from h) (Kt_mono hQ k) | exact Kt_mono hQ k _ a w h
 | .blk id :: k,e,a,w,h => by
  unfold Kt at h ⊢
  cases e <;> first | exact Kt_mono hQ k _ a w h | skip
  simp only [Exit.inBlock] at h ⊢
  split at h
  ·rename_i hi; rw [if_pos hi]; exact Kt_mono hQ k _ a w h
  ·rename_i hi; rw [if_neg hi]; exact Kt_mono hQ k _ a w h
 | .ops all rest :: k,e,a,w,h => by
  cases e <;> first | exact wpList_mono (Kt_mono hQ k) rest a w h | exact Kt_mono hQ k _ a w h
 | .inv I :: k,e,a,w,h => by
  cases e <;> first | exact h | exact Kt_mono hQ k _ a w h
theorem gMono {ds : List Deferred} {Q1 Q2 : Exit → Act → World → Prop} {k : List Fr} {st : St} (hQ : ∀ e a w,Q1 e a w → Q2 e a w) (h : G P n ds Q1 k st w) : G P n ds Q2 k st w := fun a ha => Kt_mono hQ k _ a w (h a ha)
theorem body_bodyD {fn : Func} {R : Ending → World → Prop} : ∀ (e : Exit) (a : Act) (w : World),bodyPost P fn R e a w → bodyPostD P fn R e a w := by
 intro e a w h
 cases e with
 | normal => obtain ⟨h1,v,h2,h3⟩ := h; show Leaves P fn a.tmps R a.defers .returning w; rw [h1]; exact ⟨v,h2,h3⟩
 | ret => obtain ⟨h1,v,h2,h3⟩ := h; show Leaves P fn a.tmps R a.defers .returning w; rw [h1]; exact ⟨v,h2,h3⟩
 | panic c => obtain ⟨h1,h2⟩ := h; show Leaves P fn a.tmps R a.defers (.panicking c) w; rw [h1]; exact h2
 | exit id => exact h.elim
 | goto l => exact h.elim
 | outgrown => exact h
end
end Go.Bk
