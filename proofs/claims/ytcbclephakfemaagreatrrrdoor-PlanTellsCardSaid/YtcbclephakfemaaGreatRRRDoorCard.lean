/-
  FROM A CONTRACT TO A LAW's ROW: what stands behind a call that only adds to the world; what the listed variables hold. No program here.
-/
import Derived.Test.YtcbclephakfemaaGreatRRRDoorMem
import Derived.WalkKit
import Derived.ProofKit
import Derived.OpenShut
import Derived.Carry
import Derived.Deep.DeepHandedRow
import Derived.Lib.LaidTab
namespace Go.Bk
open Go Go.RowKit Go.ChangeShapes Go.WideShapes Go.ChangeAt

def readsB (P : Program) (ts : List TypeId) : Bool := ts.all fun t => P.readableRec t && decide (t < P.types.size)
theorem trodAll_ext {H : Type} {enc : TypeId × Value → H} {P : Program} (hl : laidOutB P = true) {W W' : World} (hE : Ext W W') {sp : Nat → Bool} : ∀ {ts : List TypeId} {vs : List Value} {ds : List (DataW H)} {ps : List MemPlace},
  readsB P ts = true → DataW.TrodAll enc P W 0 (fun _ => true) true ts vs ds ps → (∀ x ∈ ps,x.block < W.heap.size) → (∀ x ∈ ps,sp x.block = true) → DataW.TrodAll enc P W' 0 sp true ts vs ds ps
 | [],[],[],_,_,h,_,_ => h
 | [],_ :: _,_,_,_,h,_,_ => h.elim
 | [],[],_ :: _,_,_,h,_,_ => h.elim
 | _ :: _,[],_,_,_,h,_,_ => h.elim
 | _ :: _,_ :: _,[],_,_,h,_,_ => h.elim
 | t :: ts,v :: vs,d :: ds,ps,hr,⟨p,q,h1,h2,e⟩,hlt,hs => by
  simp only [readsB,List.all_cons,Bool.and_eq_true,decide_eq_true_eq] at hr
  refine ⟨p,q,WideElems.Trod_stays hl hr.1.1 hr.1.2 h1 (fun x hx => Below.same hE (hlt x (by rw [e]; exact List.mem_append_left _ hx))) (fun x hx => hs x (by rw [e]; exact List.mem_append_left _ hx)),?_,e⟩
  exact trodAll_ext hl hE (by simpa [readsB] using hr.2) h2 (fun x hx => hlt x (by rw [e]; exact List.mem_append_right _ hx)) (fun x hx => hs x (by rw [e]; exact List.mem_append_right _ hx))
theorem post_true {H : Type} {enc : TypeId × Value → H} {P : Program} {f : Func} {s : ChangeSpec} {fresh handsOn again : Bool} {W W' : World} {args : Array Value} {ds gs : List (DataW H)} {before : List MemPlace} {tb : TypeId}
  (hl : laidOutB P = true) (hts : readsB P f.params.toList = true) (hrt : f.resultTypes = #[tb]) (hb : P.underlying tb = some .bool) (hv : s.vars = []) (hfn : s.fn H (ds ++ gs) = { results := [.lit (.bool true)],args := ds })
  (hW : DataW.Whole enc P f.params.toList s.vars false W args.toList ds gs before) (hE : Ext W W') : s.post enc P f false fresh handsOn again W args (.bool true) W' := by
 have hlt := hW.lt
 have hW' := hW
 obtain ⟨p,q,hA,hV,e,hz,hn⟩ := hW'
 have hV0 : gs = [] ∧ q = [] := by
  rw [hv] at hV
  exact trodVars_none hV
 obtain ⟨hg,hq⟩ := hV0
 subst hg; subst hq
 rw [List.append_nil] at e
 subst e
 have hres : ∀ (b : Nat) (sp : Nat → Bool) (hd : Bool),DataW.TrodAll enc P W' b sp hd f.resultTypes.toList ((Value.bool true).resultList f.resultTypes.size) (s.fn H (ds ++ [])).results [] := by
  intro b sp hd
  rw [hfn,hrt]
  exact trodAll_cons_mk (shut_bool hb _) trodAll_mk0
 have hargs : ∀ sp : Nat → Bool,(∀ x ∈ before,sp x.block = true) → DataW.TrodAll enc P W' 0 sp true f.params.toList args.toList (s.fn H (ds ++ [])).args before := by
  intro sp hsp
  rw [hfn]
  exact trodAll_ext hl hE hts hA hlt hsp
 have hvars : ∀ sp : Nat → Bool,DataW.TrodVars enc P W' sp s.vars (s.fn H (ds ++ [])).vars [] := by
  intro sp
  rw [hfn,hv]
  rfl
 have hold : ∀ x ∈ before,(fun b => decide (b < W.heap.size)) x.block = true := fun x hx => by simpa using hlt x hx
 have hok : ∀ (j : Nat) (t : TypeId) (r : Value),f.resultTypes[j]? = some t → ((Value.bool true).resultList f.resultTypes.size)[j]? = some r → Value.okWide P W' .any 0 t r := by
  rw [hrt]
  intro j t r h1 h2
  cases j with
  | zero =>
   simp only [List.getElem?_toArray,List.getElem?_cons_zero,Option.some.injEq] at h1
   subst h1
   have h3 : some (Value.bool true) = some r := h2
   simp only [Option.some.injEq] at h3
   subst h3
   exact okWide_bool_mk hb _
  | succ j => simp at h1
 refine ⟨ds,[],before,[],before,[],hW,hres _ _ _,hargs _ hold,hvars _,World.keptBut_mono (fun x hx => ⟨hx,.inr (.inl hx)⟩) (Below.frame hE (· ∈ before)),fun _ => ?_⟩
 refine ⟨hok,_,_,([] ++ before) ++ [],⟨[] ++ before,[],trodAll_append (hargs _ (fun _ _ => rfl)) (hres _ _ _),hvars _,rfl,?_,fun h => by cases h⟩,fun x hx _ => by simpa using hx⟩
 intro b off hp
 have hp' : MemPlace.cell b off ∈ before := by simpa using hp
 rw [Below.frozen hE (p := ⟨b,off,none⟩) (hlt _ hp')]
 exact hz b off (by simpa using hp')

theorem laid_at {P : Program} {W : World} : ∀ {l : List (String × DataW Unit)} {ps : List MemPlace},DataW.LaidVars P W l ps → ∀ (i : Nat) (n : String) (d : DataW Unit),l[i]? = some (n,d) →
  ∃ g t cs fuel p,P.globalNamed n = some g ∧ (P.globals[g]?).map (·.type) = some t ∧ W.var? P n = some cs ∧ DataW.trod (fun _ => ()) P W 0 (fun _ => true) false fuel t cs.toList = some (d,p)
 | [],_,_,i,_,_,h => by simp at h
 | (m,d') :: r,ps,⟨g,t,cs,fuel,p,q,h1,h2,h3,h4,h5,_⟩,0,n,d,h => by
  simp only [List.getElem?_cons_zero,Option.some.injEq,Prod.mk.injEq] at h
  obtain ⟨rfl,rfl⟩ := h
  exact ⟨g,t,cs,fuel,p,h1,h2,h3,h4⟩
 | (m,d') :: r,ps,⟨_,_,_,_,_,q,_,_,_,_,h5,_⟩,i + 1,n,d,h => laid_at h5 i n d (by simpa using h)
theorem laid_table {P : Program} {W : World} {l : List (String × DataW Unit)} (i : Nat) {n : String} {k : IntKind} {zs : List Int} {g : Nat} {t e : TypeId} {m : Nat} (h : laidMet P l W) (hi : l[i]? = some (n,Lib.tabData k zs))
  (hg : P.globalNamed n = some g) (hty : (P.globals[g]?).map (·.type) = some t) (ht : P.underlying t = some (.array m e)) (he : P.underlying e = some (.int k)) (hce : P.cellsOf e = 1) (hct : P.cellsOf t = m) : Lib.TabIs P W n k zs := by
 obtain ⟨ps,hL,_⟩ := h
 obtain ⟨g',t',cs,fuel,p,hg',ht',hvar,hd⟩ := laid_at hL i n _ hi
 obtain rfl := Option.some.inj (hg.symm.trans hg')
 obtain rfl := Option.some.inj (hty.symm.trans ht')
 unfold Lib.TabIs
 rw [hvar,← Lib.cells_of_tab ht he hce hct hd]
theorem wf_i64 {n : Int} (h : (Lit.int .i64 n).wf = true) : -9223372036854775808 ≤ n ∧ n ≤ 9223372036854775807 := by
 simp only [Lit.wf,Bool.and_eq_true,decide_eq_true_eq] at h
 exact h
theorem open_slC {H : Type} {enc' : TypeId × Value → H} {P : Program} {w : World} {α : Type} {enc : α → List Value} {sz : Nat} {OK : α → Prop} (hsz : ∀ x,(enc x).length = sz) (hs : 0 < sz) {t e : TypeId} (ht : P.underlying t = some (.slice e)) (hc : P.cellsOf e = sz)
  (each : ∀ (fuel : Nat) (cs : List Value) (x : DataW H × List MemPlace),DataW.trod enc' P w 0 (fun _ => true) true fuel e cs = some x → ∃ y,cs = enc y ∧ OK y)
  {r : Reach} {b0 : Nat} {v : Value} {d : DataW H} {ps : List MemPlace} (hval : Value.okWide P w r b0 t v) (hd : DataW.Trod enc' P w 0 (fun _ => true) true t v d ps) :
  ∃ a c xs,v = .slice a xs.length c ∧ Cells w a (xs.flatMap enc) ∧ (∀ x ∈ xs,OK x) ∧ xs.length ≤ maxLen ∧ (∀ es sp,d = .slice es sp → xs.length ≤ es.length + sp.length) ∧ (d = .nil → xs = []) ∧ xs.length ≤ c := by
 obtain ⟨a0,l0,c0,rfl⟩ := okWide_slice ht hval
 obtain ⟨fuel,hf⟩ := hd
 rcases DataW.trod_slice ht hf with ⟨h0,hx⟩ | ⟨a,len,cap,elems,rest,n,_,hcs,hx,_,hl,hm,hlen,hel,_,_⟩
 ·simp [Value.cells] at h0
  obtain ⟨rfl,rfl,rfl⟩ := h0
  refine ⟨none,0,[],rfl,.inl rfl,(fun _ h => by cases h),Nat.zero_le _,fun es sp he => ?_,fun _ => rfl,Nat.le_refl _⟩
  simp only [Prod.mk.injEq] at hx
  rw [hx.1] at he; cases he
 ·simp [Value.cells] at hcs
  obtain ⟨rfl,rfl,rfl⟩ := hcs
  simp only [Prod.mk.injEq] at hx
  have one : ∀ i,i < l0 → ∃ y,OK y ∧ ∀ j,j < sz → w.cell? ((a.add (i * sz)).add j) = (enc y)[j]? := by
   intro i hi
   have h1 := hel i hi
   rw [List.getElem?_eq_getElem (by omega),Option.bind_eq_some_iff] at h1
   obtain ⟨cs,h2,h3⟩ := h1
   obtain ⟨y,rfl,hok⟩ := each _ _ _ h3
   obtain ⟨_,_,h4⟩ := World.cells?_some h2
   rw [hc] at h4
   exact ⟨y,hok,h4⟩
  have ex : ∀ k,k ≤ l0 → ∃ xs : List α,xs.length = k ∧ (∀ x ∈ xs,OK x) ∧ ∀ i y,xs[i]? = some y → ∀ j,j < sz → w.cell? ((a.add (i * sz)).add j) = (enc y)[j]? := by
   intro k
   induction k with
   | zero => intro _; exact ⟨[],rfl,(fun _ h => by cases h),(fun i y h => by simp at h)⟩
   | succ k ih =>
    intro hk
    obtain ⟨xs,h1,h2,h3⟩ := ih (by omega)
    obtain ⟨y,hy,hc'⟩ := one k (by omega)
    refine ⟨xs ++ [y],by simp [h1],fun x hx => ?_,fun i z hi => ?_⟩
    ·rcases List.mem_append.1 hx with h | h
     ·exact h2 x h
     ·simp at h; subst h; exact hy
    ·by_cases hik : i < k
     ·rw [List.getElem?_append_left (by omega)] at hi
      exact h3 i z hi
     ·have : i = k := by
       have := (List.getElem?_eq_some_iff.1 hi).1
       simp [h1] at this
       omega
      subst this
      rw [List.getElem?_append_right (by omega),h1] at hi
      simp at hi
      subst hi
      exact hc'
  obtain ⟨xs,h1,h2,h3⟩ := ex l0 (Nat.le_refl _)
  subst h1
  refine ⟨some a,c0,xs,rfl,?_,h2,by omega,fun es sp he => ?_,fun he => ?_,hl⟩
  ·rcases Nat.eq_zero_or_pos xs.length with hz | hz
   ·left
    have : xs = [] := List.length_eq_zero_iff.1 hz
    subst this; rfl
   ·right
    obtain ⟨b,o,sp⟩ := a
    have hsp : sp = none := by
     have h4 := h3 0 xs[0] (List.getElem?_eq_getElem hz) 0 hs
     rw [Nat.zero_mul,List.getElem?_eq_getElem (by rw [hsz]; exact hs)] at h4
     simp only [Addr.add,if_true] at h4
     unfold World.cell? at h4
     split at h4
     ·cases sp with
      | none => rfl
      | some _ => simp at h4
     ·cases h4
    subst hsp
    refine ⟨rfl,fun j v hv => ?_⟩
    simp only [slB,slO]
    have hlt : j < xs.length * sz := by
     have := (List.getElem?_eq_some_iff.1 hv).1
     rw [flat_len enc sz hsz] at this
     exact this
    have hd : j / sz < xs.length := Nat.div_lt_of_lt_mul (by rw [Nat.mul_comm]; exact hlt)
    have hm' : j % sz < sz := Nat.mod_lt _ hs
    have hj : j / sz * sz + j % sz = j := by rw [Nat.mul_comm]; exact Nat.div_add_mod j sz
    have h5 := flat_at enc sz hsz xs (j / sz) (j % sz) xs[j / sz] (List.getElem?_eq_getElem hd) hm'
    rw [hj] at h5
    have h6 := h3 (j / sz) _ (List.getElem?_eq_getElem hd) (j % sz) hm'
    rw [addr_add,addr_add,Nat.add_assoc,hj] at h6
    rw [h6,← h5,hv]
  ·rw [hx.1] at he
   simp only [DataW.slice.injEq] at he
   rw [← he.1,← he.2]
   simp; omega
  ·rw [hx.1] at he; cases he
theorem open_intsC {H : Type} {enc : TypeId × Value → H} {P : Program} {w : World} {t e : TypeId} (ht : P.underlying t = some (.slice e)) (he : P.underlying e = some (.int .i64)) (hc : P.cellsOf e = 1)
  {r : Reach} {b0 : Nat} {v : Value} {d : DataW H} {ps : List MemPlace} (hval : Value.okWide P w r b0 t v) (hd : DataW.Trod enc P w 0 (fun _ => true) true t v d ps) :
  ∃ a c,∃ xs : List Int,v = .slice a xs.length c ∧ Cells w a (xs.flatMap fun x => [.int .i64 x]) ∧ (∀ x ∈ xs,-9223372036854775808 ≤ x ∧ x ≤ 9223372036854775807) ∧ xs.length ≤ maxLen ∧ (∀ es sp,d = .slice es sp → xs.length ≤ es.length + sp.length) ∧ (d = .nil → xs = []) ∧ xs.length ≤ c :=
 open_slC (sz := 1) (fun _ => rfl) (by decide) ht hc (fun fuel cs x h => by
  obtain ⟨n,hn,_,hw⟩ := DataW.trod_int he h
  exact ⟨n,hn,wf_i64 hw⟩) hval hd
theorem weightsEach_at {H : Type} {P : Program} : ∀ {ts : List TypeId} {ds : List (DataW H)} (i : Nat) {t : TypeId} {d : DataW H},(DataW.weightsEach P ts ds).all (· ≤ reachBytes) = true → ts[i]? = some t → ds[i]? = some d → (d.weights P t).all (· ≤ reachBytes) = true
 | [],_,i,_,_,_,h,_ => by simp at h
 | _ :: _,[],i,_,_,_,_,h => by simp at h
 | t :: ts,d :: ds,0,t',d',h,h1,h2 => by
  simp only [List.getElem?_cons_zero,Option.some.injEq] at h1 h2
  subst h1; subst h2
  simp only [DataW.weightsEach,List.all_append,Bool.and_eq_true] at h
  exact h.1
 | t :: ts,d :: ds,i + 1,t',d',h,h1,h2 => by
  simp only [List.getElem?_cons_succ] at h1 h2
  simp only [DataW.weightsEach,List.all_append,Bool.and_eq_true] at h
  exact weightsEach_at i h.2 h1 h2
theorem weight_string {H : Type} {P : Program} {ts : List TypeId} {ds : List (DataW H)} (i : Nat) {t : TypeId} {l : List UInt8} (h : (DataW.weightsEach P ts ds).all (· ≤ reachBytes) = true) (h1 : ts[i]? = some t) (h2 : ds[i]? = some (.lit (.string l))) : l.length ≤ 140737488351232 := by
 have := weightsEach_at i h h1 h2
 simp only [DataW.weights,List.all_cons,List.all_nil,Bool.and_true,decide_eq_true_eq] at this
 exact this
theorem trod_slice_form {H : Type} {enc : TypeId × Value → H} {P : Program} {w : World} {base : Nat} {sp : Nat → Bool} {hd : Bool} {t e : TypeId} {v : Value} {d : DataW H} {ps : List MemPlace} (ht : P.underlying t = some (.slice e)) (h : DataW.Trod enc P w base sp hd t v d ps) : d = .nil ∨ ∃ es r,d = .slice es r := by
 obtain ⟨fuel,hf⟩ := h
 rcases DataW.trod_slice ht hf with ⟨_,hx⟩ | ⟨_,_,_,_,_,_,_,_,hx,_⟩
 ·simp only [Prod.mk.injEq] at hx; exact .inl hx.1
 ·simp only [Prod.mk.injEq] at hx; exact .inr ⟨_,_,hx.1⟩
theorem weight_slice {H : Type} {P : Program} {ts : List TypeId} {ds : List (DataW H)} (i : Nat) {t e : TypeId} {d : DataW H} {α : Type} {xs : List α} (h : (DataW.weightsEach P ts ds).all (· ≤ reachBytes) = true) (h1 : ts[i]? = some t) (h2 : ds[i]? = some d) (ht : P.underlying t = some (.slice e))
  (hb : Nat.ble 1 (P.bytesOf e) = true) (hsz : ∀ es sp,d = .slice es sp → xs.length ≤ es.length + sp.length) (hnil : d = .nil → xs = []) (hform : d = .nil ∨ ∃ es r,d = .slice es r) : xs.length ≤ 140737488351232 := by
 have hw := weightsEach_at i h h1 h2
 rcases hform with hd | ⟨es,r,hd⟩
 ·rw [hnil hd]; simp
 ·have h3 := hsz es r hd
  subst hd
  simp only [DataW.weights,ht,List.all_cons,Bool.and_eq_true,decide_eq_true_eq] at hw
  have h4 : (es.length + r.length) * P.bytesOf e ≤ 140737488351232 := hw.1
  have h5 : (es.length + r.length) * 1 ≤ (es.length + r.length) * P.bytesOf e := Nat.mul_le_mul_left _ (Nat.le_of_ble_eq_true hb)
  omega
end Go.Bk
