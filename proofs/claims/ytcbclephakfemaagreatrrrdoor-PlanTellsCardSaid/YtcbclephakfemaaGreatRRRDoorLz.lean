/-
  STATES LEFT UNRECKONED: the engine's laws once more, where the frames and the state behind a stretch stand as what is to be reckoned; the kernel reckons them where they are asked.
-/
import Derived.Test.YtcbclephakfemaaGreatRRRDoorPan
namespace Go.Bk
open Go
abbrev Cf := List Fr × St
structure Z (P : Program) (n : Nat) (ds : List Deferred) (Q : Exit → Act → World → Prop) (c : Cf) (w : World) : Prop where
 of : G P n ds Q c.1 c.2 w
abbrev H (P : Program) (n : Nat) (ds : List Deferred) (Q : Exit → Act → World → Prop) (k : List Fr) (st : St) (w : World) : Prop := Z P n ds Q (k,st) w
def gz (P : Program) (n : Nat) (w : World) (m : Nat) (hs : List Hint) (c : Cf) : Option (Cfg × List Prop) := go (tabOf P) n w m (c.1,c.2,hs)
def gs (P : Program) (n : Nat) (w : World) (m : Nat) (hs : List Hint) (c : Cf) : Cf :=
 match gz P n w m hs c with
 | some ((k,st,_),_) => (k,st)
 | none => c
def gp (P : Program) (n : Nat) (w : World) (m : Nat) (hs : List Hint) (c : Cf) : Option (List Prop) :=
 match gz P n w m hs c with
 | some ((_,_,[]),ps) => some ps
 | _ => none
def oz (P : Program) (n : Nat) (w : World) (m : Nat) (hs : List Hint) (c : Cf) : Option (EOp × Option Nat × Cf × List Prop) :=
 match gz P n w m hs c with
 | some ((k,st,hs'),ps) => match opInfo n st hs' k with
  | some (e,d,k',qs) => some (e,d,(k',st),ps ++ qs)
  | none => none
 | none => none
def oe (P : Program) (n : Nat) (w : World) (m : Nat) (hs : List Hint) (c : Cf) : Option (EOp × List Prop) :=
 match oz P n w m hs c with
 | some (e,_,_,ps) => some (e,ps)
 | none => none
def on (P : Program) (n : Nat) (w : World) (m : Nat) (hs : List Hint) (v : Value) (c : Cf) : Cf :=
 match oz P n w m hs c with
 | some (_,d,(k',st),_) => (k',sputO st d v)
 | none => c
def zc (P : Program) (t : TypeId) : Option (List Value) :=
 match (tabOf P).zero t with
 | some z => some z.cells.toList
 | none => none
def bsE (P : Program) : Option (EOp × List Prop) → Option (Nat × List Value × TypeId)
 | some (.bslice t n ps,[]) => match bslCells (tabOf P) t n ps with
  | some (cs,e) => some (n,cs,e)
  | none => none
 | _ => none
def stE (P : Program) (cs : List Value) : Option (EOp × List Prop) → Option (Nat × Nat × Value)
 | some (.store t (.pointer (some ⟨b,o,none⟩)) v,[]) => bif stOk (tabOf P) t v o cs then some (b,o,v) else none
 | _ => none
def apE (P : Program) : Option (EOp × List Prop) → Option (Value × Nat × Nat × TypeId × Nat × Nat)
 | some (.builtin .append ⟨[t,t']⟩ _ _ [v,.slice (some ⟨b,0,none⟩) k _],[]) => bif Nat.beq t t' then (match appInfo P t with
  | some (e,size,bytes) => some (v,b,k,e,size,bytes)
  | none => none) else none
 | _ => none
def newsOk (news : List Value) (l : Nat) : Bool := Nat.beq news.length l && news.all (·.oneCell')
theorem All.of : ∀ {ps : List Prop},(∀ p,p ∈ ps → p) → All ps
 | [],_ => trivial
 | [p],h => h p (by simp)
 | p :: q :: r,h => ⟨h p (by simp),All.of (ps := q :: r) fun x hx => h x (List.mem_cons_of_mem _ hx)⟩
section
variable {P : Program} {n : Nat} {ds : List Deferred} {Q : Exit → Act → World → Prop} {w w0 : World} {c : Cf} {L : List Res}
theorem Zs (m : Nat) (hs : List Hint) (ps : List Prop) (hp : All ps) (hk : Z P n ds Q (gs P n w m hs c) w) (h : gp P n w m hs c = some ps := by kernel_rfl) : Z P n ds Q c w := by
 unfold gp at h
 split at h
 ·rename_i k st qs hg
  simp only [Option.some.injEq] at h
  subst h
  simp only [gs,hg] at hk
  exact ⟨go_sound (tabOk P) m hg hp.mem hk.of⟩
 ·cases h
theorem Zo (m : Nat) (hs : List Hint) (e : EOp) (ps : List Prop) (hp : All ps) {Φ : Value → World → Prop} (hr : Runs P w e Φ) (hn : ∀ v w',Φ v w' → Z P n ds Q (on P n w m hs v c) w') (h : oe P n w m hs c = some (e,ps) := by kernel_rfl) : Z P n ds Q c w := by
 unfold oe at h
 split at h
 ·rename_i e' d c' ps' ho
  simp only [Option.some.injEq,Prod.mk.injEq] at h
  obtain ⟨rfl,rfl⟩ := h
  simp only [on,ho] at hn
  unfold oz at ho
  split at ho
  ·rename_i k st hs' ps1 hg
   split at ho
   ·rename_i e2 d2 k' qs hi
    simp only [Option.some.injEq,Prod.mk.injEq] at ho
    obtain ⟨rfl,rfl,rfl,rfl⟩ := ho
    have hm := hp.mem
    exact ⟨go_sound (tabOk P) m hg (mem_app_l hm) (fun a ha => opStep hi (All.of (mem_app_r hm)) hr (fun v w' hv => (hn v w' hv).of) a ha)⟩
   ·cases ho
  ·cases ho
 ·cases h
theorem Z0 (m : Nat) (e : EOp) {Φ : Value → World → Prop} (hr : Runs P w e Φ) (hn : ∀ v w',Φ v w' → Z P n ds Q (on P n w m [] v c) w') (h : oe P n w m [] c = some (e,[]) := by kernel_rfl) : Z P n ds Q c w := Zo m [] e [] trivial hr hn h
theorem Zl (m : Nat) {f : FuncId} {args : List Value} {Φ : Value → World → Prop} (hE : Proofs.Enters P f) (hd : Does P f args w Φ) (hn : ∀ v w',Φ v w' → Z P n ds Q (on P n w m [] v c) w') (h : oe P n w m [] c = some (.call f args,[]) := by kernel_rfl) : Z P n ds Q c w :=
 Zo m [] _ [] trivial (runs_call hE hd) hn h
theorem Xt {w' : World} {B : Nat} (hE : Ext w0 w) (hM : Hold w B L) (hx : Ext w w') : Ext w0 w' ∧ Hold w' B L := ⟨hE.trans hx,hM.ext hx⟩
theorem Za (m : Nat) (t : TypeId) (cs : List Value) (hE : Ext w0 w) (hM : Hold w w0.heap.size L) (hn : ∀ b w',Ext w0 w' → Hold w' w0.heap.size (.blk b cs t :: L) → Z P n ds Q (on P n w m [] (pt b 0) c) w')
  (h : oe P n w m [] c = some (.alloc t,[]) := by kernel_rfl) (hz : zc P t = some cs := by kernel_rfl) : Z P n ds Q c w := by
 unfold zc at hz
 split at hz
 ·rename_i z hz'
  simp only [Option.some.injEq] at hz
  subst hz
  refine Zo m [] _ [] trivial (runs_alloc hz') ?_ h
  rintro v w' ⟨b,rfl,hN⟩
  exact hn b w' (hE.trans hN.ext) (hM.new hN)
 ·cases hz
theorem Zb (m : Nat) (t : TypeId) (v : Value) (cs : List Value) (hE : Ext w0 w) (hM : Hold w w0.heap.size L) (hn : ∀ b w',Ext w0 w' → Hold w' w0.heap.size (.blk b cs t :: L) → Z P n ds Q (on P n w m [] (pt b 0) c) w')
  (h : oe P n w m [] c = some (.box t v,[]) := by kernel_rfl) (hc : v.cells.toList = cs := by kernel_rfl) : Z P n ds Q c w := by
 subst hc
 refine Zo m [] _ [] trivial (runs_box t v) ?_ h
 rintro v w' ⟨b,rfl,hN⟩
 exact hn b w' (hE.trans hN.ext) (hM.new hN)
theorem Zd (m k : Nat) (cs : List Value) (t : TypeId) (hE : Ext w0 w) (hM : Hold w w0.heap.size L) (hn : ∀ b w',Ext w0 w' → Hold w' w0.heap.size (.blk b cs t :: L) → Z P n ds Q (on P n w m [] (.slice (some ⟨b,0,none⟩) k k) c) w')
  (h : bsE P (oe P n w m [] c) = some (k,cs,t) := by kernel_rfl) : Z P n ds Q c w := by
 unfold bsE at h
 split at h
 ·rename_i t' n' ps ho
  split at h
  ·rename_i cs' e hb
   simp only [Option.some.injEq,Prod.mk.injEq] at h
   obtain ⟨rfl,rfl,rfl⟩ := h
   refine Zo m [] _ [] trivial (runs_bslice hb) ?_ ho
   rintro v w' ⟨b,rfl,hN⟩
   exact hn b w' (hE.trans hN.ext) (hM.new hN)
  ·cases h
 ·cases h
theorem runs_store_undef {t : TypeId} {a v : Value} {Φ : Value → World → Prop} (h : Runs P w (.store t a v) Φ) : Runs P w (.store t a v) fun u w' => u = undef ∧ Φ u w' := by
 unfold Runs at h ⊢
 simp only [EOp.sem] at h ⊢
 rw [Sem.run_bind] at h ⊢
 cases hs : (Instr.storeAt t a v).run P w with
 | ok x w' =>
  rw [hs] at h
  simp only [Result.andThen,Sem.run_pure] at h ⊢
  exact ⟨trivial,h⟩
 | halt x w' =>
  rw [hs] at h
  simp only [Result.andThen] at h
theorem Zt (m i o : Nat) (v : Value) {b : Nat} {cs : List Value} {t : TypeId} (hi : L[i]? = some (.blk b cs t)) (hE : Ext w0 w) (hM : Hold w w0.heap.size L) (hn : ∀ w',Ext w0 w' → Hold w' w0.heap.size (L.set i (.blk b (setAt cs o v.cells.toList) t)) → Z P n ds Q (on P n w m [] undef c) w')
  (h : stE P cs (oe P n w m [] c) = some (b,o,v) := by kernel_rfl) : Z P n ds Q c w := by
 unfold stE at h
 split at h
 ·rename_i t' b' o' v' ho
  cases hk : stOk (tabOf P) t' v' o' cs with
  | false => rw [hk] at h; cases h
  | true =>
   rw [hk] at h
   simp only [cond_true,Option.some.injEq,Prod.mk.injEq] at h
   obtain ⟨rfl,rfl,rfl⟩ := h
   refine Zo m [] _ [] trivial (runs_store_undef (runs_st (hM.blk i hi) hk)) ?_ ho
   rintro u w' ⟨rfl,hC⟩
   exact hn w' (hM.toExt hE hC i hi) (hM.set i hi hC)
 ·cases h
theorem app_eq {t t' : TypeId} (h : Nat.beq t t' = true) : t = t' := Nat.eq_of_beq_eq_true h
theorem Zp (m i j k bytes n' : Nat) (xs' : List Value) {v : Value} {e e' : TypeId} {size l b : Nat} {xs news : List Value} (hi : L[i]? = some (.row v e size l xs)) (hj : L[j]? = some (.blk b news e')) (hb : l + k ≤ 9223372036854775807 ∧ (l + k) * bytes ≤ 140737488355328)
  (hc : ∀ (w' : World) (v' : Value),w'.ownsRow w0.heap.size e size v' (l + k) (xs ++ news) → w'.ownsRow w0.heap.size e size v' n' xs') (hE : Ext w0 w) (hM : Hold w w0.heap.size L)
  (hn : ∀ a k' w',Ext w0 w' → Hold w' w0.heap.size (L.set i (.row (.slice a n' k') e size n' xs')) → Z P n ds Q (on P n w m [] (.slice a n' k') c) w')
  (h : apE P (oe P n w m [] c) = some (v,b,k,e,size,bytes) := by kernel_rfl) (hl : newsOk news (k * size) = true := by kernel_rfl) : Z P n ds Q c w := by
 unfold apE at h
 split at h
 ·rename_i t t' ty cs v' b' k' cap ho
  cases ht : Nat.beq t t' with
  | false => rw [ht] at h; cases h
  | true =>
   rw [ht] at h
   obtain rfl := app_eq ht
   simp only [cond_true] at h
   split at h
   ·rename_i e1 size1 bytes1 ha
    simp only [Option.some.injEq,Prod.mk.injEq] at h
    obtain ⟨rfl,rfl,rfl,rfl,rfl,rfl⟩ := h
    simp only [newsOk,Bool.and_eq_true,List.all_eq_true] at hl
    refine Zo m [] _ [] trivial (runs_appH ha (hM.row i hi) (hM.blk j hj) (Nat.eq_of_beq_eq_true hl.1) hl.2 hb.1 hb.2 hM.base) ?_ ho
    rintro u w' ⟨hr,hg,hown⟩
    have hr2 := hc w' u hr
    obtain ⟨a,cc,rfl⟩ := row_slice hr2
    exact hn a cc w' (hM.toExtApp hE i hi hg) (hM.app i hi hr2 hg hown)
   ·cases h
 ·cases h
end
inductive Ce where
 /-- a load of one cell,of some cells,of resource i -/
 | c (i o : Nat)
 | a (i o k : Nat)
 | xt | xf | st | sf | x | s | y
 | v (u : Value)
 | p (q : World → Prop)
 /-- fact j: alone,of a guard that is on,of one that is off -/
 | g (j : Nat) | xg (j : Nat) | sg (j : Nat)
 /-- under guard j: a load of one cell,of some; the guard itself -/
 | gc (j i o : Nat) | ga (j i o k : Nat) | gn (j : Nat)
def resCells (L : List Res) (i : Nat) : Nat × List Value :=
 match L[i]? with
 | some (.blk b cs _) => (b,cs)
 | _ => (0,[])
def hintsOf (L : List Res) : List Ce → List Hint
 | [] => []
 | .c i o :: r | .gc _ i o :: r => .ld ((resCells L i).2.getD o undef) :: hintsOf L r
 | .a i o k :: r | .ga _ i o k :: r => .ld (.agg (((resCells L i).2.drop o).take k).toArray) :: hintsOf L r
 | .xt :: r | .xf :: r | .x :: r | .xg _ :: r => .exec :: hintsOf L r
 | .st :: r | .sf :: r | .s :: r | .sg _ :: r => .skip :: hintsOf L r
 | .y :: r => .sym :: hintsOf L r
 | .v u :: r => .ld u :: hintsOf L r
 | .p _ :: r | .g _ :: r | .gn _ :: r => hintsOf L r
def cellsAt (w : World) (b : Nat) (cs : List Value) : Nat → Nat → List Prop
 | _,0 => []
 | o,k + 1 => (match cs[o]? with
  | some v => w.cell? ⟨b,o,none⟩ = some v
  | none => True) :: cellsAt w b cs (o + 1) k
def condsOf (w : World) (L : List Res) (fs : List Prop) (bs : List Bool) : List Ce → List Prop
 | [] => []
 | .c i o :: r => (match (resCells L i).2[o]? with
  | some v => w.cell? ⟨(resCells L i).1,o,none⟩ = some v
  | none => True) :: condsOf w L fs bs r
 | .a i o k :: r => cellsAt w (resCells L i).1 (resCells L i).2 o k ++ condsOf w L fs bs r
 | .gc j i o :: r => (bs.getD j false = true → (match (resCells L i).2[o]? with
  | some v => w.cell? ⟨(resCells L i).1,o,none⟩ = some v
  | none => True)) :: condsOf w L fs bs r
 | .ga j i o k :: r => (cellsAt w (resCells L i).1 (resCells L i).2 o k).map (fun p => bs.getD j false = true → p) ++ condsOf w L fs bs r
 | .gn j :: r => (bs.getD j false = true → bs.getD j false = true) :: condsOf w L fs bs r
 | .xt :: r | .st :: r => (true = true) :: condsOf w L fs bs r
 | .xf :: r | .sf :: r => (false = false) :: condsOf w L fs bs r
 | .p q :: r => q w :: condsOf w L fs bs r
 | .g k :: r | .xg k :: r | .sg k :: r => fs.getD k True :: condsOf w L fs bs r
 | .x :: r | .s :: r | .y :: r | .v _ :: r => condsOf w L fs bs r
def props (w : World) : List Ce → List Prop
 | [] => []
 | .p q :: r => q w :: props w r
 | .c _ _ :: r | .a _ _ _ :: r | .xt :: r | .st :: r | .xf :: r | .sf :: r | .x :: r | .s :: r | .y :: r | .v _ :: r | .g _ :: r | .xg _ :: r | .sg _ :: r | .gc _ _ _ :: r | .ga _ _ _ _ :: r | .gn _ :: r => props w r
theorem heldCell {w : World} {B : Nat} {L : List Res} (hM : Hold w B L) {i o : Nat} {v : Value} (h : (resCells L i).2[o]? = some v) : w.cell? ⟨(resCells L i).1,o,none⟩ = some v := by
 unfold resCells at h ⊢
 split at h
 ·rename_i b cs t hi
  exact cell_of (hM.blk i hi) (by simpa using h)
 ·simp at h
theorem heldCells {w : World} {B : Nat} {L : List Res} (hM : Hold w B L) {i : Nat} : ∀ (k o : Nat),∀ p ∈ cellsAt w (resCells L i).1 (resCells L i).2 o k,p
 | 0,_,p,h => by cases h
 | k + 1,o,p,h => by
  simp only [cellsAt,List.mem_cons] at h
  rcases h with rfl | h
  ·split
   ·rename_i hv; exact heldCell hM hv
   ·trivial
  ·exact heldCells hM k (o + 1) p h
theorem held {w : World} {B : Nat} {L : List Res} {fs : List Prop} {bs : List Bool} (hM : Hold w B L) (hf : ∀ p ∈ fs,p) : ∀ (es : List Ce),(∀ p ∈ props w es,p) → ∀ p ∈ condsOf w L fs bs es,p
 | [],_,p,h => by cases h
 | .c i o :: r,hp,p,h => by
  simp only [condsOf,List.mem_cons] at h
  rcases h with rfl | h
  ·split
   ·rename_i hv; exact heldCell hM hv
   ·trivial
  ·exact held hM hf r (by simpa only [props] using hp) p h
 | .a i o k :: r,hp,p,h => by
  simp only [condsOf,List.mem_append] at h
  rcases h with h | h
  ·exact heldCells hM k o p h
  ·exact held hM hf r (by simpa only [props] using hp) p h
 | .gc j i o :: r,hp,p,h => by
  simp only [condsOf,List.mem_cons] at h
  rcases h with rfl | h
  ·intro _
   split
   ·rename_i hv; exact heldCell hM hv
   ·trivial
  ·exact held hM hf r (by simpa only [props] using hp) p h
 | .ga j i o k :: r,hp,p,h => by
  simp only [condsOf,List.mem_append,List.mem_map] at h
  rcases h with ⟨q,h,rfl⟩ | h
  ·exact fun _ => heldCells hM k o q h
  ·exact held hM hf r (by simpa only [props] using hp) p h
 | .gn j :: r,hp,p,h => by
  simp only [condsOf,List.mem_cons] at h
  rcases h with rfl | h
  ·exact fun h => h
  ·exact held hM hf r (by simpa only [props] using hp) p h
 | .p q :: r,hp,p,h => by
  simp only [condsOf,List.mem_cons] at h
  rcases h with rfl | h
  ·exact hp _ (by simp [props])
  ·exact held hM hf r (fun x hx => hp x (by simp only [props,List.mem_cons]; exact .inr hx)) p h
 | .g k :: r,hp,p,h | .xg k :: r,hp,p,h | .sg k :: r,hp,p,h => by
  simp only [condsOf,List.mem_cons] at h
  rcases h with rfl | h
  ·rw [List.getD_eq_getElem?_getD]
   cases hk : fs[k]? with
   | none => trivial
   | some q => exact hf q (List.mem_of_getElem? hk)
  ·exact held hM hf r (by simpa only [props] using hp) p h
 | .xt :: r,hp,p,h | .st :: r,hp,p,h | .xf :: r,hp,p,h | .sf :: r,hp,p,h => by
  simp only [condsOf,List.mem_cons] at h
  rcases h with rfl | h
  ·trivial
  ·exact held hM hf r (by simpa only [props] using hp) p h
 | .x :: r,hp,p,h | .s :: r,hp,p,h | .y :: r,hp,p,h | .v _ :: r,hp,p,h => by
  simp only [condsOf] at h
  exact held hM hf r (by simpa only [props] using hp) p h
section
variable {P : Program} {n : Nat} {ds : List Deferred} {Q : Exit → Act → World → Prop} {w w0 : World} {c : Cf} {L : List Res}
theorem Zf (m : Nat) (es : List Ce) {B : Nat} (hM : Hold w B L) (fs : List Prop) (hf : All fs) (bs : List Bool) (hp : All (props w es)) (hk : Z P n ds Q (gs P n w m (hintsOf L es) c) w) (h : gp P n w m (hintsOf L es) c = some (condsOf w L fs bs es) := by kernel_rfl) : Z P n ds Q c w :=
 Zs m _ _ (All.of (held hM hf.mem es hp.mem)) hk h
theorem Zh (m : Nat) (es : List Ce) {B : Nat} (hM : Hold w B L) (hp : All (props w es)) (hk : Z P n ds Q (gs P n w m (hintsOf L es) c) w) (h : gp P n w m (hintsOf L es) c = some (condsOf w L [] [] es) := by kernel_rfl) : Z P n ds Q c w := Zf m es hM [] trivial [] hp hk h
theorem Zi (m : Nat) (es : List Ce) (fs : List Prop) (hf : All fs) (bs : List Bool) (hp : All (props w es)) (hk : Z P n ds Q (gs P n w m (hintsOf [] es) c) w) (h : gp P n w m (hintsOf [] es) c = some (condsOf w [] fs bs es) := by kernel_rfl) : Z P n ds Q c w := Zf m es (Hold.nil (Nat.zero_le _)) fs hf bs hp hk h
def wz (i : Nat) (v : Value) (c : Cf) : Cf := (c.1,sput c.2 i none v)
def gv (st : St) (i : Nat) : Option Value := match sget st i with
 | some (none,v) => some v
 | _ => none
theorem Zw (m i : Nat) (v v' : Value) (hv : v = v') (hk : Z P n ds Q (wz i v' (gs P n w m [] c)) w) (h : gp P n w m [] c = some [] := by kernel_rfl) (hg : gv (gs P n w m [] c).2 i = some v := by kernel_rfl) : Z P n ds Q c w := by
 subst hv
 refine Zs m [] [] trivial ?_ h
 generalize gs P n w m [] c = c' at hk hg
 refine ⟨fun a ha => ?_⟩
 refine hk.of a ⟨ha.size,ha.defers,fun j g u hj => ?_⟩
 simp only [wz] at hj
 rw [sget_sput] at hj
 by_cases e : i = j
 ·subst e
  rw [if_pos rfl] at hj
  unfold gv at hg
  split at hg
  ·rename_i v2 hs
   obtain rfl := Option.some.inj hg
   obtain ⟨rfl,rfl⟩ := Prod.mk.inj (Option.some.inj hj)
   exact ha.get i none v2 hs
  ·cases hg
 ·rw [if_neg e] at hj
  exact ha.get j g u hj
end
section
variable {P : Program} {n : Nat} {ds : List Deferred} {Q : Exit → Act → World → Prop} {w w0 : World} {c : Cf} {L : List Res}
def cTr (c : Cf) : Cf := match c with
 | (.code (.cond _ x _) :: k,st) => (.code x :: k,st)
 | c => c
def cFa (c : Cf) : Cf := match c with
 | (.code (.cond _ _ y) :: k,st) => (.code y :: k,st)
 | c => c
def ci (c : Cf) : Option Bool := match c with
 | (.code (.cond x _ _) :: _,st) => match opnd st x with
  | some (.bool b,[]) => some b
  | _ => none
 | _ => none
theorem Zr (m : Nat) (b : Bool) (p : Prop) (hb : b = true ↔ p) (ht : p → Z P n ds Q (cTr (gs P n w m [] c)) w) (hf : ¬ p → Z P n ds Q (cFa (gs P n w m [] c)) w) (h : gp P n w m [] c = some [] := by kernel_rfl) (hc : ci (gs P n w m [] c) = some b := by kernel_rfl) : Z P n ds Q c w := by
 refine Zs m [] [] trivial ?_ h
 generalize gs P n w m [] c = c' at ht hf hc
 obtain ⟨k,st⟩ := c'
 unfold ci at hc
 split at hc
 ·rename_i x y z k' st' hk
  simp only [Prod.mk.injEq] at hk
  obtain ⟨rfl,rfl⟩ := hk
  split at hc
  ·rename_i b' ho
   simp only [Option.some.injEq] at hc
   subst hc
   exact ⟨br (k := .code (.cond x y z) :: k') (kt := .code y :: k') (kf := .code z :: k') (ps := []) (by simp only [condInfo,ho]) trivial hb (fun h => (ht h).of) (fun h => (hf h).of)⟩
  ·cases hc
 ·cases hc
theorem Zq (m : Nat) (p : Prop) [Decidable p] (ht : p → Z P n ds Q (cTr (gs P n w m [] c)) w) (hf : ¬ p → Z P n ds Q (cFa (gs P n w m [] c)) w) (h : gp P n w m [] c = some [] := by kernel_rfl) (hc : ci (gs P n w m [] c) = some (decide p) := by kernel_rfl) : Z P n ds Q c w :=
 Zr m (decide p) p iffDec ht hf h hc
theorem Zz (m : Nat) (k' : List Fr) (l : List (Nat × Value)) (hk : H P n ds Q k' (stz l) w) (h : goK (tabOf P) n w m (l.map Prod.fst) (c.1,c.2,[]) = some (k',stz l,[]) := by kernel_rfl) : Z P n ds Q c w := ⟨sg (tabOk P) m [] _ h trivial hk.of⟩
theorem ZEq {k : List Fr} {st st' : St} (h : st = st') (hk : H P n ds Q k st' w) : H P n ds Q k st w := h ▸ hk
theorem ZLoop {ι : Type} (L : Lp ι) {k' : List Fr} {body : Code} (hk : c.1 = .code (.loop body) :: k') (i0 : ι) (ks : List Nat) (hst : keepOnly ks c.2 = L.S i0) (hJ : L.J i0 w)
  (round : ∀ i w,L.J i w → H P n ds Q (.code body :: .inv (LI n ds L i) :: k') (L.S i) w) : Z P n ds Q c w := ⟨loopR L hk i0 ks hst hJ fun i w hj => (round i w hj).of⟩
theorem startZ {f : FuncId} {fn : Func} {c : Code} {args : List Value} {Φ : Value → World → Prop} (hf : P.funcs[f]? = some fn) (hb : fn.body = some c) (hn : Nat.ble args.length fn.ntmps = true)
  (h : H P fn.ntmps [] (bodyPost P fn (Ret Φ)) [.code c] (argSt 0 args) w) : Does P f args w Φ := startD hf hb hn h.of
theorem ZCond {k' : List Fr} {e : EOp} {d : Nat} {g : Bool} {ps : List Prop} (R : World → Prop) (X : Value)
  (h : opInfoG n c.2 c.1 = some (e,d,g,k',ps)) (hp : All ps) (hR : R w) (hr : g = true → Runs P w e fun v w' => v = X ∧ R w') (hn : ∀ w',R w' → H P n ds Q k' (sput c.2 d (some g) X) w') : Z P n ds Q c w := ⟨opCond R X h hp hR hr fun w' hw => (hn w' hw).of⟩
theorem ZA (m : Nat) {ι : Type} (L : Lp ι) (i i' : ι) (ks : List Nat) (hJ : L.J i' w) (hμ : L.M i' < L.M i) (h : gp P n w m [] c = some [] := by kernel_rfl) (hk : (gs P n w m [] c).1.head? = some (.inv (LI n ds L i)) := by kernel_rfl) (hst : keepOnly ks (gs P n w m [] c).2 = L.S i' := by kernel_rfl) : Z P n ds Q c w := by
 refine Zs m [] [] trivial ?_ h
 generalize gs P n w m [] c = c' at hk hst
 obtain ⟨k,st⟩ := c'
 cases k with
 | nil => cases hk
 | cons x k =>
  simp only [List.head?_cons,Option.some.injEq] at hk
  subst hk
  exact ⟨again i' ks hst hJ hμ⟩
def rz (P : Program) (fn : Func) (n : Nat) (w : World) (m : Nat) (us : List Value) (c : Cf) : Option (List Value × List Prop) :=
 match gz P n w m [] c with
 | some ((.code .ret :: _,st,[]),[]) => retVals (tabOf P) w st us fn.results.toList
 | some (([],st,[]),[]) => retVals (tabOf P) w st us fn.results.toList
 | _ => none
theorem Ze (m : Nat) (us vs : List Value) (ps : List Prop) (hp : All ps) {fn : Func} {Φ : Value → World → Prop} {v : Value} (hv : retOf vs = v) (hR : Φ v w) (h : rz P fn n w m us c = some (vs,ps) := by kernel_rfl) : Z P n [] (bodyPost P fn (Ret Φ)) c w := by
 unfold rz at h
 split at h
 ·rename_i k st hg
  exact ⟨go_sound (tabOk P) m hg (fun _ hx => by cases hx) (retD h hp hv hR)⟩
 ·rename_i st hg
  exact ⟨go_sound (tabOk P) m hg (fun _ hx => by cases hx) (endD h hp hv hR)⟩
 ·cases h
theorem Z1 (m : Nat) (a : Value) {fn : Func} {Φ : Value → World → Prop} (hR : Φ a w) (h : rz P fn n w m [] c = some ([a],[]) := by kernel_rfl) : Z P n [] (bodyPost P fn (Ret Φ)) c w := Ze m [] [a] [] trivial rfl hR h
theorem Z2 (m : Nat) (a b : Value) {fn : Func} {Φ : Value → World → Prop} (hR : Φ (.tuple #[a,b]) w) (h : rz P fn n w m [] c = some ([a,b],[]) := by kernel_rfl) : Z P n [] (bodyPost P fn (Ret Φ)) c w := Ze m [] [a,b] [] trivial rfl hR h
theorem ZB (m : Nat) (k' : List Fr) (id : Nat) (ops : Array Oper) (S : World → World → Prop) {fn : Func} {R : Ending → World → Prop} (h : ∀ w1,Ext w w1 → D P n ds (bodyPost P fn R) k' ops (S w1) m (List.replicate m false) c.2 w1)
  (hm : P.follows .mixedOrders = true := by kernel_rfl) (hk : c.1 = .code (.region id ops true) :: k' := by kernel_rfl) (hs : ops.size = m := by kernel_rfl) : Z P n ds (bodyPost P fn R) c w := ⟨dBegin S hm (PQ.body _ _ _) hk hs h⟩
theorem ZD {k : List Fr} {ops : Array Oper} {S : World → Prop} {fuel : Nat} {L : List Bool} {st : St} (h : H P n ds Q k st w) (hr : Region.ready .any ops L.toArray = [] := by kernel_rfl) : D P n ds Q k ops S fuel L st w := dDone hr h.of
def dz (P : Program) (n : Nat) (w : World) (ops : Array Oper) (is : List Nat) (L : List Bool) (hs : List Hint) (st : St) : St :=
 match takes (tabOf P) n w ops is L st hs with
 | some (_,st',_,_) => st'
 | none => st
def dp (P : Program) (n : Nat) (w : World) (ops : Array Oper) (is : List Nat) (L : List Bool) (hs : List Hint) (st : St) : Option (List Bool × (World → List Prop)) :=
 match takes (tabOf P) n w ops is L st hs with
 | some (L',_,[],f) => some (L',f)
 | _ => none
section
variable {k : List Fr} {ops : Array Oper} {S : World → Prop} {fuel fuel' i : Nat} {L L' : List Bool} {st : St}
theorem dx (is : List Nat) (hs : List Hint) (fuel : Nat) (L' : List Bool) (f : World → List Prop) (hp : ∀ w,S w → All (f w)) (hS : S w) (hk : D P n ds Q k ops S fuel L' (dz P n w ops is L hs st) w) (h : dp P n w ops is L hs st = some (L',f) := by kernel_rfl) (hf : fuel' = fuel + is.length := by rfl) : D P n ds Q k ops S fuel' L st w := by
 subst hf
 unfold dp at h
 split at h
 ·rename_i L1 st1 f1 h1
  simp only [Option.some.injEq,Prod.mk.injEq] at h
  obtain ⟨rfl,rfl⟩ := h
  simp only [dz,h1] at hk
  exact takes_sound (tabOk P) is h1 (fun w hw => (hp w hw).mem) hS hk
 ·cases h
theorem dx0 (is : List Nat) (hs : List Hint) (fuel : Nat) (L' : List Bool) (hS : S w) (hk : D P n ds Q k ops S fuel L' (dz P n w ops is L hs st) w) (h : dp P n w ops is L hs st = some (L',fun _ => []) := by kernel_rfl) (hf : fuel' = fuel + is.length := by rfl) : D P n ds Q k ops S fuel' L st w := dx is hs fuel L' (fun _ => []) (fun _ _ => trivial) hS hk h hf
theorem dh (is : List Nat) (es : List Ce) (fuel : Nat) (L' : List Bool) {B : Nat} {R : List Res} (hM : Hold w B R) (hE : ∀ w',S w' → Ext w w') (fs : List Prop) (hf : All fs) (bs : List Bool) (hp : ∀ w',S w' → All (props w' es)) (hS : S w) (hk : D P n ds Q k ops S fuel L' (dz P n w ops is L (hintsOf R es) st) w) (h : dp P n w ops is L (hintsOf R es) st = some (L',fun w' => condsOf w' R fs bs es) := by kernel_rfl) (hfu : fuel' = fuel + is.length := by rfl) : D P n ds Q k ops S fuel' L st w :=
 dx is _ fuel L' _ (fun w' hw => All.of (held (hM.ext (hE w' hw)) hf.mem es (hp w' hw).mem)) hS hk h hfu
theorem dg (is : List Nat) (es : List Ce) (fuel : Nat) (L' : List Bool) (fs : List Prop) (hf : All fs) (bs : List Bool) (hp : ∀ w',S w' → All (props w' es)) (hS : S w) (hk : D P n ds Q k ops S fuel L' (dz P n w ops is L (hintsOf [] es) st) w) (h : dp P n w ops is L (hintsOf [] es) st = some (L',fun w' => condsOf w' [] fs bs es) := by kernel_rfl) (hfu : fuel' = fuel + is.length := by rfl) : D P n ds Q k ops S fuel' L st w :=
 dx is _ fuel L' _ (fun w' hw => All.of (held (Hold.nil (Nat.zero_le _)) hf.mem es (hp w' hw).mem)) hS hk h hfu
theorem dw (i : Nat) (v v' : Value) (hv : v = v') (hk : D P n ds Q k ops S fuel L (sput st i none v') w) (hg : gv st i = some v := by kernel_rfl) : D P n ds Q k ops S fuel L st w := by
 subst hv
 intro hQ a ha
 refine hk hQ a ⟨ha.size,ha.defers,fun j g u hj => ?_⟩
 rw [sget_sput] at hj
 by_cases e : i = j
 ·subst e
  rw [if_pos rfl] at hj
  unfold gv at hg
  split at hg
  ·rename_i v2 hs
   obtain rfl := Option.some.inj hg
   obtain ⟨rfl,rfl⟩ := Prod.mk.inj (Option.some.inj hj)
   exact ha.get i none v2 hs
  ·cases hg
 ·rw [if_neg e] at hj
  exact ha.get j g u hj
theorem d1 (i : Nat) (h : W P n ds Q k ops S fuel L st w i) (hr : Region.ready .any ops L.toArray = [i] := by kernel_rfl) : D P n ds Q k ops S (fuel + 1) L st w := dAll i [] hr h
def ow (n : Nat) (ops : Array Oper) (st : St) (hs : List Hint) (i : Nat) : Option (EOp × List Prop) :=
 match opInfoW n ops st hs i with
 | some (e,_,ps) => some (e,ps)
 | none => none
def nw (n : Nat) (ops : Array Oper) (hs : List Hint) (i : Nat) (v : Value) (st : St) : St :=
 match opInfoW n ops st hs i with
 | some (_,d,_) => sputO st d v
 | none => st
theorem Wo (hs : List Hint) (e : EOp) (ps : List Prop) (hp : All ps) {Φ : Value → World → Prop} (hr : Runs P w e Φ) (hn : ∀ v w',Φ v w' → S w' ∧ D P n ds Q k ops S fuel (L.set i true) (nw n ops hs i v st) w') (h : ow n ops st hs i = some (e,ps) := by kernel_rfl) : W P n ds Q k ops S fuel L st w i := by
 unfold ow at h
 split at h
 ·rename_i e' d ps' hi
  simp only [Option.some.injEq,Prod.mk.injEq] at h
  obtain ⟨rfl,rfl⟩ := h
  simp only [nw,hi] at hn
  exact dOp hi hp rfl hr hn
 ·cases h
theorem Wl {f : FuncId} {args : List Value} {Φ : Value → World → Prop} (hE : Proofs.Enters P f) (hd : Does P f args w Φ) (hn : ∀ v w',Φ v w' → S w' ∧ D P n ds Q k ops S fuel (L.set i true) (nw n ops [] i v st) w') (h : ow n ops st [] i = some (.call f args,[]) := by kernel_rfl) : W P n ds Q k ops S fuel L st w i := Wo [] _ [] trivial (runs_call hE hd) hn h
variable {R : List Res}
theorem Wa (t : TypeId) (cs : List Value) (hE : Ext w0 w) (hM : Hold w w0.heap.size R) (hn : ∀ b w',Ext w w' → Ext w0 w' → Hold w' w0.heap.size (.blk b cs t :: R) → S w' ∧ D P n ds Q k ops S fuel (L.set i true) (nw n ops [] i (pt b 0) st) w')
  (h : ow n ops st [] i = some (.alloc t,[]) := by kernel_rfl) (hz : zc P t = some cs := by kernel_rfl) : W P n ds Q k ops S fuel L st w i := by
 unfold zc at hz
 split at hz
 ·rename_i z hz'
  simp only [Option.some.injEq] at hz
  subst hz
  refine Wo [] _ [] trivial (runs_alloc hz') ?_ h
  rintro v w' ⟨b,rfl,hN⟩
  exact hn b w' hN.ext (hE.trans hN.ext) (hM.new hN)
 ·cases hz
theorem Wd (m : Nat) (cs : List Value) (t : TypeId) (hE : Ext w0 w) (hM : Hold w w0.heap.size R) (hn : ∀ b w',Ext w w' → Ext w0 w' → Hold w' w0.heap.size (.blk b cs t :: R) → S w' ∧ D P n ds Q k ops S fuel (L.set i true) (nw n ops [] i (.slice (some ⟨b,0,none⟩) m m) st) w')
  (h : bsE P (ow n ops st [] i) = some (m,cs,t) := by kernel_rfl) : W P n ds Q k ops S fuel L st w i := by
 unfold bsE at h
 split at h
 ·rename_i t' n' ps ho
  split at h
  ·rename_i cs' e hb
   simp only [Option.some.injEq,Prod.mk.injEq] at h
   obtain ⟨rfl,rfl,rfl⟩ := h
   refine Wo [] _ [] trivial (runs_bslice hb) ?_ ho
   rintro v w' ⟨b,rfl,hN⟩
   exact hn b w' hN.ext (hE.trans hN.ext) (hM.new hN)
  ·cases h
 ·cases h
theorem Wt (j o : Nat) (v : Value) {b : Nat} {cs : List Value} {t : TypeId} (hi : R[j]? = some (.blk b cs t)) (hE : Ext w0 w) (hM : Hold w w0.heap.size R) (hn : ∀ w',Ext w0 w' → Hold w' w0.heap.size (R.set j (.blk b (setAt cs o v.cells.toList) t)) → S w' ∧ D P n ds Q k ops S fuel (L.set i true) (nw n ops [] i undef st) w')
  (h : stE P cs (ow n ops st [] i) = some (b,o,v) := by kernel_rfl) : W P n ds Q k ops S fuel L st w i := by
 unfold stE at h
 split at h
 ·rename_i t' b' o' v' ho
  cases hk : stOk (tabOf P) t' v' o' cs with
  | false => rw [hk] at h; cases h
  | true =>
   rw [hk] at h
   simp only [cond_true,Option.some.injEq,Prod.mk.injEq] at h
   obtain ⟨rfl,rfl,rfl⟩ := h
   refine Wo [] _ [] trivial (runs_store_undef (runs_st (hM.blk j hi) hk)) ?_ ho
   rintro u w' ⟨rfl,hC⟩
   exact hn w' (hM.toExt hE hC j hi) (hM.set j hi hC)
 ·cases h
theorem Wp (r j m bytes n' : Nat) (xs' : List Value) {v : Value} {e e' : TypeId} {size l b : Nat} {xs news : List Value} (hi : R[r]? = some (.row v e size l xs)) (hj : R[j]? = some (.blk b news e')) (hb : l + m ≤ 9223372036854775807 ∧ (l + m) * bytes ≤ 140737488355328)
  (hc : ∀ (w' : World) (v' : Value),w'.ownsRow w0.heap.size e size v' (l + m) (xs ++ news) → w'.ownsRow w0.heap.size e size v' n' xs') (hE : Ext w0 w) (hM : Hold w w0.heap.size R)
  (hn : ∀ a k' w',Ext w0 w' → Hold w' w0.heap.size (R.set r (.row (.slice a n' k') e size n' xs')) → S w' ∧ D P n ds Q k ops S fuel (L.set i true) (nw n ops [] i (.slice a n' k') st) w')
  (h : apE P (ow n ops st [] i) = some (v,b,m,e,size,bytes) := by kernel_rfl) (hl : newsOk news (m * size) = true := by kernel_rfl) : W P n ds Q k ops S fuel L st w i := by
 unfold apE at h
 split at h
 ·rename_i t t' ty cs v' b' k' cap ho
  cases ht : Nat.beq t t' with
  | false => rw [ht] at h; cases h
  | true =>
   rw [ht] at h
   obtain rfl := app_eq ht
   simp only [cond_true] at h
   split at h
   ·rename_i e1 size1 bytes1 ha
    simp only [Option.some.injEq,Prod.mk.injEq] at h
    obtain ⟨rfl,rfl,rfl,rfl,rfl,rfl⟩ := h
    simp only [newsOk,Bool.and_eq_true,List.all_eq_true] at hl
    refine Wo [] _ [] trivial (runs_appH ha (hM.row r hi) (hM.blk j hj) (Nat.eq_of_beq_eq_true hl.1) hl.2 hb.1 hb.2 hM.base) ?_ ho
    rintro u w' ⟨hr,hg,hown⟩
    have hr2 := hc w' u hr
    obtain ⟨a,cc,rfl⟩ := row_slice hr2
    exact hn a cc w' (hM.toExtApp hE r hi hg) (hM.app r hi hr2 hg hown)
   ·cases h
 ·cases h
end
end
end Go.Bk
