/-
  MEMORY: what the operations that make or write it do, said of blocks; what stays.
-/
import Derived.Test.YtcbclephakfemaaGreatRRRDoorRun
import Derived.Below
import Derived.Lib.ConvBytes
import Derived.Lib.Hide
namespace Go.Bk
open Go

def Ext (w w' : World) : Prop := RowKit.Below w.heap.size w w'
theorem Ext.refl (w : World) : Ext w w := RowKit.Below.refl _ _
theorem Ext.trans {a b c : World} (h : Ext a b) (k : Ext b c) : Ext a c := RowKit.Below.trans h (RowKit.Below.mono k h.size)
theorem Ext.heap {w w' : World} (h : Ext w w') {k : Nat} {o : Obj} (hk : w.heap[k]? = some o) : w'.heap[k]? = some o := by
 have : k < w.heap.size := (Array.getElem?_eq_some_iff.1 hk).1
 rw [h.block k this]; exact hk
theorem Ext.cell {w w' : World} (h : Ext w w') {a : Addr} {v : Value} (hc : w.cell? a = some v) : w'.cell? a = some v := by
 have : a.block < w.heap.size := by
  rcases Nat.lt_or_ge a.block w.heap.size with h1 | h1
  ·exact h1
  ·simp [World.cell?,Array.getElem?_eq_none h1] at hc
 rw [RowKit.Below.cell h this]; exact hc
theorem Ext.le {w w' : World} (h : Ext w w') : w.heap.size ≤ w'.heap.size := h.size
theorem Ext.drew (w : World) : Ext w w.drew := RowKit.Below.drew (RowKit.Below.refl _ _)
theorem Ext.drewN (w : World) (n : Nat) : Ext w (w.drewN n) := ⟨rfl,rfl,rfl,Nat.le_refl _,fun _ _ => rfl⟩
theorem Ext.alloc (w : World) (o : Obj) : Ext w (w.alloc o) := RowKit.Below.alloc (RowKit.Below.refl _ _) (Nat.le_refl _) o
theorem Ext.var {P : Program} {w w' : World} (h : Ext w w') {x : String} {cs : Array Value} (hv : w.var? P x = some cs) : w'.var? P x = some cs := by
 unfold World.var? at hv ⊢
 cases hg : P.globalNamed x with
 | none => simp [hg] at hv
 | some g =>
  simp only [hg,Option.bind_some] at hv ⊢
  have hlt : g < w.heap.size := by
   rcases Nat.lt_or_ge g w.heap.size with h' | h'
   ·exact h'
   ·simp [Array.getElem?_eq_none h'] at hv
  rw [h.block g hlt]
  exact hv

structure New (w w' : World) (b : Nat) (o : Obj) : Prop where
 lo : b = w.heap.size
 ext : Ext w w'
 own : w'.heap[b]? = some o
 size : w'.heap.size = w.heap.size + 1
theorem New.of_alloc (w : World) (o : Obj) : New w (w.alloc o) w.heap.size o := ⟨rfl,Ext.alloc w o,by simp [World.alloc,-World.alloc_eq],by simp [World.alloc,-World.alloc_eq]⟩
theorem heap_lt {w : World} {b : Nat} {o : Obj} (h : w.heap[b]? = some o) : b < w.heap.size := (Array.getElem?_eq_some_iff.1 h).1
structure Chg (w w' : World) (b : Nat) (o : Obj) : Prop where
 os : w'.os = w.os
 tape : w'.tape = w.tape
 output : w'.output = w.output
 size : w'.heap.size = w.heap.size
 own : w'.heap[b]? = some o
 block : ∀ k,k ≠ b → w'.heap[k]? = w.heap[k]?
theorem Chg.ext {w0 w w' : World} {b : Nat} {o : Obj} (h : Chg w w' b o) (he : Ext w0 w) (hb : w0.heap.size ≤ b) : Ext w0 w' :=
 ⟨h.os.trans he.os,h.tape.trans he.tape,h.output.trans he.output,by rw [h.size]; exact he.size,fun k hk => (h.block k (by omega)).trans (he.block k hk)⟩
theorem Chg.heap {w w' : World} {b k : Nat} {o o' : Obj} (h : Chg w w' b o) (hk : w.heap[k]? = some o') (hne : k ≠ b) : w'.heap[k]? = some o' := (h.block k hne).trans hk

theorem cell_of {w : World} {b j : Nat} {cs : Array Value} {t : TypeId} {f : Nat × Nat} {v : Value} (h : w.heap[b]? = some (.cells cs t f)) (hv : cs[j]? = some v) : w.cell? ⟨b,j,none⟩ = some v := by
 simp [World.cell?,h,hv]

section
variable {P : Program} {w : World}

theorem runs_value {e : EOp} {s : Sem Value} {v : Value} {w' : World} {Φ : Value → World → Prop} (he : e.sem = (do pure (Next.value (← s)))) (h : s.run P w = .ok v w') (hΦ : Φ v w') : Runs P w e Φ := by
 unfold Runs
 rw [he,run_bindOk h]
 exact hΦ
theorem runs_skip {e : EOp} {s : Sem Unit} {w' : World} {Φ : Value → World → Prop} (he : e.sem = (do s; pure Next.skip)) (h : s.run P w = .ok () w') (hΦ : Φ undef w') : Runs P w e Φ := by
 unfold Runs
 rw [he,run_bindOk h]
 exact hΦ
theorem Runs.mono {e : EOp} {Φ Ψ : Value → World → Prop} (h : Runs P w e Φ) (hi : ∀ v w',Φ v w' → Ψ v w') : Runs P w e Ψ := by
 unfold Runs at *
 split
 ·rename_i hr; rw [hr] at h; exact hi _ _ h
 ·rename_i hr; rw [hr] at h; exact hi _ _ h
 ·rename_i hr; rw [hr] at h; exact Calls.mono h fun _ _ ⟨v,he,hv⟩ => ⟨v,he,hi _ _ hv⟩
 ·rename_i h1 h2 h3
  cases hr : e.sem.run P w with
  | ok nx w' =>
   rw [hr] at h h1 h2 h3
   cases nx <;> first | exact (h1 _ _ rfl).elim | exact (h2 _ rfl).elim | exact (h3 _ _ _ rfl).elim | exact h
  | halt x w' => rw [hr] at h; exact h

theorem runs_box (t : TypeId) (v : Value) : Runs P w (.box t v) fun r w' => ∃ b,r = .pointer (some ⟨b,0,none⟩) ∧ New w w' b (.cells v.cells t) := by
 refine runs_value (s := Instr.box t v) (v := .pointer (some ⟨w.heap.size,0,none⟩)) (w' := w.alloc (.cells v.cells t)) rfl ?_ ⟨_,rfl,New.of_alloc _ _⟩
 simp [Instr.box,newVar,newRow]
theorem runs_alloc {t : TypeId} {z : Value} (hz : (tabOf P).zero t = some z) : Runs P w (.alloc t) fun r w' => ∃ b,r = .pointer (some ⟨b,0,none⟩) ∧ New w w' b (.cells z.cells t) := by
 refine runs_value (s := Instr.alloc t true (.tuple #[])) (v := .pointer (some ⟨w.heap.size,0,none⟩)) (w' := w.alloc (.cells z.cells t)) rfl ?_ ⟨_,rfl,New.of_alloc _ _⟩
 unfold Instr.alloc
 rw [run_bindOk (run_zer (tabOk P) hz w)]
 simp [newVar,newRow]

def bslCells (T : Tab) (t : TypeId) (n : Nat) (parts : List (Nat × Value)) : Option (List Value × TypeId) :=
 match T.und t with
 | some (.slice e) => match T.siz e,T.zero e with
  | some (s + 1),some z => bif Nat.ble (n * (s + 1)) 16777216 then (match n with
   | 0 => none
   | m + 1 => match Instr.fill (fun i => some (i * (s + 1),s + 1)) ((Array.range ((m + 1) * (s + 1))).map fun i => z.cells[i % z.cells.size]!) parts with
    | some cells => some (cells.toList,e)
    | none => none) else none
  | _,_ => none
 | _ => none
theorem runs_bslice {t e : TypeId} {n : Nat} {parts : List (Nat × Value)} {cs : List Value} (h : bslCells (tabOf P) t n parts = some (cs,e)) :
  Runs P w (.bslice t n parts) fun r w' => ∃ b,r = .slice (some ⟨b,0,none⟩) n n ∧ New w w' b (.cells cs.toArray e) := by
 unfold bslCells at h
 split at h
 ·rename_i e' hu
  split at h
  ·rename_i s z hs hz
   cases hb : Nat.ble (n * (s + 1)) 16777216 with
   | false => rw [hb] at h; cases h
   | true =>
    rw [hb] at h
    simp only [cond_true] at h
    split at h
    ·cases h
    ·rename_i m
     split at h
     ·rename_i cells hf
      simp only [Option.some.injEq,Prod.mk.injEq] at h
      obtain ⟨rfl,rfl⟩ := h
      refine runs_value (s := Instr.buildSlice t (m + 1) parts.toArray) (v := .slice (some ⟨w.heap.size,0,none⟩) (m + 1) (m + 1)) (w' := w.alloc (.cells cells e')) rfl ?_ ⟨_,rfl,by simpa using New.of_alloc w (.cells cells e')⟩
      unfold Instr.buildSlice
      rw [run_bindOk (run_und (tabOk P) hu w),Sem.run_bind,run_siz (tabOk P) hs w]
      have h1 : ¬ ((m + 1) * (s + 1) > 2 ^ 24) := by
       have := Nat.le_of_ble_eq_true hb
       simp only [Nat.succ_eq_add_one] at this
       omega
      have h2 : ¬ ((m + 1) * (s + 1) = 0) := by
       have : 0 < (m + 1) * (s + 1) := Nat.mul_pos (by omega) (by omega)
       omega
      simp only [Result.andThen,h1,if_false,h2]
      rw [Sem.run_bind,run_zer (tabOk P) hz w]
      simp only [Result.andThen,pure_bind,hf]
      simp [newRow]
     ·cases h
  ·cases h
 ·cases h

def setAt (cs : List Value) (o : Nat) (vs : List Value) : List Value := cs.take o ++ vs ++ cs.drop (o + vs.length)

theorem runs_store {t : TypeId} {s b o : Nat} {v : Value} {cs : List Value} {e : TypeId} (hs : (tabOf P).siz t = some s) (hb : w.heap[b]? = some (.cells cs.toArray e (0,0))) (hv : v.cells.size = s) (hfit : o + s ≤ cs.length)
  (h1 : ∀ u ∈ v.cells.toList,u.oneCell' = true) : Runs P w (.store t (.pointer (some ⟨b,o,none⟩)) v) fun _ w' => Chg w w' b (.cells (setAt cs o v.cells.toList).toArray e (0,0)) := by
 have hst := run_storeCells_at P b o e v.cells.toList 0 cs.toArray w hb (by simp [hv]; omega) h1
 refine runs_skip (s := Instr.storeAt t (.pointer (some ⟨b,o,none⟩)) v) (w' := w.setRow b (cs.take o ++ v.cells.toList ++ cs.drop (o + v.cells.toList.length)).toArray) rfl ?_ ?_
 ·unfold Instr.storeAt
  simp only [Instr.sureAddr]
  rw [run_bindOk (Sem.run_pure (P := P) (w := w) _)]
  unfold storeVar
  rw [Sem.run_bind,run_siz (tabOk P) hs w]
  simp only [Result.andThen,hv,ne_eq,not_true_eq_false,if_false]
  simpa using hst
 ·exact ⟨rfl,rfl,rfl,by simp [World.setRow],setRow_heap w b cs.toArray _ e (0,0) hb,fun k hk => setRow_other w b k _ hk⟩

def stOk (T : Tab) (t : TypeId) (v : Value) (o : Nat) (cs : List Value) : Bool :=
 match T.siz t with
 | some s => Nat.beq v.cells.size s && Nat.ble (o + s) cs.length && v.cells.toList.all (·.oneCell')
 | none => false
theorem runs_st {t : TypeId} {b o : Nat} {v : Value} {cs : List Value} {e : TypeId} (hb : w.heap[b]? = some (.cells cs.toArray e (0,0))) (hok : stOk (tabOf P) t v o cs = true) :
  Runs P w (.store t (.pointer (some ⟨b,o,none⟩)) v) fun _ w' => Chg w w' b (.cells (setAt cs o v.cells.toList).toArray e (0,0)) := by
 unfold stOk at hok
 split at hok
 ·rename_i s hs
  simp only [Bool.and_eq_true,List.all_eq_true] at hok
  exact runs_store hs hb (Nat.eq_of_beq_eq_true hok.1.1) (Nat.le_of_ble_eq_true hok.1.2) hok.2
 ·cases hok

def appInfo (P : Program) (t : TypeId) : Option (TypeId × Nat × Nat) :=
 match P.underlying t with
 | some (.slice e) => match P.info? e with
  | some i => match i.zero with
   | some z => bif Nat.beq z.cells.size i.size && Nat.blt 0 i.size then some (e,i.size,i.bytes) else none
   | none => none
  | none => none
 | _ => none
theorem ownsRow_ext {w w' : World} {B : Nat} {e : TypeId} {size : Nat} {v : Value} {n : Nat} {xs : List Value} (h : w.ownsRow B e size v n xs) (hE : Ext w w') : w'.ownsRow B e size v n xs := by
 obtain ⟨h1,h2⟩ := h
 refine ⟨h1,?_⟩
 rcases h2 with h2 | ⟨g,cap,cur,hv,hg,hh,r⟩
 ·exact .inl h2
 ·exact .inr ⟨g,cap,cur,hv,hg,hE.heap hh,r⟩
theorem ownsRow_chg {w w' : World} {B b : Nat} {o : Obj} {e : TypeId} {size : Nat} {v : Value} {n : Nat} {xs : List Value} (h : w.ownsRow B e size v n xs) (hC : Chg w w' b o) (hne : v.ownBlock ≠ some b) : w'.ownsRow B e size v n xs := by
 obtain ⟨h1,h2⟩ := h
 refine ⟨h1,?_⟩
 rcases h2 with h2 | ⟨g,cap,cur,hv,hg,hh,r⟩
 ·exact .inl h2
 ·refine .inr ⟨g,cap,cur,hv,hg,hC.heap hh (fun e => hne ?_),r⟩
  rw [hv,← e]; rfl
theorem ownsRow_base {w : World} {B B' : Nat} {e : TypeId} {size : Nat} {v : Value} {n : Nat} {xs : List Value} (h : w.ownsRow B e size v n xs) (hB : B' ≤ B) : w.ownsRow B' e size v n xs := by
 obtain ⟨h1,h2⟩ := h
 refine ⟨h1,?_⟩
 rcases h2 with h2 | ⟨g,cap,cur,hv,hg,r⟩
 ·exact .inl h2
 ·exact .inr ⟨g,cap,cur,hv,Nat.le_trans hB hg,r⟩
theorem ownsRow_nil {w : World} {B : Nat} {e : TypeId} {size : Nat} : w.ownsRow B e size (.slice none 0 0) 0 [] := ⟨by simp,.inl ⟨rfl,rfl⟩⟩
theorem grown_ext {w0 w w' : World} {v : Value} {B : Nat} {e : TypeId} {size n : Nat} {xs : List Value} (hg : w.grownBy w' v.ownBlock) (hE : Ext w0 w) (h : w.ownsRow B e size v n xs) (hB : w0.heap.size ≤ B) : Ext w0 w' := by
 refine RowKit.Below.grown hE hg hE.le (fun k hk => ?_)
 obtain ⟨_,h2⟩ := h
 rcases h2 with ⟨hv,_⟩ | ⟨g,cap,cur,hv,hgB,_⟩
 ·rw [hv] at hk; cases hk
 ·rw [hv] at hk
  simp only [Value.ownBlock,Option.some.injEq] at hk
  omega
theorem grown_heap {w w' : World} {row : Option Nat} {k : Nat} {o : Obj} (hg : w.grownBy w' row) (hk : w.heap[k]? = some o) (hne : row ≠ some k) : w'.heap[k]? = some o := by
 rw [hg.block k (heap_lt hk) (fun e => hne e.symm)]; exact hk
theorem cellConds_of {b : Nat} : ∀ (cs : List Value) (o : Nat),(∀ j v,cs[j]? = some v → w.cell? ⟨b,o + j,none⟩ = some v) → ∀ p,p ∈ cellConds w b o cs → p
 | [],_,_,p,hp => by cases hp
 | v :: r,o,h,p,hp => by
  simp only [cellConds,List.mem_cons] at hp
  rcases hp with rfl | hp
  ·simpa using h 0 v (by simp)
  ·refine cellConds_of r (o + 1) (fun j u hu => ?_) p hp
   have := h (j + 1) u (by simpa using hu)
   rw [show o + (j + 1) = o + 1 + j by omega] at this
   exact this
theorem push_fold : ∀ (l : List UInt8) (s : ByteArray),((l.map fun b => (b.toNat : Int)).foldl (fun r n => r.push (UInt8.ofNat n.toNat)) s) = bs (strOf s ++ l)
 | [],s => by simp [bs,strOf]
 | c :: r,s => by
  simp only [List.map_cons,List.foldl_cons]
  rw [push_fold r]
  have : strOf (s.push (UInt8.ofNat ((c.toNat : Int)).toNat)) = strOf s ++ [c] := by simp [strOf,ByteArray.push]
  rw [this,List.append_assoc]; rfl
theorem runs_conv_bytes {s d e : TypeId} {b o n c : Nat} {l : List UInt8} (hs : P.underlying s = some (.slice e)) (he : P.underlying e = some (.int .u8)) (hd : P.underlying d = some .string) (hn : l.length = n)
  (hc : ∀ j,j < n → w.cell? ⟨b,o + j,none⟩ = some (.int .u8 ((l.getD j 0).toNat : Int))) :
  Runs P w (.conv s d (.slice (some ⟨b,o,none⟩) n c)) fun v w' => v = .string (bs l) ∧ w = w' := by
 refine runs_value (s := convert s d (.slice (some ⟨b,o,none⟩) n c)) (v := .string (bs l)) (w' := w) rfl ?_ ⟨rfl,rfl⟩
 rw [run_convert_bytes_string w s d e _ _ _ hs he hd]
 have hl : (loadCells ⟨b,o,none⟩ n).run P w = .ok ((l.map fun x => (x.toNat : Int)).map (Value.int .u8)).toArray w := by
  have hx := loadCellsFrom_sound (P := P) b o ((l.map fun x => (x.toNat : Int)).map (Value.int .u8)) 0 #[] w (cellConds_of _ _ (fun j v hv => by
   rw [List.map_map,List.getElem?_map] at hv
   cases hj : l[j]? with
   | none => rw [hj] at hv; cases hv
   | some x =>
    rw [hj] at hv
    simp only [Option.map_some,Function.comp,Option.some.injEq] at hv
    have hlt : j < n := by rw [← hn]; exact (List.getElem?_eq_some_iff.1 hj).1
    have := hc j hlt
    rw [List.getD_eq_getElem?_getD,hj] at this
    rw [← hv]
    simpa using this))
  simpa [loadCells,hn] using hx
 rw [run_bytesToString w _ n c _ hl,push_fold]
 rfl
def Cells (w : World) (a : Option Addr) (vs : List Value) : Prop := vs = [] ∨ (a = some ⟨slB a,slO a,none⟩ ∧ ∀ j v,vs[j]? = some v → w.cell? ⟨slB a,slO a + j,none⟩ = some v)
theorem Cells.ext {w w' : World} {a : Option Addr} {vs : List Value} (h : Cells w a vs) (hE : Ext w w') : Cells w' a vs := by
 rcases h with h | ⟨h1,h2⟩
 ·exact .inl h
 ·exact .inr ⟨h1,fun j v hv => hE.cell (h2 j v hv)⟩
theorem Cells.addr {w : World} {a : Option Addr} {vs : List Value} (h : Cells w a vs) (hne : vs ≠ []) : a = some ⟨slB a,slO a,none⟩ := (h.resolve_left hne).1
theorem Cells.at {w : World} {a : Option Addr} {vs : List Value} (h : Cells w a vs) {j : Nat} {v : Value} (hv : vs[j]? = some v) : w.cell? ⟨slB a,slO a + j,none⟩ = some v := by
 rcases h with h | ⟨_,h2⟩
 ·rw [h] at hv; simp at hv
 ·exact h2 j v hv
theorem flat_at {α : Type} (enc : α → List Value) (sz : Nat) (hsz : ∀ x,(enc x).length = sz) : ∀ (xs : List α) (i j : Nat) (x : α),xs[i]? = some x → j < sz → (xs.flatMap enc)[i * sz + j]? = (enc x)[j]?
 | [],i,j,x,h,_ => by simp at h
 | y :: r,0,j,x,h,hj => by
  simp only [List.getElem?_cons_zero,Option.some.injEq] at h
  subst h
  rw [List.flatMap_cons,Nat.zero_mul,Nat.zero_add,List.getElem?_append_left (by rw [hsz]; exact hj)]
 | y :: r,i + 1,j,x,h,hj => by
  simp only [List.getElem?_cons_succ] at h
  rw [List.flatMap_cons,List.getElem?_append_right (by rw [hsz,Nat.add_mul]; omega),hsz]
  rw [show (i + 1) * sz + j - sz = i * sz + j by rw [Nat.add_mul]; omega]
  exact flat_at enc sz hsz r i j x h hj
theorem flat_len {α : Type} (enc : α → List Value) (sz : Nat) (hsz : ∀ x,(enc x).length = sz) (xs : List α) : (xs.flatMap enc).length = xs.length * sz := by
 induction xs with
 | nil => simp
 | cons x r ih => rw [List.flatMap_cons,List.length_append,hsz,ih,List.length_cons,Nat.add_mul]; omega
theorem Cells.elem {α : Type} {enc : α → List Value} {sz : Nat} (hsz : ∀ x,(enc x).length = sz) {w : World} {a : Option Addr} {xs : List α} (h : Cells w a (xs.flatMap enc)) {i j : Nat} {x : α} {v : Value}
  (hi : xs[i]? = some x) (hj : (enc x)[j]? = some v) : w.cell? ⟨slB a,slO a + i * sz + j,none⟩ = some v := by
 have hjs : j < sz := by rw [← hsz x]; exact (List.getElem?_eq_some_iff.1 hj).1
 rw [Nat.add_assoc]
 exact h.at ((flat_at enc sz hsz xs i j x hi hjs).trans hj)
theorem Cells.addrE {α : Type} {enc : α → List Value} {sz : Nat} (hsz : ∀ x,(enc x).length = sz) (hs : 0 < sz) {w : World} {a : Option Addr} {xs : List α} (h : Cells w a (xs.flatMap enc)) {i : Nat} (hi : i < xs.length) : a = some ⟨slB a,slO a,none⟩ := by
 refine h.addr (fun e => ?_)
 have := flat_len enc sz hsz xs
 rw [e] at this
 have h2 : 0 < xs.length * sz := Nat.mul_pos (by omega) hs
 simp at this
 omega
def SlV (w : World) (v : Value) (n : Nat) (cs : List Value) : Prop := ∃ a c,v = .slice a n c ∧ Cells w a cs
theorem SlV.ext {w w' : World} {v : Value} {n : Nat} {cs : List Value} (h : SlV w v n cs) (hE : Ext w w') : SlV w' v n cs := by
 obtain ⟨a,c,hv,h⟩ := h
 exact ⟨a,c,hv,h.ext hE⟩
theorem SlV.nil (w : World) : SlV w (.slice none 0 0) 0 [] := ⟨none,0,rfl,.inl rfl⟩
theorem SlV.of_owns {w : World} {B : Nat} {e : TypeId} {size : Nat} {v : Value} {n : Nat} {xs : List Value} (h : w.ownsRow B e size v n xs) : SlV w v n xs := by
 obtain ⟨h1,h2⟩ := h
 rcases h2 with ⟨hv,hn⟩ | ⟨g,cap,cur,hv,_,hh,_,_,hsz,htake⟩
 ·subst hn
  refine ⟨none,0,hv,.inl ?_⟩
  simpa using h1
 ·refine ⟨_,cap,hv,.inr ⟨rfl,fun j u hu => ?_⟩⟩
  simp only [slB,slO,Nat.zero_add]
  refine cell_of hh ?_
  rw [← htake,List.getElem?_take] at hu
  split at hu
  ·simpa using hu
  ·cases hu

end
end Go.Bk
