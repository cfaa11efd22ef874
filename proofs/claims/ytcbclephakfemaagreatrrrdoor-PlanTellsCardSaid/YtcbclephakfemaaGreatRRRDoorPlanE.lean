/-
  PLAN: contracts of the library's functions and of the lexer's Name.
-/
import Derived.Test.YtcbclephakfemaaGreatRRRDoorPlanD
import Derived.Test.YtcbclephakfemaaGreatRRRDoorPlanSort
import Derived.Test.YtcbclephakfemaaGreatRRRDoorShelf
import Derived.Lib.OwnBridge
import Derived.Test.YtcbclephakfemaaGreatRRRDoorLz
import Derived.Test.YtcbclephakfemaaGreatRRRDoorFns
namespace Go.Proofs.YtcbclephakfemaaGreatRRRDoor
open Go.Bk Go.Proofs

theorem E71 : Proofs.Enters Tryz.prog 71 := Proofs.enters_of Tryz.func71 (by kernel_rfl) rfl

theorem E73 : Proofs.Enters Tryz.prog 73 := Proofs.enters_of Tryz.func73 (by kernel_rfl) rfl

theorem E72 : Proofs.Enters Tryz.prog 72 := Proofs.enters_of Tryz.func72 (by kernel_rfl) rfl

theorem E93 : Proofs.Enters Tryz.prog 93 := Proofs.enters_of Tryz.func93 (by kernel_rfl) rfl

theorem E74 : Proofs.Enters Tryz.prog 74 := Proofs.enters_of Tryz.func74 (by kernel_rfl) rfl

theorem E60 : Proofs.Enters Tryz.prog 60 := Proofs.enters_of Tryz.func60 (by kernel_rfl) rfl

theorem E92 : Proofs.Enters Tryz.prog 92 := Proofs.enters_of Tryz.func92 (by kernel_rfl) rfl

theorem E52 : Proofs.Enters Tryz.prog 52 := Proofs.enters_of Tryz.func52 (by kernel_rfl) rfl

theorem E51 : Proofs.Enters Tryz.prog 51 := Proofs.enters_of Tryz.func51 (by kernel_rfl) rfl

theorem E57 : Proofs.Enters Tryz.prog 57 := Proofs.enters_of Tryz.func57 (by kernel_rfl) rfl

theorem E61 : Proofs.Enters Tryz.prog 61 := Proofs.enters_of Tryz.func61 (by kernel_rfl) rfl

set_option maxRecDepth 20000 in
theorem letter_any (c : UInt8) (w : World)  :
    Does Tryz.prog 71 [.int .u8 (c.toNat:Int)] w (fun v w' => v = .bool (letterB c) ∧ w = w') := by
 refine startZ (c := Y71) Tryz.func71 rfl (by kernel_rfl) ?_
 show H _ 17 [] _ (kAt Y71 [] []) (stz [(0,.int .u8 (c.toNat:Int))]) w
 refine Zi 22 [.gn 0,.gn 0,.gn 1,.gn 1,.gn 2,.gn 1,.p (fun _ => (!((decide ((97 : Int) ≤ (c.toNat:Int))) && (decide ((c.toNat:Int) ≤ (122 : Int))))) = true → (decide ((65 : Int) ≤ (c.toNat:Int))) = true → ((!((decide ((97 : Int) ≤ (c.toNat:Int))) && (decide ((c.toNat:Int) ≤ (122 : Int))))) && (decide ((65 : Int) ≤ (c.toNat:Int)))) = true),.gn 1,.y,.y,.y,.y,.y,.y,.y,.y] [] trivial [decide ((97 : Int) ≤ (c.toNat:Int)),!((decide ((97 : Int) ≤ (c.toNat:Int))) && (decide ((c.toNat:Int) ≤ (122 : Int)))),(!((decide ((97 : Int) ≤ (c.toNat:Int))) && (decide ((c.toNat:Int) ≤ (122 : Int))))) && (decide ((65 : Int) ≤ (c.toNat:Int)))] (A1 (by intro _; intro h; simp_all)) ?_
 exact Z1 0 (.bool (((decide ((97 : Int) ≤ (c.toNat:Int))) && (decide ((c.toNat:Int) ≤ (122 : Int)))) || ((decide ((65 : Int) ≤ (c.toNat:Int))) && (decide ((c.toNat:Int) ≤ (90 : Int)))))) (⟨rfl,rfl⟩)

set_option maxRecDepth 20000 in
theorem part_any (c : UInt8) (w : World)  :
    Does Tryz.prog 73 [.int .u8 (c.toNat:Int)] w (fun v w' => v = .bool (partB c) ∧ w = w') := by
 refine startZ (c := Y73) Tryz.func73 rfl (by kernel_rfl) ?_
 show H _ 21 [] _ (kAt Y73 [] []) (stz [(0,.int .u8 (c.toNat:Int))]) w
 refine Zl 7 E71 (letter_any c w) ?_
 rintro v _ ⟨rfl,rfl⟩
 refine Zi 18 [.gn 0,.gn 0,.gn 1,.gn 0,.p (fun _ => (!(letterB c)) = true → (decide ((48 : Int) ≤ (c.toNat:Int))) = true → ((!(letterB c)) && (decide ((48 : Int) ≤ (c.toNat:Int)))) = true),.gn 0,.gn 2,.gn 2,.gn 3,.gn 3,.y,.y,.y,.y,.y,.y,.y,.y,.y,.y] [] trivial [!(letterB c),(!(letterB c)) && (decide ((48 : Int) ≤ (c.toNat:Int))),!((letterB c) || ((decide ((48 : Int) ≤ (c.toNat:Int))) && (decide ((c.toNat:Int) ≤ (57 : Int))))),!(((letterB c) || ((decide ((48 : Int) ≤ (c.toNat:Int))) && (decide ((c.toNat:Int) ≤ (57 : Int))))) || (decide ((c.toNat:Int) = (45 : Int))))] (A1 (by intro _; intro h; simp_all)) ?_
 exact Z1 0 (.bool ((((letterB c) || ((decide ((48 : Int) ≤ (c.toNat:Int))) && (decide ((c.toNat:Int) ≤ (57 : Int))))) || (decide ((c.toNat:Int) = (45 : Int)))) || (decide ((c.toNat:Int) = (95 : Int))))) (⟨rfl,rfl⟩)

def runL (p : UInt8 → Bool) (F : FuncId) (l : Bytes) (w : World) : Lp Nat where
  S := fun k => [(0,none,sv l),(1,none,.func (.func F) #[] #[]),(7,none,iv (l.length:Int)),(8,none,iv (k:Int))]
  J := fun k w' => w = w' ∧ k ≤ l.length ∧ ∀ j,j < k → p (l.getD j 0) = true
  M := fun k => l.length - k
set_option maxRecDepth 20000 in
theorem run_any (p : UInt8 → Bool) (F : FuncId) (l : Bytes) (w : World) (hE : Enters Tryz.prog F) (hF : ∀ (c : UInt8) (w : World),Does Tryz.prog F [.int .u8 (c.toNat : Int)] w fun v w' => v = .bool (p c) ∧ w = w') (hl : l.length ≤ 9223372036854775807) :
    Does Tryz.prog 72 [sv l,.func (.func F) #[] #[]] w (fun v w' => v = .int .i64 ((runLen p l:Nat):Int) ∧ w = w') := by
 refine startZ (c := Y72) Tryz.func72 rfl (by kernel_rfl) ?_
 show H _ 21 [] _ (kAt Y72 [] []) (stz [(0,sv l),(1,.func (.func F) #[] #[])]) w
 refine Zs 12 [] [] trivial ?_
 refine ZLoop (runL p F l w) (k' := (kEnd Y72 [1,0,1,0] [])) (body := (cAt Y72 [1,0,1,0,0])) (by kernel_rfl) 0 [0,1,7,8] (by kernel_rfl) (⟨rfl,by omega,fun j hj => by omega⟩) ?_
 rintro k _ ⟨rfl,hk,hp⟩
 refine Zq 5 ((k:Int) < (l.length:Int)) (fun h => ?_) (fun h => ?_)
 ·refine Zs 14 [] [(0 ≤ (k:Int) ∧ (k:Int) < ((l).length : Int))] (A1 (by omega)) ?_
  refine Z0 0 (.call F [.int .u8 (((l.getD k 0).toNat:Nat):Int)]) (runs_call hE (hF (l.getD k 0) w)) ?_
  rintro v _ ⟨rfl,rfl⟩
  refine Zr 2 _ (¬ ((p (l.getD k 0)) = true)) ((iffNot Iff.rfl)) (fun hc => ?_) (fun hc => ?_)
  ·exact Z1 5 (iv (k:Int)) (⟨by rw [runLen_hit p l k (by omega) hp (by simpa using hc)],rfl⟩)
  refine Zs 6 [] [I64 ((k + 1:Nat):Int)] (A1 (i64 (by omega))) ?_
  exact ZA 0 (runL p F l w) k (k + 1) [0,1,7,8] (⟨rfl,by omega,fun j hj => by by_cases e : j = k; (subst e; simpa using hc); exact hp j (by omega)⟩) (show l.length - (k + 1) < l.length - k by omega)
 exact Z1 7 (iv (((l).length:Nat):Int)) (⟨by rw [runLen_all p l (fun j hj => hp j (by omega))],rfl⟩)

structure Glob (w : World) : Prop where
  pow : Lib.TabIs Tryz.prog w "internal/strconv.uint64pow10" .u64 Lib.pow10Tab
theorem Glob.ext {w w' : World} (h : Glob w) (hE : Ext w w') : Glob w' := ⟨hE.var h.pow⟩
theorem grow_ext (w : World) (k : Nat) (os : Array Obj) : Ext w (Sort.grow (w.drewN k) os) := by
  refine ⟨rfl,rfl,rfl,?_,fun i hi => ?_⟩
  · show w.heap.size ≤ (w.heap ++ os).size
    simp
  · show (w.heap ++ os)[i]? = _
    rw [Array.getElem?_append_left hi]
theorem contains_kw (l : Bytes) (b : Nat) (w : World) (h : w.heap[b]? = some (.cells (kwList.map fun l => Value.string (bs l)).toArray 9 (0,0))) :
    Does Tryz.prog 92 [.slice (some ⟨b,0,none⟩) 13 13,.string (bs l)] w fun v w' => v = .bool (kwB l) ∧ w = w' := by
  refine Does.of_calls (Tryz.slices_Contains_string b 0 13 13 (kwList.map bs) (bs l) w (by decide) (by decide) (fun j hj => ?_)) fun _ _ ⟨he,hw⟩ => ⟨_,he,?_,hw.symm⟩
  · refine cell_of h ?_
    rw [Nat.zero_add,List.getD_eq_getElem?_getD]
    simp only [List.getElem?_toArray,List.getElem?_map]
    have hj' : j < kwList.length := by simpa using hj
    rw [List.getElem?_eq_getElem hj']
    rfl
  · congr 1
    rw [Bool.eq_iff_iff,Lib.containsS_iff]
    unfold kwB
    rw [decide_eq_true_eq,show List.take 13 (kwList.map bs) = kwList.map bs from rfl,List.mem_map]
    constructor
    · rintro ⟨x,hx,he⟩
      rw [← bs_inj he]; exact hx
    · intro hx
      exact ⟨l,hx,rfl⟩
theorem itoa_any (n : Int) (h0 : -9223372036854775808 ≤ n) (h1 : n ≤ 9223372036854775807) (w : World) (hG : Glob w) : Does Tryz.prog 52 [.int .i64 n] w fun v w' => v = .string (bs (Lib.itoa n)) ∧ Ext w w' :=
  Does.of_calls (Tryz.strconv_Itoa n h0 h1 w hG.pow) fun _ _ ⟨he,k,os,hw⟩ => ⟨_,he,rfl,hw ▸ grow_ext w k os⟩
theorem strC_enc (xs : List Bytes) : xs.flatMap strC = xs.map encStr := by
  induction xs with
  | nil => rfl
  | cons x r ih => rw [List.flatMap_cons,ih]; rfl
theorem sort_any (B g cap : Nat) (xs : List Bytes) (w0 w : World) (hE : Ext w0 w) (hB : w0.heap.size ≤ B) (hl : xs.length ≤ 1000) (h : w.ownsRow B 9 1 (.slice (some ⟨g,0,none⟩) xs.length cap) xs.length (xs.flatMap strC)) :
    Does Tryz.prog 57 [.slice (some ⟨g,0,none⟩) xs.length cap] w fun v w' => v = .tuple #[] ∧ w'.ownsRow B 9 1 (.slice (some ⟨g,0,none⟩) (sortB xs).length cap) (sortB xs).length ((sortB xs).flatMap strC) ∧ Ext w0 w' := by
  rw [strC_enc] at h
  obtain ⟨g',cap',hv,hg,hlt,_,_,_,hH⟩ := Lib.holds_of_ownsRow h (by simp)
  simp only [Value.slice.injEq,Option.some.injEq,Addr.mk.injEq,and_true,true_and] at hv
  obtain ⟨rfl,rfl⟩ := hv
  refine Does.of_calls (Tryz.slices_Sort_string g 0 cap xs w hH hlt (by omega)) fun _ _ ⟨he,n,os,hw⟩ => ⟨_,he,rfl,?_,?_⟩
  · have h2 := Lib.ownsRow_putRow (q := n) (k := xs.length) h (sortB_len xs) (Nat.le_refl _)
    rw [sortB_len,strC_enc]
    rw [show (sortB xs).take xs.length = sortB xs from by rw [← sortB_len xs,List.take_length]] at h2
    subst hw
    exact ownsRow_ext h2 (grow_ext _ 0 os)
  · subst hw
    exact Ext.trans (Lib.below_putRow (q := n) (d := (sortB xs).toArray) (enc := encStr) hE (Nat.le_trans hB hg)) (grow_ext _ 0 os)
theorem compact_any (B g cap : Nat) (xs : List Bytes) (w0 w : World) (hE : Ext w0 w) (hB : w0.heap.size ≤ B) (hl : xs.length ≤ 1000) (h : w.ownsRow B 9 1 (.slice (some ⟨g,0,none⟩) xs.length cap) xs.length (xs.flatMap strC)) :
    Does Tryz.prog 61 [.slice (some ⟨g,0,none⟩) xs.length cap] w fun v w' => v = .slice (some ⟨g,0,none⟩) (Lib.compact xs).length cap ∧ Ext w0 w' := by
  rw [strC_enc] at h
  obtain ⟨g',cap',hv,hg,hlt,hc,_,_,hH⟩ := Lib.holds_of_ownsRow h (by simp)
  simp only [Value.slice.injEq,Option.some.injEq,Addr.mk.injEq,and_true,true_and] at hv
  obtain ⟨rfl,rfl⟩ := hv
  refine Does.of_calls (Tryz.slices_Compact_string g 0 cap xs w hH (by omega) hc) fun _ _ ⟨he,n,hw⟩ => ⟨_,he,rfl,?_⟩
  subst hw
  exact Lib.below_putRow hE (Nat.le_trans hB hg)
theorem join_any (b n c : Nat) (ws : List Bytes) (hn : ws.length = n) (w : World) (hw : Cells w (some ⟨b,0,none⟩) (ws.flatMap strC)) (hb : b < w.heap.size) (hc : n ≤ c) (hl : (joinW ws).length ≤ 140737488355328) (hN : n ≤ 140737488355328) :
    Does Tryz.prog 51 [.slice (some ⟨b,0,none⟩) n c,.string (bs [32])] w fun v w' => v = .string (bs (joinW ws)) ∧ Ext w w' := by
  subst hn
  have e1 : (ws.map bs).map (·.data.toList) = ws := by rw [List.map_map]; simp [bs,Function.comp_def]
  have h := Tryz.strings_Join b 0 c (ws.map bs) (bs [32]) w (fun j x hx => ?_) hb (by simpa using hN) (by simpa using hc) (by rw [e1,show (bs [32]).data.toList = [32] from rfl,joinW_eq]; exact hl)
  · rw [e1,show (bs [32]).data.toList = [32] from rfl,joinW_eq,List.length_map] at h
    exact Does.of_calls h fun _ _ ⟨he,hw⟩ => ⟨_,he,rfl,hw⟩
  · refine hw.at ?_
    rw [strC_enc,List.getElem?_map]
    rw [List.getElem?_map] at hx
    cases hj : ws[j]? with
    | none => rw [hj] at hx; cases hx
    | some y => rw [hj] at hx; rw [← Option.some.inj hx]; rfl
theorem blk_cells {w : World} {b : Nat} {cs : List Value} {t : TypeId} {fz : Nat × Nat} (h : w.heap[b]? = some (.cells cs.toArray t fz)) : Cells w (some ⟨b,0,none⟩) cs := by
  refine .inr ⟨rfl,fun j v hv => ?_⟩
  simp only [slB,slO,Nat.zero_add]
  exact cell_of h (by simpa using hv)

set_option maxRecDepth 20000 in
theorem keywords_any  (w : World)  :
    Does Tryz.prog 93 [] w (fun v w' => ∃ b,v = .slice (some ⟨b,0,none⟩) 13 13 ∧ New w w' b (.cells (kwList.map fun l => Value.string (bs l)).toArray 9)) := by
 refine startZ (c := Y93) Tryz.func93 rfl (by kernel_rfl) ?_
 show H _ 2 [] _ (kAt Y93 [] []) [] w
 refine Z0 6 (.bslice 37 13 [(0,sv ([112,114,111,116,111,99,111,108])),(1,sv ([118,101,99,116,111,114])),(2,sv ([112,97,116,104])),(3,sv ([102,97,105,108,117,114,101,115])),(4,sv ([110,111,100,101])),(5,sv ([108,105,110,107])),(6,sv ([100,101,115,116])),(7,sv ([97,116])),(8,sv ([99,104,101,99,107])),(9,sv ([114,101,97,99,104])),(10,sv ([119,105,116,104,105,110])),(11,sv ([119,97,121,112,111,105,110,116])),(12,sv ([101,113,117,97,108]))]) (runs_bslice (cs := kwList.map fun l => Value.string (bs l)) (e := 9) (by kernel_rfl)) ?_
 rintro _ w1 ⟨b1,rfl,hN⟩
 exact Z1 2 (.slice (some ⟨b1,0,none⟩) 13 13) (⟨_,rfl,hN⟩)

set_option maxRecDepth 20000 in
theorem Keyword_any (l : Bytes) (w : World)  :
    Does Tryz.prog 74 [sv l] w (fun v w' => v = .bool (kwB l) ∧ Ext w w') := by
 refine startZ (c := Y74) Tryz.func74 rfl (by kernel_rfl) ?_
 show H _ 6 [] _ (kAt Y74 [] []) (stz [(0,sv l)]) w
 refine Zl 6 E93 (keywords_any w) ?_
 rintro _ w1 ⟨b1,rfl,hN⟩
 refine Zl 1 E92 (contains_kw l b1 w1 hN.own) ?_
 rintro _ _ ⟨rfl,rfl⟩
 exact Z1 2 (.bool (kwB l)) (⟨rfl,hN.ext⟩)

set_option maxRecDepth 20000 in
theorem Name_any (l : Bytes) (w : World) (hl : l.length ≤ 9223372036854775807) :
    Does Tryz.prog 60 [sv l] w (fun v w' => v = .bool (nameB l) ∧ Ext w w') := by
 refine startZ (c := Y60) Tryz.func60 rfl (by kernel_rfl) ?_
 show H _ 27 [] _ (kAt Y60 [] []) (stz [(0,sv l)]) w
 refine Zi 16 [.gn 0,.gn 0,.gn 0,.gn 1,.p (fun _ => ((!(decide (l = ([])))) && (decide ((((l).length:Nat):Int) ≤ (12 : Int)))) = true → (0 ≤ (0 : Int) ∧ (0 : Int) < ((l).length : Int))),.y,.y,.y,.y,.y] [] trivial [!(decide (l = ([]))),(!(decide (l = ([])))) && (decide ((((l).length:Nat):Int) ≤ (12 : Int)))] (A1 (by intro h; cases l <;> simp_all <;> omega)) ?_
 refine ZCond (fun w' => w = w') (.bool (letterB (l.getD 0 0))) (e := .call 71 [.int .u8 (((l.getD 0 0).toNat:Nat):Int)]) (d := 13) (g := (!(decide (l = ([])))) && (decide ((((l).length:Nat):Int) ≤ (12 : Int)))) (k' := (kOp Y60 [1,0] 11 [])) (ps := [((!(decide (l = ([])))) && (decide ((((l).length:Nat):Int) ≤ (12 : Int)))) = true → ((!(decide (l = ([])))) && (decide ((((l).length:Nat):Int) ≤ (12 : Int)))) = true]) (by kernel_rfl) (A1 (fun h => h)) (rfl) (fun hg => runs_call E71 (letter_any (l.getD 0 0) w)) ?_
 rintro _ rfl
 refine Zi 3 [.gn 0,.y] [] trivial [(!(decide (l = ([])))) && (decide ((((l).length:Nat):Int) ≤ (12 : Int)))] trivial ?_
 refine ZCond (fun w' => w = w') (iv ((runLen partB l:Nat):Int)) (e := .call 72 [sv l,.func (.func 73) #[] #[]]) (d := 17) (g := ((!(decide (l = ([])))) && (decide ((((l).length:Nat):Int) ≤ (12 : Int)))) && (letterB (l.getD 0 0))) (k' := (kOp Y60 [1,0] 15 [])) (ps := [(((!(decide (l = ([])))) && (decide ((((l).length:Nat):Int) ≤ (12 : Int)))) && (letterB (l.getD 0 0))) = true → (((!(decide (l = ([])))) && (decide ((((l).length:Nat):Int) ≤ (12 : Int)))) && (letterB (l.getD 0 0))) = true]) (by kernel_rfl) (A1 (fun h => h)) (rfl) (fun hg => runs_call E72 (run_any partB 73 l w E73 part_any hl)) ?_
 rintro _ rfl
 refine Zi 6 [.gn 0,.gn 0,.gn 0,.gn 0,.y,.y,.y,.y] [] trivial [((!(decide (l = ([])))) && (decide ((((l).length:Nat):Int) ≤ (12 : Int)))) && (letterB (l.getD 0 0))] trivial ?_
 refine ZCond (fun w' => Ext w w') (.bool (kwB l)) (e := .call 74 [sv l]) (d := 24) (g := (((!(decide (l = ([])))) && (decide ((((l).length:Nat):Int) ≤ (12 : Int)))) && (letterB (l.getD 0 0))) && (decide (((runLen partB l:Nat):Int) = (((l).length:Nat):Int)))) (k' := (kOp Y60 [1,0] 22 [])) (ps := [((((!(decide (l = ([])))) && (decide ((((l).length:Nat):Int) ≤ (12 : Int)))) && (letterB (l.getD 0 0))) && (decide (((runLen partB l:Nat):Int) = (((l).length:Nat):Int)))) = true → ((((!(decide (l = ([])))) && (decide ((((l).length:Nat):Int) ≤ (12 : Int)))) && (letterB (l.getD 0 0))) && (decide (((runLen partB l:Nat):Int) = (((l).length:Nat):Int)))) = true]) (by kernel_rfl) (A1 (fun h => h)) (Ext.refl w) (fun hg => runs_call E74 (Keyword_any l w)) ?_
 rintro w1 hE
 refine Zi 4 [.gn 0,.gn 0,.y] [] trivial [(((!(decide (l = ([])))) && (decide ((((l).length:Nat):Int) ≤ (12 : Int)))) && (letterB (l.getD 0 0))) && (decide (((runLen partB l:Nat):Int) = (((l).length:Nat):Int)))] trivial ?_
 exact Z1 0 (.bool (((((!(decide (l = ([])))) && (decide ((((l).length:Nat):Int) ≤ (12 : Int)))) && (letterB (l.getD 0 0))) && (decide (((runLen partB l:Nat):Int) = (((l).length:Nat):Int)))) && (!(kwB l)))) (⟨rfl,hE⟩)

end Go.Proofs.YtcbclephakfemaaGreatRRRDoor
