/-
  PLAN: contracts of the library's functions and of the lexer's Name.
-/
import Derived.Test.YtjhgghpeapmgdaaGreatDoorPlanD
import Derived.Test.YtjhgghpeapmgdaaGreatDoorPlanSort
import Derived.Test.YtjhgghpeapmgdaaGreatDoorShelf
import Derived.Lib.OwnBridge
import Derived.Test.YtjhgghpeapmgdaaGreatDoorMg2
namespace Go.Proofs.YtjhgghpeapmgdaaGreatDoor
open Go.Bk Go.Proofs

theorem E109 : Proofs.Enters Tryz.prog 109 := Proofs.enters_of Tryz.func109 (by kernel_rfl) rfl

theorem E98 : Proofs.Enters Tryz.prog 98 := Proofs.enters_of Tryz.func98 (by kernel_rfl) rfl

theorem E94 : Proofs.Enters Tryz.prog 94 := Proofs.enters_of Tryz.func94 (by kernel_rfl) rfl

theorem E126 : Proofs.Enters Tryz.prog 126 := Proofs.enters_of Tryz.func126 (by kernel_rfl) rfl

theorem E100 : Proofs.Enters Tryz.prog 100 := Proofs.enters_of Tryz.func100 (by kernel_rfl) rfl

theorem E81 : Proofs.Enters Tryz.prog 81 := Proofs.enters_of Tryz.func81 (by kernel_rfl) rfl

theorem E99 : Proofs.Enters Tryz.prog 99 := Proofs.enters_of Tryz.func99 (by kernel_rfl) rfl

theorem E64 : Proofs.Enters Tryz.prog 64 := Proofs.enters_of Tryz.func64 (by kernel_rfl) rfl

theorem E65 : Proofs.Enters Tryz.prog 65 := Proofs.enters_of Tryz.func65 (by kernel_rfl) rfl

theorem E28 : Proofs.Enters Tryz.prog 28 := Proofs.enters_of Tryz.func28 (by kernel_rfl) rfl

theorem E95 : Proofs.Enters Tryz.prog 95 := Proofs.enters_of Tryz.func95 (by kernel_rfl) rfl

theorem E97 : Proofs.Enters Tryz.prog 97 := Proofs.enters_of Tryz.func97 (by kernel_rfl) rfl

theorem E96 : Proofs.Enters Tryz.prog 96 := Proofs.enters_of Tryz.func96 (by kernel_rfl) rfl

theorem E125 : Proofs.Enters Tryz.prog 125 := Proofs.enters_of Tryz.func125 (by kernel_rfl) rfl

theorem E124 : Proofs.Enters Tryz.prog 124 := Proofs.enters_of Tryz.func124 (by kernel_rfl) rfl

theorem E73 : Proofs.Enters Tryz.prog 73 := Proofs.enters_of Tryz.func73 (by kernel_rfl) rfl

theorem E72 : Proofs.Enters Tryz.prog 72 := Proofs.enters_of Tryz.func72 (by kernel_rfl) rfl

theorem E78 : Proofs.Enters Tryz.prog 78 := Proofs.enters_of Tryz.func78 (by kernel_rfl) rfl

theorem E82 : Proofs.Enters Tryz.prog 82 := Proofs.enters_of Tryz.func82 (by kernel_rfl) rfl

set_option maxRecDepth 20000 in
theorem letter_any (c : UInt8) (w : World)  :
    Does Tryz.prog 109 [.int .u8 (c.toNat:Int)] w (fun v w' => v = .bool (letterB c) ∧ w = w') := by
 refine startD (c := Y109) Tryz.func109 rfl (by kernel_rfl) ?_
 show G _ 17 [] _ (kAt Y109 [] []) (stz [(0,.int .u8 (c.toNat:Int))]) w
 refine sgz 22 [.sym,.sym,.sym,.sym,.sym,.sym,.sym,.sym] (kAt Y109 [1,1] []) [(2,.bool (((decide ((97 : Int) ≤ (c.toNat:Int))) && (decide ((c.toNat:Int) ≤ (122 : Int)))) || ((decide ((65 : Int) ≤ (c.toNat:Int))) && (decide ((c.toNat:Int) ≤ (90 : Int))))))] ((fun (z1 : Bool) => ((fun (z2 : Bool) => ((fun (z3 : Bool) => ([z2 = true → z2 = true,z2 = true → z2 = true,z1 = true → z1 = true,z1 = true → z1 = true,(z1 && z3) = true → (z1 && z3) = true,z1 = true → z1 = true,z1 = true → z3 = true → (z1 && z3) = true,z1 = true → z1 = true] : List Prop)) (decide ((65 : Int) ≤ (c.toNat:Int))))) (decide ((97 : Int) ≤ (c.toNat:Int))))) (!((decide ((97 : Int) ≤ (c.toNat:Int))) && (decide ((c.toNat:Int) ≤ (122 : Int)))))) (AC (fun h => h) (AC (fun h => h) (AC (fun h => h) (AC (fun h => h) (AC (fun h => h) (AC (fun h => h) (AC (by intro _; intro h; simp_all) (A1 (fun h => h))))))))) ?_
 exact ret1 (.bool (((decide ((97 : Int) ≤ (c.toNat:Int))) && (decide ((c.toNat:Int) ≤ (122 : Int)))) || ((decide ((65 : Int) ≤ (c.toNat:Int))) && (decide ((c.toNat:Int) ≤ (90 : Int)))))) (⟨rfl,rfl⟩)

set_option maxRecDepth 20000 in
theorem part_any (c : UInt8) (w : World)  :
    Does Tryz.prog 98 [.int .u8 (c.toNat:Int)] w (fun v w' => v = .bool (partB c) ∧ w = w') := by
 refine startD (c := Y98) Tryz.func98 rfl (by kernel_rfl) ?_
 show G _ 21 [] _ (kAt Y98 [] []) (stz [(0,.int .u8 (c.toNat:Int))]) w
 refine sg0 7 (kOp Y98 [1,0] 1 []) [(0,.int .u8 (c.toNat:Int)),(2,.bool false),(3,.int .u8 (c.toNat:Int))] ?_
 refine os0 _ (some 4) (kOp Y98 [1,0] 2 []) (runs_call E109 (letter_any c w)) ?_
 rintro v _ ⟨rfl,rfl⟩
 refine sgz 18 [.sym,.sym,.sym,.sym,.sym,.sym,.sym,.sym,.sym,.sym] (kAt Y98 [1,1] []) [(2,.bool ((((letterB c) || ((decide ((48 : Int) ≤ (c.toNat:Int))) && (decide ((c.toNat:Int) ≤ (57 : Int))))) || (decide ((c.toNat:Int) = (45 : Int)))) || (decide ((c.toNat:Int) = (95 : Int)))))] ((fun (z1 : Bool) => ((fun (z2 : Bool) => ((fun (z3 : Bool) => ([(!(letterB c)) = true → (!(letterB c)) = true,(!(letterB c)) = true → (!(letterB c)) = true,z3 = true → z3 = true,(!(letterB c)) = true → (!(letterB c)) = true,(!(letterB c)) = true → (decide ((48 : Int) ≤ (c.toNat:Int))) = true → z3 = true,(!(letterB c)) = true → (!(letterB c)) = true,(!z1) = true → (!z1) = true,(!z1) = true → (!z1) = true,z2 = true → z2 = true,z2 = true → z2 = true] : List Prop)) ((!(letterB c)) && (decide ((48 : Int) ≤ (c.toNat:Int)))))) (!(z1 || (decide ((c.toNat:Int) = (45 : Int))))))) ((letterB c) || ((decide ((48 : Int) ≤ (c.toNat:Int))) && (decide ((c.toNat:Int) ≤ (57 : Int)))))) (AC (fun h => h) (AC (fun h => h) (AC (fun h => h) (AC (fun h => h) (AC (by intro _; intro h; simp_all) (AC (fun h => h) (AC (fun h => h) (AC (fun h => h) (AC (fun h => h) (A1 (fun h => h))))))))))) ?_
 exact ret1 (.bool ((((letterB c) || ((decide ((48 : Int) ≤ (c.toNat:Int))) && (decide ((c.toNat:Int) ≤ (57 : Int))))) || (decide ((c.toNat:Int) = (45 : Int)))) || (decide ((c.toNat:Int) = (95 : Int))))) (⟨rfl,rfl⟩)

def runL (p : UInt8 → Bool) (F : FuncId) (l : Bytes) (w : World) : Lp Nat where
  S := fun k => [(0,none,sv l),(1,none,.func (.func F) #[] #[]),(7,none,iv (l.length:Int)),(8,none,iv (k:Int))]
  J := fun k w' => w = w' ∧ k ≤ l.length ∧ ∀ j,j < k → p (l.getD j 0) = true
  M := fun k => l.length - k
set_option maxRecDepth 20000 in
theorem run_any (p : UInt8 → Bool) (F : FuncId) (l : Bytes) (w : World) (hE : Enters Tryz.prog F) (hF : ∀ (c : UInt8) (w : World),Does Tryz.prog F [.int .u8 (c.toNat : Int)] w fun v w' => v = .bool (p c) ∧ w = w') (hl : l.length ≤ 9223372036854775807) :
    Does Tryz.prog 94 [sv l,.func (.func F) #[] #[]] w (fun v w' => v = .int .i64 ((runLen p l:Nat):Int) ∧ w = w') := by
 refine startD (c := Y94) Tryz.func94 rfl (by kernel_rfl) ?_
 show G _ 21 [] _ (kAt Y94 [] []) (stz [(0,sv l),(1,.func (.func F) #[] #[])]) w
 refine sg0 12 (kAt Y94 [1,0,1,0] []) [(0,sv l),(1,.func (.func F) #[] #[]),(4,iv 0),(7,iv (((l).length:Nat):Int)),(8,iv 0)] ?_
 refine loopR (runL p F l w) (k' := (kEnd Y94 [1,0,1,0] [])) (body := (cAt Y94 [1,0,1,0,0])) (by kernel_rfl) 0 [0,1,7,8] (by kernel_rfl) (⟨rfl,by omega,fun j hj => by omega⟩) ?_
 rintro k _ ⟨rfl,hk,hp⟩
 refine sg0 5 (kAt (cAt Y94 [1,0,1,0,0]) [1,0] (.inv (LI 21 [] (runL p F l w) k) :: (kEnd Y94 [1,0,1,0] []))) [(0,sv l),(1,.func (.func F) #[] #[]),(7,iv (l.length:Int)),(8,iv (k:Int)),(9,.bool (decide ((k:Int) < (l.length:Int))))] ?_
 refine brd ((k:Int) < (l.length:Int)) (fun h => ?_) (fun h => ?_)
 ·refine sgz 14 [] (kOp (cAt Y94 [1,0,1,0,0]) [1,1,0,0,1,0] 4 (.inv (LI 21 [] (runL p F l w) k) :: (kEnd Y94 [1,0,1,0] []))) [(0,sv l),(1,.func (.func F) #[] #[]),(5,iv (k:Int)),(7,iv (l.length:Int)),(8,iv (k:Int)),(11,.func (.func F) #[] #[]),(14,.int .u8 (((l.getD k 0).toNat:Nat):Int))] [(0 ≤ (k:Int) ∧ (k:Int) < ((l).length : Int))] (A1 (by omega)) ?_
  refine os0 (.call F [.int .u8 (((l.getD k 0).toNat:Nat):Int)]) (some 15) (kOp (cAt Y94 [1,0,1,0,0]) [1,1,0,0,1,0] 5 (.inv (LI 21 [] (runL p F l w) k) :: (kEnd Y94 [1,0,1,0] []))) (runs_call hE (hF (l.getD k 0) w)) ?_
  rintro v _ ⟨rfl,rfl⟩
  refine sg0 2 (kAt (cAt Y94 [1,0,1,0,0]) [1,1,0,0,1,1] (.inv (LI 21 [] (runL p F l w) k) :: (kEnd Y94 [1,0,1,0] []))) [(0,sv l),(1,.func (.func F) #[] #[]),(5,iv (k:Int)),(7,iv (l.length:Int)),(8,iv (k:Int)),(16,.bool (!(p (l.getD k 0))))] ?_
  refine brk _ (¬ ((p (l.getD k 0)) = true)) ((iffNot Iff.rfl)) (fun hc => ?_) (fun hc => ?_)
  ·refine sg0 5 (kAt (cAt Y94 [1,0,1,0,0]) [1,1,0,0,1,1,0,1] (.inv (LI 21 [] (runL p F l w) k) :: (kEnd Y94 [1,0,1,0] []))) [(0,sv l),(1,.func (.func F) #[] #[]),(4,iv (k:Int)),(7,iv (l.length:Int)),(8,iv (k:Int))] ?_
   exact ret1 (iv (k:Int)) (⟨by rw [runLen_hit p l k (by omega) hp (by simpa using hc)],rfl⟩)
  refine sgz 6 [] (.inv (LI 21 [] (runL p F l w) k) :: (kEnd Y94 [1,0,1,0] [])) [(0,sv l),(1,.func (.func F) #[] #[]),(7,iv (l.length:Int)),(8,iv ((k + 1:Nat):Int))] [I64 ((k + 1:Nat):Int)] (A1 (i64 (by omega))) ?_
  exact again (k + 1) [0,1,7,8] (by kernel_rfl) (⟨rfl,by omega,fun j hj => by by_cases e : j = k; (subst e; simpa using hc); exact hp j (by omega)⟩) (show l.length - (k + 1) < l.length - k by omega)
 refine sg0 7 (kAt Y94 [1,1,1] []) [(4,iv (((l).length:Nat):Int))] ?_
 exact ret1 (iv (((l).length:Nat):Int)) (⟨by rw [runLen_all p l (fun j hj => hp j (by omega))],rfl⟩)

structure Glob (w : World) : Prop where
  syn : ∃ tp p,w.var? Tryz.prog "strconv.ErrSyntax" = some #[.iface tp p]
  rng : ∃ tp p,w.var? Tryz.prog "strconv.ErrRange" = some #[.iface tp p]
  pow : Lib.TabIs Tryz.prog w "internal/strconv.uint64pow10" .u64 Lib.pow10Tab
theorem Glob.ext {w w' : World} (h : Glob w) (hE : Ext w w') : Glob w' := by
  obtain ⟨⟨t1,p1,h1⟩,⟨t2,p2,h2⟩,h3⟩ := h
  exact ⟨⟨t1,p1,hE.var h1⟩,⟨t2,p2,hE.var h2⟩,hE.var h3⟩
theorem grow_ext (w : World) (k : Nat) (os : Array Obj) : Ext w (Sort.grow (w.drewN k) os) := by
  refine ⟨rfl,rfl,rfl,?_,fun i hi => ?_⟩
  · show w.heap.size ≤ (w.heap ++ os).size
    simp
  · show (w.heap ++ os)[i]? = _
    rw [Array.getElem?_append_left hi]
theorem contains_kw (l : Bytes) (b : Nat) (w : World) (h : w.heap[b]? = some (.cells (kwList.map fun l => Value.string (bs l)).toArray 9 (0,0))) :
    Does Tryz.prog 125 [.slice (some ⟨b,0,none⟩) 13 13,.string (bs l)] w fun v w' => v = .bool (kwB l) ∧ w = w' := by
  refine Does.of_calls (Tryz.slices_Contains_string b 0 13 13 (kwList.map bs) (bs l) w (by decide) (by decide) (fun j hj => ?_)) fun _ _ ⟨he,hw⟩ => ⟨_,he,?_,hw.symm⟩
  · refine cell_of h ?_
    rw [Nat.zero_add,List.getD_eq_getElem?_getD]
    simp only [List.getElem?_toArray,List.getElem?_map]
    have hj' : j < kwList.length := by simpa using hj
    rw [List.getElem?_eq_getElem hj']
    rfl
  · congr 1
    rw [Bool.eq_iff_iff,Lib.containsS_iff]
    unfold kwB
    rw [decide_eq_true_eq,show List.take 13 (kwList.map bs) = kwList.map bs from rfl,List.mem_map]
    constructor
    · rintro ⟨x,hx,he⟩
      rw [← bs_inj he]; exact hx
    · intro hx
      exact ⟨l,hx,rfl⟩
theorem itoa_any (n : Int) (h0 : -9223372036854775808 ≤ n) (h1 : n ≤ 9223372036854775807) (w : World) (hG : Glob w) : Does Tryz.prog 73 [.int .i64 n] w fun v w' => v = .string (bs (Lib.itoa n)) ∧ Ext w w' :=
  Does.of_calls (Tryz.strconv_Itoa n h0 h1 w hG.pow) fun _ _ ⟨he,k,os,hw⟩ => ⟨_,he,rfl,hw ▸ grow_ext w k os⟩
theorem strC_enc (xs : List Bytes) : xs.flatMap strC = xs.map encStr := by
  induction xs with
  | nil => rfl
  | cons x r ih => rw [List.flatMap_cons,ih]; rfl
theorem sort_any (B g cap : Nat) (xs : List Bytes) (w0 w : World) (hE : Ext w0 w) (hB : w0.heap.size ≤ B) (hl : xs.length ≤ 1000) (h : w.ownsRow B 9 1 (.slice (some ⟨g,0,none⟩) xs.length cap) xs.length (xs.flatMap strC)) :
    Does Tryz.prog 78 [.slice (some ⟨g,0,none⟩) xs.length cap] w fun v w' => v = .tuple #[] ∧ w'.ownsRow B 9 1 (.slice (some ⟨g,0,none⟩) (sortB xs).length cap) (sortB xs).length ((sortB xs).flatMap strC) ∧ Ext w0 w' := by
  rw [strC_enc] at h
  obtain ⟨g',cap',hv,hg,hlt,_,_,_,hH⟩ := Lib.holds_of_ownsRow h (by simp)
  simp only [Value.slice.injEq,Option.some.injEq,Addr.mk.injEq,and_true,true_and] at hv
  obtain ⟨rfl,rfl⟩ := hv
  refine Does.of_calls (Tryz.slices_Sort_string g 0 cap xs w hH hlt (by omega)) fun _ _ ⟨he,n,os,hw⟩ => ⟨_,he,rfl,?_,?_⟩
  · have h2 := Lib.ownsRow_putRow (q := n) (k := xs.length) h (sortB_len xs) (Nat.le_refl _)
    rw [sortB_len,strC_enc]
    rw [show (sortB xs).take xs.length = sortB xs from by rw [← sortB_len xs,List.take_length]] at h2
    subst hw
    exact ownsRow_ext h2 (grow_ext _ 0 os)
  · subst hw
    exact Ext.trans (Lib.below_putRow (q := n) (d := (sortB xs).toArray) (enc := encStr) hE (Nat.le_trans hB hg)) (grow_ext _ 0 os)
theorem compact_any (B g cap : Nat) (xs : List Bytes) (w0 w : World) (hE : Ext w0 w) (hB : w0.heap.size ≤ B) (hl : xs.length ≤ 1000) (h : w.ownsRow B 9 1 (.slice (some ⟨g,0,none⟩) xs.length cap) xs.length (xs.flatMap strC)) :
    Does Tryz.prog 82 [.slice (some ⟨g,0,none⟩) xs.length cap] w fun v w' => v = .slice (some ⟨g,0,none⟩) (Lib.compact xs).length cap ∧ Ext w0 w' := by
  rw [strC_enc] at h
  obtain ⟨g',cap',hv,hg,hlt,hc,_,_,hH⟩ := Lib.holds_of_ownsRow h (by simp)
  simp only [Value.slice.injEq,Option.some.injEq,Addr.mk.injEq,and_true,true_and] at hv
  obtain ⟨rfl,rfl⟩ := hv
  refine Does.of_calls (Tryz.slices_Compact_string g 0 cap xs w hH (by omega) hc) fun _ _ ⟨he,n,hw⟩ => ⟨_,he,rfl,?_⟩
  subst hw
  exact Lib.below_putRow hE (Nat.le_trans hB hg)
theorem join_any (b n c : Nat) (ws : List Bytes) (hn : ws.length = n) (w : World) (hw : Cells w (some ⟨b,0,none⟩) (ws.flatMap strC)) (hb : b < w.heap.size) (hc : n ≤ c) (hl : (joinW ws).length ≤ 140737488355328) (hN : n ≤ 140737488355328) :
    Does Tryz.prog 72 [.slice (some ⟨b,0,none⟩) n c,.string (bs [32])] w fun v w' => v = .string (bs (joinW ws)) ∧ Ext w w' := by
  subst hn
  have e1 : (ws.map bs).map (·.data.toList) = ws := by rw [List.map_map]; simp [bs,Function.comp_def]
  have h := Tryz.strings_Join b 0 c (ws.map bs) (bs [32]) w (fun j x hx => ?_) hb (by simpa using hN) (by simpa using hc) (by rw [e1,show (bs [32]).data.toList = [32] from rfl,joinW_eq]; exact hl)
  · rw [e1,show (bs [32]).data.toList = [32] from rfl,joinW_eq,List.length_map] at h
    exact Does.of_calls h fun _ _ ⟨he,hw⟩ => ⟨_,he,rfl,hw⟩
  · refine hw.at ?_
    rw [strC_enc,List.getElem?_map]
    rw [List.getElem?_map] at hx
    cases hj : ws[j]? with
    | none => rw [hj] at hx; cases hx
    | some y => rw [hj] at hx; rw [← Option.some.inj hx]; rfl
theorem blk_cells {w : World} {b : Nat} {cs : List Value} {t : TypeId} {fz : Nat × Nat} (h : w.heap[b]? = some (.cells cs.toArray t fz)) : Cells w (some ⟨b,0,none⟩) cs := by
  refine .inr ⟨rfl,fun j v hv => ?_⟩
  simp only [slB,slO,Nat.zero_add]
  exact cell_of h (by simpa using hv)

set_option maxRecDepth 20000 in
theorem keywords_any  (w : World)  :
    Does Tryz.prog 126 [] w (fun v w' => ∃ b,v = .slice (some ⟨b,0,none⟩) 13 13 ∧ New w w' b (.cells (kwList.map fun l => Value.string (bs l)).toArray 9)) := by
 refine startD (c := Y126) Tryz.func126 rfl (by kernel_rfl) ?_
 show G _ 2 [] _ (kAt Y126 [] []) [] w
 refine sg0 6 (kOp Y126 [1,0] 0 []) [(0,.slice none 0 0)] ?_
 refine os0 (.bslice 37 13 [(0,sv ([112,114,111,116,111,99,111,108])),(1,sv ([118,101,99,116,111,114])),(2,sv ([112,97,116,104])),(3,sv ([102,97,105,108,117,114,101,115])),(4,sv ([110,111,100,101])),(5,sv ([108,105,110,107])),(6,sv ([100,101,115,116])),(7,sv ([97,116])),(8,sv ([99,104,101,99,107])),(9,sv ([114,101,97,99,104])),(10,sv ([119,105,116,104,105,110])),(11,sv ([119,97,121,112,111,105,110,116])),(12,sv ([101,113,117,97,108]))]) (some 1) (kOp Y126 [1,0] 1 []) (runs_bslice (cs := kwList.map fun l => Value.string (bs l)) (e := 9) (by kernel_rfl)) ?_
 rintro _ w1 ⟨b1,rfl,hN⟩
 refine sg0 2 (kAt Y126 [1,1] []) [(0,.slice (some ⟨b1,0,none⟩) 13 13)] ?_
 exact ret1 (.slice (some ⟨b1,0,none⟩) 13 13) (⟨_,rfl,hN⟩)

set_option maxRecDepth 20000 in
theorem Keyword_any (l : Bytes) (w : World)  :
    Does Tryz.prog 100 [sv l] w (fun v w' => v = .bool (kwB l) ∧ Ext w w') := by
 refine startD (c := Y100) Tryz.func100 rfl (by kernel_rfl) ?_
 show G _ 6 [] _ (kAt Y100 [] []) (stz [(0,sv l)]) w
 refine sg0 6 (kOp Y100 [1,0] 0 []) [(0,sv l),(2,.bool false)] ?_
 refine os0 _ (some 3) (kOp Y100 [1,0] 1 []) (runs_call E126 (keywords_any w)) ?_
 rintro _ w1 ⟨b1,rfl,hN⟩
 refine sg0 1 (kOp Y100 [1,0] 2 []) [(2,.bool false),(3,.slice (some ⟨b1,0,none⟩) 13 13),(4,sv l)] ?_
 refine os0 _ (some 5) (kOp Y100 [1,0] 3 []) (runs_call E125 (contains_kw l b1 w1 hN.own)) ?_
 rintro _ _ ⟨rfl,rfl⟩
 refine sg0 2 (kAt Y100 [1,1] []) [(2,.bool (kwB l))] ?_
 exact ret1 (.bool (kwB l)) (⟨rfl,hN.ext⟩)

set_option maxRecDepth 20000 in
theorem Name_any (l : Bytes) (w : World) (hl : l.length ≤ 9223372036854775807) :
    Does Tryz.prog 81 [sv l] w (fun v w' => v = .bool (nameB l) ∧ Ext w w') := by
 refine startD (c := Y81) Tryz.func81 rfl (by kernel_rfl) ?_
 show G _ 27 [] _ (kAt Y81 [] []) (stz [(0,sv l)]) w
 refine sgs 16 [.sym,.sym,.sym,.sym,.sym] [0,2,10,12] (kOp Y81 [1,0] 10 []) [(0,none,sv l),(2,none,.bool false),(10,none,.bool ((!(decide (l = ([])))) && (decide ((((l).length:Nat):Int) ≤ (12 : Int))))),(12,some ((!(decide (l = ([])))) && (decide ((((l).length:Nat):Int) ≤ (12 : Int)))),.int .u8 (((l.getD 0 0).toNat:Nat):Int))] ((fun (z1 : Bool) => ((fun (z2 : Bool) => ([z1 = true → z1 = true,z1 = true → z1 = true,z1 = true → z1 = true,z2 = true → z2 = true,z2 = true → (0 ≤ (0 : Int) ∧ (0 : Int) < ((l).length : Int))] : List Prop)) (z1 && (decide ((((l).length:Nat):Int) ≤ (12 : Int)))))) (!(decide (l = ([]))))) (AC (fun h => h) (AC (fun h => h) (AC (fun h => h) (AC (fun h => h) (A1 (by intro h; cases l <;> simp_all <;> omega)))))) ?_
 refine opCond (fun w' => w = w') (.bool (letterB (l.getD 0 0))) (e := .call 109 [.int .u8 (((l.getD 0 0).toNat:Nat):Int)]) (d := 13) (g := (!(decide (l = ([])))) && (decide ((((l).length:Nat):Int) ≤ (12 : Int)))) (k' := (kOp Y81 [1,0] 11 [])) (ps := [((!(decide (l = ([])))) && (decide ((((l).length:Nat):Int) ≤ (12 : Int)))) = true → ((!(decide (l = ([])))) && (decide ((((l).length:Nat):Int) ≤ (12 : Int)))) = true]) (by kernel_rfl) (A1 (fun h => h)) (rfl) (fun hg => runs_call E109 (letter_any (l.getD 0 0) w)) ?_
 rintro _ rfl
 refine sgs 3 [.sym] [0,2,15,16] (kOp Y81 [1,0] 14 []) [(0,none,sv l),(2,none,.bool false),(15,none,.bool (((!(decide (l = ([])))) && (decide ((((l).length:Nat):Int) ≤ (12 : Int)))) && (letterB (l.getD 0 0)))),(16,some (((!(decide (l = ([])))) && (decide ((((l).length:Nat):Int) ≤ (12 : Int)))) && (letterB (l.getD 0 0))),sv l)] ((fun (z1 : Bool) => ([z1 = true → z1 = true] : List Prop)) ((!(decide (l = ([])))) && (decide ((((l).length:Nat):Int) ≤ (12 : Int))))) (A1 (fun h => h)) ?_
 refine opCond (fun w' => w = w') (iv ((runLen partB l:Nat):Int)) (e := .call 94 [sv l,.func (.func 98) #[] #[]]) (d := 17) (g := ((!(decide (l = ([])))) && (decide ((((l).length:Nat):Int) ≤ (12 : Int)))) && (letterB (l.getD 0 0))) (k' := (kOp Y81 [1,0] 15 [])) (ps := [(((!(decide (l = ([])))) && (decide ((((l).length:Nat):Int) ≤ (12 : Int)))) && (letterB (l.getD 0 0))) = true → (((!(decide (l = ([])))) && (decide ((((l).length:Nat):Int) ≤ (12 : Int)))) && (letterB (l.getD 0 0))) = true]) (by kernel_rfl) (A1 (fun h => h)) (rfl) (fun hg => runs_call E94 (run_any partB 98 l w E98 part_any hl)) ?_
 rintro _ rfl
 refine sgs 6 [.sym,.sym,.sym,.sym] [2,22,23] (kOp Y81 [1,0] 21 []) [(2,none,.bool false),(22,none,.bool ((((!(decide (l = ([])))) && (decide ((((l).length:Nat):Int) ≤ (12 : Int)))) && (letterB (l.getD 0 0))) && (decide (((runLen partB l:Nat):Int) = (((l).length:Nat):Int))))),(23,some ((((!(decide (l = ([])))) && (decide ((((l).length:Nat):Int) ≤ (12 : Int)))) && (letterB (l.getD 0 0))) && (decide (((runLen partB l:Nat):Int) = (((l).length:Nat):Int)))),sv l)] ((fun (z1 : Bool) => ([z1 = true → z1 = true,z1 = true → z1 = true,z1 = true → z1 = true,z1 = true → z1 = true] : List Prop)) (((!(decide (l = ([])))) && (decide ((((l).length:Nat):Int) ≤ (12 : Int)))) && (letterB (l.getD 0 0)))) (AC (fun h => h) (AC (fun h => h) (AC (fun h => h) (A1 (fun h => h))))) ?_
 refine opCond (fun w' => Ext w w') (.bool (kwB l)) (e := .call 100 [sv l]) (d := 24) (g := (((!(decide (l = ([])))) && (decide ((((l).length:Nat):Int) ≤ (12 : Int)))) && (letterB (l.getD 0 0))) && (decide (((runLen partB l:Nat):Int) = (((l).length:Nat):Int)))) (k' := (kOp Y81 [1,0] 22 [])) (ps := [((((!(decide (l = ([])))) && (decide ((((l).length:Nat):Int) ≤ (12 : Int)))) && (letterB (l.getD 0 0))) && (decide (((runLen partB l:Nat):Int) = (((l).length:Nat):Int)))) = true → ((((!(decide (l = ([])))) && (decide ((((l).length:Nat):Int) ≤ (12 : Int)))) && (letterB (l.getD 0 0))) && (decide (((runLen partB l:Nat):Int) = (((l).length:Nat):Int)))) = true]) (by kernel_rfl) (A1 (fun h => h)) (Ext.refl w) (fun hg => runs_call E100 (Keyword_any l w)) ?_
 rintro w1 hE
 refine sgz 4 [.sym] (kAt Y81 [1,1] []) [(2,.bool (((((!(decide (l = ([])))) && (decide ((((l).length:Nat):Int) ≤ (12 : Int)))) && (letterB (l.getD 0 0))) && (decide (((runLen partB l:Nat):Int) = (((l).length:Nat):Int)))) && (!(kwB l))))] ((fun (z1 : Bool) => ([z1 = true → z1 = true,z1 = true → z1 = true] : List Prop)) ((((!(decide (l = ([])))) && (decide ((((l).length:Nat):Int) ≤ (12 : Int)))) && (letterB (l.getD 0 0))) && (decide (((runLen partB l:Nat):Int) = (((l).length:Nat):Int))))) (AC (fun h => h) (A1 (fun h => h))) ?_
 exact ret1 (.bool (((((!(decide (l = ([])))) && (decide ((((l).length:Nat):Int) ≤ (12 : Int)))) && (letterB (l.getD 0 0))) && (decide (((runLen partB l:Nat):Int) = (((l).length:Nat):Int)))) && (!(kwB l)))) (⟨rfl,hE⟩)

end Go.Proofs.YtjhgghpeapmgdaaGreatDoor
