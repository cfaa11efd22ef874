/-
  MORE LAWS OF OPERATIONS: maps of which only the keys are told; stores into a row; append of a string; strings.Builder inside another struct.
-/
import Derived.Test.YtcbclephakfemaaGreatRRRDoorOwn
import Derived.Maps.Keyed
import Derived.DeepKeys4
import Derived.Lib.AppendStr
import Derived.Lib.Builder
import Derived.Lib.UnsafeStr
import Derived.Laws.Externs
namespace Go.Bk
open Go Go.MapKept Go.ChangeMaps

section
variable {P : Program} {w : World}
theorem runs_makeMap (t : TypeId) : Runs P w (.makeMap t) fun v w' => ∃ b,v = .map (some b) ∧ New w w' b (.map #[] 0) := by
 refine runs_value (s := Instr.makeMap t none) (v := .map (some w.heap.size)) (w' := w.alloc (.map #[] 0)) rfl ?_ ⟨_,rfl,New.of_alloc _ _⟩
 rfl
theorem chg_setBlock {b : Nat} {o o' : Obj} (h : w.heap[b]? = some o) : Chg w (setBlock w b o') b o' := by
 refine ⟨rfl,rfl,rfl,by simp [setBlock],?_,fun k hk => ?_⟩
 ·have := heap_lt h
  simp [setBlock,this]
 ·simp [setBlock,Ne.symm hk]
theorem runs_mapUpd {t k e : TypeId} (K : Maps.Keyed P k) (ht : P.underlying t = some (.map k e)) {b : Nat} {es : Array MapEntry} {clock : Nat} (hb : w.heap[b]? = some (.map es clock)) {key val : Value} {kl : Lit} (hkey : keyOf P k key = some kl)
  (hks : ∀ x ∈ es.toList.map (·.key),∃ l,keyOf P k x = some l) :
  Runs P w (.mapUpd t (.map (some b)) key val) fun _ w' => ∃ es' clock',Chg w w' b (.map es' clock') ∧ ((key ∈ es.toList.map (·.key) ∧ es'.toList.map (·.key) = es.toList.map (·.key)) ∨ (key ∉ es.toList.map (·.key) ∧ es'.toList.map (·.key) = es.toList.map (·.key) ++ [key])) := by
 have hks' : ∀ x ∈ es.toList,∃ l,keyOf P k x.key = some l := fun x hx => hks x.key (List.mem_map_of_mem hx)
 rcases K.find w hkey es.toList hks' with ⟨h1,h2⟩ | ⟨j,e0,h1,h2,h3⟩
 ·refine runs_skip (s := Instr.mapUpdate t (.map (some b)) key val) (w' := setBlock w b (.map (es.push ⟨key,val,clock⟩) (clock + 1))) rfl ?_ ⟨_,_,chg_setBlock hb,?_⟩
  ·simp [Instr.mapUpdate,run_underlying ht,MapKept.run_getObj_map hb,K.check w false hkey,h1,MapKept.run_setObj_map _ hb,Result.andThen,setBlock]
  ·refine .inr ⟨fun hm => ?_,by simp⟩
   obtain ⟨x,hx,hxe⟩ := List.mem_map.1 hm
   exact h2 x hx hxe
 ·have hj : es[j]? = some e0 := by simpa using h2
  have hjl : j < es.size := (Array.getElem?_eq_some_iff.1 hj).1
  refine runs_skip (s := Instr.mapUpdate t (.map (some b)) key val) (w' := setBlock w b (.map (es.modify j fun e' => { e' with key := key,val := val }) clock)) rfl ?_ ⟨_,_,chg_setBlock hb,?_⟩
  ·simp [Instr.mapUpdate,run_underlying ht,MapKept.run_getObj_map hb,K.check w false hkey,h1,hj,h3,K.stays w hkey,MapKept.run_setObj_map _ hb,Result.andThen,setBlock]
  ·refine .inl ⟨List.mem_map.2 ⟨e0,List.mem_of_getElem? h2,h3⟩,?_⟩
   rw [Array.toList_modify]
   apply List.ext_getElem?
   intro i
   rw [List.getElem?_map,List.getElem?_map,List.getElem?_modify]
   by_cases e : j = i
   ·subst e
    rw [h2]; simp [h3]
   ·cases es.toList[i]? <;> simp [e]
theorem runs_mapLen {t k e ty : TypeId} {cs : Array Bool} (ht : P.underlying t = some (.map k e)) {b : Nat} {es : Array MapEntry} {clock : Nat} (hb : w.heap[b]? = some (.map es clock)) {ks : List Value} (hk : es.toList.map (·.key) = ks) :
  Runs P w (.builtin .len #[t] ty cs [.map (some b)]) fun v w' => v = .int .i64 ((ks.length : Nat) : Int) ∧ w = w' := by
 refine runs_value (s := Builtin.len_ #[t] ty #[.map (some b)]) (v := .int .i64 ((es.size : Nat) : Int)) (w' := w) rfl ?_ ⟨by rw [← hk]; simp,rfl⟩
 simp [Builtin.len_,run_underlying ht,MapKept.run_getObj_map hb,goInt,Result.andThen]
theorem runs_store_row {t e : TypeId} {s size B g n cap o : Nat} {v : Value} {xs : List Value} (hs : (tabOf P).siz t = some s) (hown : w.ownsRow B e size (.slice (some ⟨g,0,none⟩) n cap) n xs) (hv : v.cells.size = s) (hfit : o + s ≤ n * size)
  (h1 : ∀ u ∈ v.cells.toList,u.oneCell' = true) : Runs P w (.store t (.pointer (some ⟨g,o,none⟩)) v) fun _ w' => (∃ ob,Chg w w' g ob) ∧ w'.ownsRow B e size (.slice (some ⟨g,0,none⟩) n cap) n (setAt xs o v.cells.toList) := by
 obtain ⟨hl,h2⟩ := hown
 rcases h2 with ⟨h',_⟩ | ⟨g',cap',cur,h',hb,hg,hnc,hcm,hcs,htake⟩
 ·simp at h'
 ·simp only [Value.slice.injEq,Option.some.injEq,Addr.mk.injEq,and_true,true_and] at h'
  obtain ⟨rfl,rfl⟩ := h'
  have hlen : cur.toList.length = cap * size := by simpa using hcs
  have hle : n * size ≤ cap * size := Nat.mul_le_mul_right size hnc
  have hvl : v.cells.toList.length = s := by simpa using hv
  refine (runs_store (s := s) (cs := cur.toList) hs (by simpa using hg) hv (by omega) h1).mono fun _ w' hC => ⟨⟨_,hC⟩,?_,.inr ⟨g,cap,_,rfl,hb,hC.own,hnc,hcm,?_,?_⟩⟩
  ·unfold setAt
   simp only [List.length_append,List.length_take,List.length_drop,hvl,hl]
   omega
  ·simp only [List.size_toArray]
   unfold setAt
   simp only [List.length_append,List.length_take,List.length_drop,hvl,hlen]
   omega
  ·unfold setAt
   rw [← htake]
   simp only [hvl]
   apply List.ext_getElem?
   intro i
   simp only [List.getElem?_take,List.getElem?_append,List.length_append,List.length_take,List.getElem?_drop,hlen,hvl]
   have m1 : min o (cap * size) = o := by omega
   have m2 : min (n * size) (cap * size) = n * size := by omega
   have m3 : min o (n * size) = o := by omega
   simp only [m1,m2,m3]
   by_cases h1 : i < n * size
   ·rw [if_pos h1]
    by_cases h2 : i < o
    ·simp [h2,h1,show i < o + s by omega]
    ·by_cases h3 : i < o + s
     ·simp [h2,h3]
     ·simp [h3,show o + s + (i - (o + s)) < n * size by omega]
   ·rw [if_neg h1,if_neg (by omega),if_neg (by omega)]
theorem runs_app_str {t u ty e : TypeId} {B : Nat} {cs : Array Bool} (h : appInfo P t = some (e,1,1)) (hz : (P.info? e).map (fun i => i.zero) = some (some (.int .u8 0))) (hu : P.underlying u = some .string) {v : Value} {n : Nat} {xs : List Value} (hown : w.ownsRow B e 1 v n xs) (l : List UInt8)
  (hbytes : n + l.length ≤ 140737488355328) (hbase : B ≤ w.heap.size) :
  Runs P w (.builtin .append #[t,u] ty cs [v,.string (bs l)]) fun v' w' => w'.ownsRow B e 1 v' (n + l.length) (xs ++ Lib.byteCells l) ∧ w.grownBy w' v.ownBlock := by
 unfold appInfo at h
 split at h
 ·rename_i e0 ht
  split at h
  ·rename_i i hi
   split at h
   ·rename_i z hz'
    cases hc : (Nat.beq z.cells.size i.size && Nat.blt 0 i.size) with
    | false => rw [hc] at h; cases h
    | true =>
     rw [hc] at h
     simp only [cond_true,Option.some.injEq,Prod.mk.injEq] at h
     obtain ⟨rfl,hsz,hby⟩ := h
     rw [hi] at hz
     simp only [Option.map_some,Option.some.injEq] at hz
     have hsl : (bs l).size = l.length := bs_size l
     obtain ⟨v',w',hr,a1,a2,_⟩ := Lib.run_append_own_string (P := P) (w := w) B t u ty e0 i ht hu hi hz hsz hby v n xs hown (bs l) (by rw [hsl]; unfold maxLen; omega) (by rw [hsl]; exact hbytes) hbase
     refine runs_value (s := Builtin.append_ #[t,u] ty #[v,.string (bs l)]) rfl hr ⟨?_,a2⟩
     rw [hsl] at a1
     exact a1
   ·cases h
  ·cases h
 ·cases h
theorem runs_to_unsafe {src dst t e : TypeId} {j : TypeInfo} {b o : Nat} {cells : Nat} (hs : P.underlying src = some (.pointer t)) (hd : P.underlying dst = some .unsafePointer) (ht : P.info? t = some j) (hj : j.size ≠ 0)
  (hsh : w.shape? b = some (e,cells)) (hoff : o < cells) : Runs P w (.conv src dst (.pointer (some ⟨b,o,none⟩))) fun v w' => v = .pointer (some ⟨b,o,none⟩) ∧ w = w' :=
 runs_value (s := convert src dst (.pointer (some ⟨b,o,none⟩))) rfl (Lib.run_to_unsafe w ⟨b,o,none⟩ hs hd ht hj hsh hoff) ⟨rfl,rfl⟩
theorem runs_from_unsafe {src dst u e : TypeId} {j : TypeInfo} {b o : Nat} {cells : Nat} (hs : P.underlying src = some .unsafePointer) (hd : P.underlying dst = some (.pointer u)) (hu : P.info? u = some j)
  (hsh : w.shape? b = some (e,cells)) (hlies : liesAt P P.depth e (cells / P.cellsOf e) o u 1 = true) : Runs P w (.conv src dst (.pointer (some ⟨b,o,none⟩))) fun v w' => v = .pointer (some ⟨b,o,none⟩) ∧ w = w' :=
 runs_value (s := convert src dst (.pointer (some ⟨b,o,none⟩))) rfl (Lib.run_from_unsafe w ⟨b,o,none⟩ hs hd hu hsh hlies) ⟨rfl,rfl⟩
theorem runs_noEscape {f : FuncId} {fn : Func} (hf : P.funcs[f]? = some fn) (hname : (fn.name == "runtime.NumGoroutine") = false) (hb : fn.body.isNone = true) (hn : Extern.findNext fn = none) (he : Extern.find fn = some Extern.AbiNoEscape.same) (x : Value) :
  Runs P w (.call f [x]) fun v w' => v = x ∧ w = w' := by
 unfold Runs
 rw [show (EOp.call f [x]).sem = callFunc f #[x] from rfl,run_callFunc_extern hf hname hb hn he]
 rw [Lib.run_noEscape]
 exact ⟨rfl,rfl⟩
theorem runs_sliceData {ts : Array TypeId} {ty : TypeId} {cs : Array Bool} {g n c : Nat} (hc : c ≠ 0) : Runs P w (.builtin .unsafeSliceData ts ty cs [.slice (some ⟨g,0,none⟩) n c]) fun v w' => v = .pointer (some ⟨g,0,none⟩) ∧ w = w' :=
 runs_value (s := Builtin.unsafeSliceData_ ts ty #[.slice (some ⟨g,0,none⟩) n c]) rfl (Lib.run_unsafeSliceData_row w _ _ _ _ _ hc) ⟨rfl,rfl⟩
theorem runs_unsafeString {pt it ty e : TypeId} {cs : Array Bool} {g cells : Nat} {l : List UInt8} (hp : P.underlying pt = some (.pointer e)) (hc : P.cellsOf e = 1) (hsh : w.shape? g = some (e,cells)) (h0 : l ≠ []) (hn : l.length ≤ cells) (h63 : l.length ≤ 9223372036854775807)
  (hcell : ∀ j x,l[j]? = some x → w.cell? ((⟨g,0,none⟩ : Addr).add j) = some (.int .u8 x.toNat)) :
  Runs P w (.builtin .unsafeString #[pt,it] ty cs [.pointer (some ⟨g,0,none⟩),.int .i64 ((l.length : Nat) : Int)]) fun v w' => v = .string (bs l) ∧ w' = w.freeze ⟨g,0,none⟩ l.length :=
 runs_value (s := Builtin.unsafeString_ #[pt,it] ty #[.pointer (some ⟨g,0,none⟩),.int .i64 l.length]) rfl (Lib.run_unsafeString_row w pt it ty e hp hc g cells hsh l h0 hn h63 hcell) ⟨rfl,rfl⟩
theorem runs_load {t : TypeId} {x v : Value} {ps : List Prop} (h : evLoad (tabOf P) w t x v = some (v,ps)) (hp : All ps) : Runs P w (.load t x) fun u w' => u = v ∧ w = w' :=
 runs_value (s := Instr.loadAt t x) rfl (evLoad_sound (tabOk P) h hp.mem) ⟨rfl,rfl⟩
end
namespace Hold
variable {w : World} {B : Nat} {L : List Res}
theorem sub (h : Hold w B L) {L' : List Res} (f : Nat → Nat) (hf : ∀ i j,i < L'.length → j < L'.length → f i = f j → i = j) (hL : ∀ i r,L'[i]? = some r → L[f i]? = some r) : Hold w B L' :=
 ⟨h.base,fun i r hi => h.all _ r (hL i r hi),fun i j r r' hi hj hne => h.apart _ _ r r' (hL i r hi) (hL j r' hj) fun e => hne (hf i j (List.getElem?_eq_some_iff.1 hi).1 (List.getElem?_eq_some_iff.1 hj).1 e)⟩
theorem keepTail {A X : List Res} (h : Hold w B (A ++ X)) (ks : List Nat) (hks : ks.Nodup) (hlt : ∀ k ∈ ks,k < A.length) {A' : List Res} (hA : ks.filterMap (fun k => A[k]?) = A') : Hold w B (A' ++ X) := by
 have hA' : A' = ks.map fun k => A.getD k (.map 0 []) := by
  rw [← hA]
  clear hks hA
  induction ks with
  | nil => rfl
  | cons k ks ih =>
   have hk : k < A.length := hlt k (by simp)
   rw [List.filterMap_cons,List.getElem?_eq_getElem hk]
   simp only
   rw [ih fun k hk => hlt k (by simp [hk]),List.map_cons,List.getD_eq_getElem?_getD,List.getElem?_eq_getElem hk]; rfl
 have hl : A'.length = ks.length := by rw [hA',List.length_map]
 refine h.sub (fun i => if i < ks.length then ks.getD i 0 else i - ks.length + A.length) (fun i j hi hj e => ?_) (fun i r hi => ?_)
 ·by_cases h1 : i < ks.length
  ·by_cases h2 : j < ks.length
   ·rw [if_pos h1,if_pos h2,List.getD_eq_getElem?_getD,List.getD_eq_getElem?_getD,List.getElem?_eq_getElem h1,List.getElem?_eq_getElem h2] at e
    exact (List.getElem_inj hks).1 e
   ·rw [if_pos h1,if_neg h2,List.getD_eq_getElem?_getD,List.getElem?_eq_getElem h1] at e
    have := hlt _ (List.getElem_mem h1)
    simp at e
    omega
  ·by_cases h2 : j < ks.length
   ·rw [if_neg h1,if_pos h2,List.getD_eq_getElem?_getD,List.getElem?_eq_getElem h2] at e
    have := hlt _ (List.getElem_mem h2)
    simp at e
    omega
   ·rw [if_neg h1,if_neg h2] at e
    omega
 ·rw [List.getElem?_append,hl] at hi
  by_cases h1 : i < ks.length
  ·rw [if_pos h1] at hi ⊢
   have hk := hlt _ (List.getElem_mem h1)
   rw [hA',List.getElem?_map,List.getElem?_eq_getElem h1,Option.map_some,List.getD_eq_getElem?_getD,List.getElem?_eq_getElem hk] at hi
   rw [List.getD_eq_getElem?_getD,List.getElem?_eq_getElem h1,Option.getD_some,List.getElem?_append,if_pos hk,List.getElem?_eq_getElem hk]
   exact hi
  ·rw [if_neg h1] at hi ⊢
   rw [List.getElem?_append,if_neg (by omega),Nat.add_sub_cancel]
   exact hi
theorem toTail {A X : List Res} (h : Hold w B (A ++ X)) (i : Nat) {r : Res} (hi : A[i]? = some r) {A' : List Res} (hA : A.eraseIdx i = A') : Hold w B (A' ++ (X ++ [r])) := by
 have hil : i < A.length := (List.getElem?_eq_some_iff.1 hi).1
 have hl : A'.length = A.length - 1 := by rw [← hA,List.length_eraseIdx_of_lt hil]
 refine h.sub (fun k => if k < A'.length then (if k < i then k else k + 1) else if k < A'.length + X.length then k + 1 else i) (fun k m hk hm e => ?_) (fun k r' hk => ?_)
 ·simp only [List.length_append,List.length_cons,List.length_nil] at hk hm e
  split at e <;> split at e <;> (try split at e) <;> (try split at e) <;> (try split at e) <;> omega
 ·rw [List.getElem?_append] at hk
  by_cases h1 : k < A'.length
  ·rw [if_pos h1] at hk ⊢
   rw [← hA,List.getElem?_eraseIdx] at hk
   split
   ·rename_i h2
    rw [if_pos h2] at hk
    rw [List.getElem?_append,if_pos (by omega)]; exact hk
   ·rename_i h2
    rw [if_neg h2] at hk
    rw [List.getElem?_append,if_pos (by omega)]; exact hk
  ·rw [if_neg h1,List.getElem?_append] at hk
   rw [if_neg h1]
   by_cases h2 : k < A'.length + X.length
   ·rw [if_pos h2]
    rw [if_pos (by omega)] at hk
    rw [List.getElem?_append,if_neg (by omega),show k + 1 - A.length = k - A'.length by omega]
    exact hk
   ·rw [if_neg h2]
    rw [if_neg (by omega)] at hk
    rw [List.getElem?_append,if_pos hil,hi]
    rw [List.getElem?_singleton] at hk
    split at hk
    ·exact hk
    ·cases hk
theorem tail {A X : List Res} (h : Hold w B (A ++ X)) : Hold w B X := by
 have := h.keepTail [] List.nodup_nil (by simp) (A' := []) rfl
 simpa using this
theorem noTail {A : List Res} (h : Hold w B A) : Hold w B (A ++ []) := by simpa using h
end Hold
namespace Hold
theorem pickT {w : World} {B : Nat} {L : List Res} (h : Hold w B L) (n : Nat) (ks : List Nat) (hok : (decide ks.Nodup && ks.all (fun k => Nat.blt k n) && Nat.ble n L.length) = true) : Hold w B (ks.filterMap (fun k => L[k]?) ++ L.drop n) := by
 simp only [Bool.and_eq_true,decide_eq_true_eq,List.all_eq_true] at hok
 obtain ⟨⟨h1,h2⟩,h3⟩ := hok
 have h3 := Nat.le_of_ble_eq_true h3
 have hl : (L.take n).length = n := by rw [List.length_take]; omega
 have h2' : ∀ k ∈ ks,k < n := fun k hk => by simpa [Nat.blt_eq] using h2 k hk
 have h' : Hold w B (L.take n ++ L.drop n) := by rw [List.take_append_drop]; exact h
 refine h'.keepTail ks h1 (fun k hk => by rw [hl]; exact h2' k hk) ?_
 clear h1 h2
 induction ks with
 | nil => rfl
 | cons k r ih =>
  have hk := h2' k (by simp)
  rw [List.filterMap_cons,List.filterMap_cons,List.getElem?_take,if_pos hk,ih fun k hk => h2' k (by simp [hk])]
theorem pick {w : World} {B : Nat} {L : List Res} (h : Hold w B L) (n : Nat) (ks : List Nat) (hok : (decide ks.Nodup && ks.all (fun k => Nat.blt k n) && Nat.ble n L.length) = true) {L' : List Res} (hL : ks.filterMap (fun k => L[k]?) ++ L.drop n = L') : Hold w B L' := hL ▸ h.pickT n ks hok
end Hold
theorem row_slice {w : World} {B : Nat} {e : TypeId} {size n : Nat} {v : Value} {xs : List Value} (h : w.ownsRow B e size v n xs) : ∃ a c,v = .slice a n c := by
 obtain ⟨a,c,hv,_⟩ := SlV.of_owns h
 exact ⟨a,c,hv⟩
end Go.Bk
