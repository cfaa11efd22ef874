/-
  LEX: contracts of the reference's Name, Number and Lex.
-/
import Derived.Test.YtjhgghpeapmgdaaGreatDoorMg5
import Derived.Test.YtjhgghpeapmgdaaGreatDoorMg1
import Derived.Test.YtjhgghpeapmgdaaGreatDoorLz
import Derived.Test.YtjhgghpeapmgdaaGreatDoorMg2
namespace Go.Proofs.YtjhgghpeapmgdaaGreatDoor
open Go.Bk Go.Proofs

theorem rname_no {l : Bytes} (h : ((((l = []) ∨ ((12 : Int) < (l.length:Int))) ∨ ¬ (letterB (l.getD 0 0) = true)) ∨ (kwB l = true))) : nameB l = false := by
  cases hn : nameB l with
  | false => rfl
  | true =>
    obtain ⟨h1,h2,h3,h4,h5⟩ := nameB_iff.1 hn
    rcases h with ((h | h) | h) | h
    · exact absurd h h1
    · omega
    · exact absurd h3 h
    · rw [h5] at h; cases h
theorem rname_yes {l : Bytes} (h : ¬ ((((l = []) ∨ ((12 : Int) < (l.length:Int))) ∨ ¬ (letterB (l.getD 0 0) = true)) ∨ (kwB l = true))) (hp : ∀ j,j < l.length → partB (l.getD j 0) = true) : nameB l = true := by
  simp only [not_or,Classical.not_not] at h
  obtain ⟨⟨⟨h1,h2⟩,h3⟩,h4⟩ := h
  exact nameB_iff.2 ⟨h1,by omega,h3,runLen_all partB l hp,by simpa using h4⟩

def rnL (l : Bytes) (w1 : World) : Lp Nat where
  S := fun k => [(0,none,sv l),(3,none,iv (k:Int))]
  J := fun k w' => w1 = w' ∧ k ≤ l.length ∧ ∀ j,j < k → partB (l.getD j 0) = true
  M := fun k => l.length - k
set_option maxRecDepth 20000 in
theorem rName_any (l : Bytes) (w : World) (hl : l.length ≤ 9223372036854775807) :
    Does Tryz.prog 68 [sv l] w (fun v w' => v = .bool (nameB l) ∧ Ext w w') := by
 refine startZ (c := Y68) Tryz.func68 rfl (by kernel_rfl) ?_
 show H _ 32 [] _ (kAt Y68 [] []) (stz [(0,sv l)]) w
 refine Zi 17 [.gn 0,.gn 0,.gn 0,.gn 1,.p (fun _ => (!((decide (l = ([]))) || (decide ((12 : Int) < (((l).length:Nat):Int))))) = true → (0 ≤ (0 : Int) ∧ (0 : Int) < ((l).length : Int))),.y,.y,.y,.y,.y] [] trivial [!(decide (l = ([]))),!((decide (l = ([]))) || (decide ((12 : Int) < (((l).length:Nat):Int))))] (A1 (by intro h; cases l <;> simp_all <;> omega)) ?_
 refine ZCond (fun w' => w = w') (.bool (letterB (l.getD 0 0))) (e := .call 101 [.int .u8 (((l.getD 0 0).toNat:Nat):Int)]) (d := 14) (g := !((decide (l = ([]))) || (decide ((12 : Int) < (((l).length:Nat):Int))))) (k' := (kOp Y68 [1,0,0] 11 [])) (ps := [(!((decide (l = ([]))) || (decide ((12 : Int) < (((l).length:Nat):Int))))) = true → (!((decide (l = ([]))) || (decide ((12 : Int) < (((l).length:Nat):Int))))) = true]) (by kernel_rfl) (A1 (fun h => h)) (rfl) (fun hg => runs_call E101 (rletter_any (l.getD 0 0) w)) ?_
 rintro _ rfl
 refine Zi 4 [.gn 0,.gn 0,.y,.y] [] trivial [!((decide (l = ([]))) || (decide ((12 : Int) < (((l).length:Nat):Int))))] trivial ?_
 refine ZCond (fun w' => Ext w w') (.bool (kwB l)) (e := .call 67 [sv l]) (d := 19) (g := !(((decide (l = ([]))) || (decide ((12 : Int) < (((l).length:Nat):Int)))) || (!(letterB (l.getD 0 0))))) (k' := (kOp Y68 [1,0,0] 16 [])) (ps := [(!(((decide (l = ([]))) || (decide ((12 : Int) < (((l).length:Nat):Int)))) || (!(letterB (l.getD 0 0))))) = true → (!(((decide (l = ([]))) || (decide ((12 : Int) < (((l).length:Nat):Int)))) || (!(letterB (l.getD 0 0))))) = true]) (by kernel_rfl) (A1 (fun h => h)) (Ext.refl w) (fun hg => runs_call E67 (rKeyword_any l w)) ?_
 rintro w1 hE
 refine Zi 2 [.gn 0] [] trivial [!(((decide (l = ([]))) || (decide ((12 : Int) < (((l).length:Nat):Int)))) || (!(letterB (l.getD 0 0))))] trivial ?_
 refine Zr 0 _ ((((l = ([])) ∨ ((12 : Int) < (((l).length:Nat):Int))) ∨ (¬ ((letterB (l.getD 0 0)) = true))) ∨ ((kwB l) = true)) ((iffOr (iffOr (iffOr iffDec iffDec) (iffNot Iff.rfl)) Iff.rfl)) (fun h0 => ?_) (fun h0 => ?_)
 ·exact Z1 4 (.bool false) (⟨by rw [rname_no h0],hE⟩)
 refine Zs 7 [] [] trivial ?_
 refine ZLoop (rnL l w1) (k' := (kEnd Y68 [1,1,0,1,0] [])) (body := (cAt Y68 [1,1,0,1,0,0])) (by kernel_rfl) 0 [0,3] (by kernel_rfl) (⟨rfl,by omega,fun j hj => by omega⟩) ?_
 rintro k _ ⟨rfl,hk,hp⟩
 refine Zq 8 ((k:Int) < (((l).length:Nat):Int)) (fun h1 => ?_) (fun h1 => ?_)
 ·refine Zs 8 [] [(0 ≤ (k:Int) ∧ (k:Int) < ((l).length : Int))] (A1 (by omega)) ?_
  refine Zl 0 E66 (rpart_any (l.getD k 0) w1) ?_
  rintro _ _ ⟨rfl,rfl⟩
  refine Zr 2 _ (¬ ((partB (l.getD k 0)) = true)) ((iffNot Iff.rfl)) (fun h2 => ?_) (fun h2 => ?_)
  ·exact Z1 4 (.bool false) (⟨by rw [nameB_false_of_part (k := k) (by omega) (by simpa using h2)],hE⟩)
  refine Zs 7 [] [I64 ((k + 1:Nat):Int)] (A1 (i64 (by omega))) ?_
  exact ZA 0 (rnL l w1) k (k + 1) [0,3] (⟨rfl,by omega,fun j hj => by by_cases e : j = k; (subst e; simpa using h2); exact hp j (by omega)⟩) (show l.length - (k + 1) < l.length - k by omega)
 exact Z1 5 (.bool true) (⟨by rw [rname_yes h0 (fun j hj => hp j (by omega))],hE⟩)

theorem rnum_no {l : Bytes} (h : (((l = []) ∨ ((5 : Int) < (l.length:Int))) ∨ (((1:Int) < (l.length:Int)) ∧ (((l.getD 0 0).toNat:Nat):Int) = 48))) : numI l = -1 := by
  rcases h with (h | h) | ⟨h,h'⟩
  · subst h; rfl
  · exact numI_long (by omega)
  · exact numI_zero (by omega) (by omega)
theorem rnum_end {l : Bytes} (h : ¬ (((l = []) ∨ ((5 : Int) < (l.length:Int))) ∨ (((1:Int) < (l.length:Int)) ∧ (((l.getD 0 0).toNat:Nat):Int) = 48))) (hd : ∀ j,j < l.length → digitB (l.getD j 0) = true) :
    numI l = if 65535 < digVal l then -1 else ((digVal l:Nat):Int) := by
  simp only [not_or,not_and] at h
  obtain ⟨⟨h1,h2⟩,h3⟩ := h
  exact numI_digits (all_of_getD hd) h1 (by omega) (fun h => by have := h3 (by omega); omega)
theorem digVal_small {l : Bytes} {k : Nat} (hk : k ≤ 5) (hd : ∀ c ∈ l.take k,digitB c = true) : digVal (l.take k) < 100000 := by
  have h1 := digVal_lt _ hd
  have h2 : (10 : Nat) ^ (l.take k).length ≤ 10 ^ 5 := Nat.pow_le_pow_right (by omega) (by simp; omega)
  have h3 : (10 : Nat) ^ 5 = 100000 := by decide
  omega
theorem all_take {p : UInt8 → Bool} {l : Bytes} {k : Nat} (hk : k ≤ l.length) (h : ∀ j,j < k → p (l.getD j 0) = true) : ∀ c ∈ l.take k,p c = true := by
  refine all_of_getD (fun j hj => ?_)
  have hj' : j < k := by simp at hj; omega
  have := h j hj'
  rw [List.getD_eq_getElem?_getD] at this ⊢
  rw [List.getElem?_take,if_pos hj']
  exact this

def rnumL (l : Bytes) (w : World) : Lp Nat where
  S := fun k => [(0,none,sv l),(3,none,iv ((digVal (l.take k):Nat):Int)),(4,none,iv (k:Int))]
  J := fun k w' => w = w' ∧ k ≤ l.length ∧ ∀ j,j < k → digitB (l.getD j 0) = true
  M := fun k => l.length - k
set_option maxRecDepth 20000 in
theorem rNumber_any (l : Bytes) (w : World)  :
    Does Tryz.prog 69 [sv l] w (fun v w' => v = .int .i64 (numI l) ∧ Ext w w') := by
 refine startZ (c := Y69) Tryz.func69 rfl (by kernel_rfl) ?_
 show H _ 44 [] _ (kAt Y69 [] []) (stz [(0,sv l)]) w
 refine Zi 25 [.gn 0,.gn 0,.gn 0,.gn 1,.gn 1,.gn 1,.gn 2,.p (fun _ => ((!((decide (l = ([]))) || (decide ((5 : Int) < (((l).length:Nat):Int))))) && (decide ((1:Int) < (((l).length:Nat):Int)))) = true → (0 ≤ (0 : Int) ∧ (0 : Int) < ((l).length : Int))),.gn 2,.gn 1,.p (fun _ => (!((decide (l = ([]))) || (decide ((5 : Int) < (((l).length:Nat):Int))))) = true → (decide ((1:Int) < (((l).length:Nat):Int))) = true → ((!((decide (l = ([]))) || (decide ((5 : Int) < (((l).length:Nat):Int))))) && (decide ((1:Int) < (((l).length:Nat):Int)))) = true),.gn 1,.y,.y,.y,.y,.y,.y,.y,.y,.y,.y,.y] [] trivial [!(decide (l = ([]))),!((decide (l = ([]))) || (decide ((5 : Int) < (((l).length:Nat):Int)))),(!((decide (l = ([]))) || (decide ((5 : Int) < (((l).length:Nat):Int))))) && (decide ((1:Int) < (((l).length:Nat):Int)))] (AC (by intro h; (try simp only [Bool.and_eq_true,decide_eq_true_eq,Bool.not_eq_true',decide_eq_false_iff_not,Bool.or_eq_true] at h); first | done | omega) (A1 (by intro _; intro h; simp_all))) ?_
 refine Zr 0 _ (((l = ([])) ∨ ((5 : Int) < (((l).length:Nat):Int))) ∨ (((1:Int) < (((l).length:Nat):Int)) ∧ ((((l.getD 0 0).toNat:Nat):Int) = (48 : Int)))) ((iffOr (iffOr iffDec iffDec) (iffAnd iffDec iffDec))) (fun h0 => ?_) (fun h0 => ?_)
 ·exact Z1 4 (iv (-1)) (⟨by rw [rnum_no h0],Ext.refl w⟩)
 have hl5 : l.length ≤ 5 := by simp only [not_or] at h0; omega
 refine Zs 11 [] [] trivial ?_
 refine ZLoop (rnumL l w) (k' := (kEnd Y69 [1,1,1,0,1,0] [])) (body := (cAt Y69 [1,1,1,0,1,0,0])) (by kernel_rfl) 0 [0,3,4] (by kernel_rfl) (⟨rfl,by omega,fun j hj => by omega⟩) ?_
 rintro k _ ⟨rfl,hk,hp⟩
 have hv := digVal_small (l := l) (k := k) (by omega) (all_take hk hp)
 refine Zq 8 ((k:Int) < (((l).length:Nat):Int)) (fun h1 => ?_) (fun h1 => ?_)
 ·refine Zs 9 [] [(0 ≤ (k:Int) ∧ (k:Int) < ((l).length : Int))] (A1 (by omega)) ?_
  refine Zl 0 E102 (rdigit_any (l.getD k 0) w) ?_
  rintro _ _ ⟨rfl,rfl⟩
  refine Zr 2 _ (¬ ((digitB (l.getD k 0)) = true)) ((iffNot Iff.rfl)) (fun h2 => ?_) (fun h2 => ?_)
  ·exact Z1 4 (iv (-1)) (⟨by rw [numI_nodigit (k := k) (by omega) (by simpa using h2)],Ext.refl w⟩)
  have h2 : digitB (l.getD k 0) = true := by simpa using h2
  have h3 := digitB_iff.1 h2
  refine Zs 18 [] [I64 ((10 * (digVal (l.take k)):Nat):Int),(0 ≤ (k:Int) ∧ (k:Int) < ((l).length : Int)),(0 ≤ ((((l.getD k 0).toNat:Nat):Int) - (48 : Int)) ∧ ((((l.getD k 0).toNat:Nat):Int) - (48 : Int)) ≤ 255),I64 ((((l.getD k 0).toNat:Nat):Int) - (48 : Int)),I64 (((10 * (digVal (l.take k)):Nat):Int) + ((((l.getD k 0).toNat:Nat):Int) - (48 : Int))),I64 ((k + 1:Nat):Int)] (AC (i64 (by omega)) (AC (by omega) (AC (by omega) (AC (i64 (by omega)) (AC (i64 (by omega)) (A1 (i64 (by omega)))))))) ?_
  have hvs : digVal (l.take (k + 1)) = 10 * digVal (l.take k) + ((l.getD k 0).toNat - 48) := by rw [take_succ_getD (by omega),digVal_snoc]
  refine Zw 0 3 (iv (((10 * (digVal (l.take k)):Nat):Int) + ((((l.getD k 0).toNat:Nat):Int) - (48 : Int)))) (iv ((digVal (l.take (k + 1)):Nat):Int)) (by rw [show ((((10 * (digVal (l.take k)):Nat):Int) + ((((l.getD k 0).toNat:Nat):Int) - (48 : Int))) : Int) = ((digVal (l.take (k + 1)):Nat):Int) from by rw [hvs]; omega]) ?_
  exact ZA 0 (rnumL l w) k (k + 1) [0,3,4] (⟨rfl,by omega,fun j hj => by by_cases e : j = k; (subst e; exact h2); exact hp j (by omega)⟩) (show l.length - (k + 1) < l.length - k by omega)
 refine Zq 7 ((65535 : Int) < ((digVal (l.take k):Nat):Int)) (fun h3 => ?_) (fun h3 => ?_)
 ·exact Z1 4 (iv (-1)) (⟨by rw [rnum_end h0 (fun j hj => hp j (by omega)),if_pos]; rw [List.take_of_length_le (by omega)] at h3; omega,Ext.refl w⟩)
 exact Z1 6 (iv ((digVal (l.take k):Nat):Int)) (⟨by rw [List.take_of_length_le (by omega)] at h3 ⊢; rw [rnum_end h0 (fun j hj => hp j (by omega)),if_neg]; omega,Ext.refl w⟩)

theorem lexR_one {l : Bytes} {k : Nat} {q : Bytes} (hk : k < l.length) (hq : l.drop (k + 1) = q) : l.drop k = l.getD k 0 :: q := by
  rw [← hq,List.getD_eq_getElem?_getD,List.getElem?_eq_getElem hk]
  exact List.drop_eq_getElem_cons hk
theorem takeWhile_run {p : UInt8 → Bool} {l : Bytes} {i k : Nat} (hk : k ≤ l.length) (hik : i ≤ k) (hp : ∀ j,i ≤ j → j < k → p (l.getD j 0) = true) (hs : k < l.length → p (l.getD k 0) = false) : (l.take k).drop i = (l.drop i).takeWhile p := by
  have e : runLen p (l.drop i) = k - i := by
    by_cases hlt : k < l.length
    · refine runLen_hit p _ _ (by rw [List.length_drop]; omega) (fun j hj => ?_) ?_
      · have := hp (i + j) (by omega) (by omega)
        rw [List.getD_eq_getElem?_getD] at this ⊢
        rw [List.getElem?_drop]; exact this
      · have := hs hlt
        rw [List.getD_eq_getElem?_getD] at this ⊢
        rw [List.getElem?_drop,show i + (k - i) = k by omega]; exact this
    · have : k = l.length := by omega
      have h2 := runLen_all p (l.drop i) (fun j hj => by
        have := hp (i + j) (by omega) (by rw [List.length_drop] at hj; omega)
        rw [List.getD_eq_getElem?_getD] at this ⊢
        rw [List.getElem?_drop]; exact this)
      rw [h2,List.length_drop]; omega
  rw [← take_runLen,e,← List.drop_take]
theorem lexR_at {l : Bytes} {i j : Nat} (hi : i ≤ l.length) (hj : i ≤ j) (hjl : j ≤ l.length) (hs : skipL (l.drop i) = skipL (l.drop j)) : lexR ((l.drop i).length + 1) (l.drop i) i = lexR ((l.drop j).length + 1) (l.drop j) j :=
  lexR_skip hs (by simp; omega) (by simp; omega) (by omega) (by omega)
theorem head_drop {l : Bytes} {k : Nat} (hk : k < l.length) : (l.drop k).getD 0 0 = l.getD k 0 := by
  rw [List.getD_eq_getElem?_getD,List.getD_eq_getElem?_getD,List.getElem?_drop,Nat.add_zero]
theorem drop_ne {l : Bytes} {k : Nat} (hk : k < l.length) : l.drop k ≠ [] := by
  intro e
  have := congrArg List.length e
  simp at this
  omega
theorem lexR_tok {l : Bytes} {k i : Nat} {t : Tok} (acc : List Tok) (hsk : skipL (l.drop k) = l.drop k) (ht : firstT (l.drop k) = (t,true)) (hk : t.kind ≠ 4) (hi : i = k + t.text.length) :
    comb acc (lexR ((l.drop k).length + 1) (l.drop k) k) = comb (acc ++ [{ t with at' := (k:Int) }]) (lexR ((l.drop i).length + 1) (l.drop i) i) := by
  have h := lexR_go (r := l.drop k) (a := k) acc (by rw [hsk,ht]) (by rw [hsk,ht]; exact hk)
  rw [h,hsk,ht,Nat.sub_self,Nat.add_zero]
  simp only [List.drop_drop]
  rw [hi]
theorem lexR_err {l : Bytes} {k : Nat} (acc : List Tok) (hsk : skipL (l.drop k) = l.drop k) (ht : (firstT (l.drop k)).2 = false) : comb acc (lexR ((l.drop k).length + 1) (l.drop k) k) = ([],21,(k:Int)) := by
  rw [lexR_bad (by rw [hsk]; exact ht),hsk,Nat.sub_self,Nat.add_zero]
  rfl
theorem lexR_stop {l : Bytes} {k : Nat} (acc : List Tok) (hk : k = l.length) : comb acc (lexR ((l.drop k).length + 1) (l.drop k) k) = (acc ++ [⟨4,[],0,(l.length:Int)⟩],0,0) := by
  subst hk
  have e : l.drop l.length = [] := by simp
  rw [e]
  rfl
theorem skip_at {l : Bytes} {k : Nat} (hk : k < l.length) (h1 : blankB (l.getD k 0) = false) (h2 : (l.getD k 0).toNat ≠ 35) : skipL (l.drop k) = l.drop k :=
  skipL_self (fun _ => by rw [head_drop hk]; exact h1) (fun _ => by rw [head_drop hk]; exact h2)

def rlexL (l : Bytes) (w : World) : Lp (Value × List Tok × Nat) where
  S := fun x => [(0,none,sv l),(2,none,.slice none 0 0),(3,none,iv 0),(4,none,iv 0),(5,none,x.1),(6,none,iv (x.2.2:Int))]
  J := fun x w' => Ext w w' ∧ w'.ownsRow w.heap.size 49 4 x.1 x.2.1.length (x.2.1.flatMap tokCells) ∧ x.2.2 ≤ l.length ∧ x.2.1.length ≤ x.2.2 ∧ comb x.2.1 (lexR ((l.drop x.2.2).length + 1) (l.drop x.2.2) x.2.2) = lexT l
  M := fun x => l.length - x.2.2
def rrunL (l : Bytes) (w0 : World) (v : Value) (k : Nat) : Lp Nat where
  S := fun i => [(0,none,sv l),(2,none,.slice none 0 0),(3,none,iv 0),(4,none,iv 0),(5,none,v),(6,none,iv (k:Int)),(7,none,iv (i:Int))]
  J := fun i w' => w0 = w' ∧ k ≤ i ∧ i ≤ l.length ∧ ∀ j,k ≤ j → j < i → partB (l.getD j 0) = true
  M := fun i => l.length - i
def rcomL (l : Bytes) (w0 : World) (v : Value) (k : Nat) : Lp Nat where
  S := fun j => [(0,none,sv l),(2,none,.slice none 0 0),(3,none,iv 0),(4,none,iv 0),(5,none,v),(6,none,iv (j:Int))]
  J := fun j w' => w0 = w' ∧ k ≤ j ∧ j ≤ l.length ∧ ∀ m,k ≤ m → m < j → notLineB (l.getD m 0) = true
  M := fun j => l.length - j
set_option maxRecDepth 20000 in
theorem rLex_any (l : Bytes) (w : World)  :
    Does Tryz.prog 29 [sv l] w (fun v w' => ∃ u,v = .tuple #[u,.int .i64 (lexT l).2.1,.int .i64 (lexT l).2.2] ∧ TokSl w' u (lexT l).1 ∧ Ext w w') := by
 refine startZ (c := Y29) Tryz.func29 rfl (by kernel_rfl) ?_
 show H _ 115 [] _ (kAt Y29 [] []) (stz [(0,sv l)]) w
 refine Zq 13 ((10000 : Int) < (((l).length:Nat):Int)) (fun h0 => ?_) (fun h0 => ?_)
 ·exact Z3 6 (.slice none 0 0) (iv 20) (iv 10000) (⟨.slice none 0 0,by unfold lexT; rw [if_pos (by omega)],by unfold lexT; rw [if_pos (by omega)]; exact SlV.nil w,Ext.refl w⟩)
 have hE1 : Ext w w := Ext.refl w
 refine Zs 11 [] [] trivial ?_
 refine ZLoop (rlexL l w) (k' := (kEnd Y29 (ro1 4 [0,0]) [])) (body := (cAt Y29 (ro1 4 [0,0,0]))) (by kernel_rfl) (.slice none 0 0,[],0) [0,2,3,4,5,6] (by kernel_rfl) (⟨hE1,ownsRow_nil,Nat.zero_le _,Nat.le_refl _,lexT_ok h0⟩) ?_
 rintro ⟨v,acc,k⟩ w0 ⟨hE,hrow,hk,hak,hcomb⟩
 simp only at hE hrow hk hak hcomb
 show H _ _ _ _ (kAt (cAt Y29 (ro1 4 [0,0,0])) [] (.inv (LI 115 [] (rlexL l w) (v,acc,k)) :: (kEnd Y29 (ro1 4 [0,0]) []))) (stz [(0,sv l),(2,.slice none 0 0),(3,iv 0),(4,iv 0),(5,v),(6,iv (k:Int))]) w0
 refine Zq 8 ((k:Int) < (((l).length:Nat):Int)) (fun h1 => ?_) (fun h1 => ?_)
 ·have h1 : k < l.length := by omega
  refine Zs 9 [] [] trivial ?_
  refine ZLoop (rrunL l w0 v k) (k' := (kEnd (cAt Y29 (ro1 4 [0,0,0])) [1,0,1,0,0] (.inv (LI 115 [] (rlexL l w) (v,acc,k)) :: (kEnd Y29 (ro1 4 [0,0]) [])))) (body := (cAt (cAt Y29 (ro1 4 [0,0,0])) [1,0,1,0,0,0])) (by kernel_rfl) k [0,2,3,4,5,6,7] (by kernel_rfl) (⟨rfl,by omega,by omega,fun j hj hj2 => by omega⟩) ?_
  rintro i _ ⟨rfl,hi,hil,hp⟩
  refine Zi 11 [.gn 0,.gn 0,.p (fun _ => (decide ((i:Int) < (((l).length:Nat):Int))) = true → (0 ≤ (i:Int) ∧ (i:Int) < ((l).length : Int))),.y,.y,.y] [] trivial [decide ((i:Int) < (((l).length:Nat):Int))] (A1 (by intro h; (try simp only [decide_eq_true_eq] at h); first | done | omega)) ?_
  refine ZCond (fun w' => w0 = w') (.bool (partB (l.getD i 0))) (e := .call 66 [.int .u8 (((l.getD i 0).toNat:Nat):Int)]) (d := 25) (g := decide ((i:Int) < (((l).length:Nat):Int))) (k' := (kOp (cAt (cAt Y29 (ro1 4 [0,0,0])) [1,0,1,0,0,0]) [0,0] 9 (.inv (LI 115 [] (rrunL l w0 v k) i) :: (kEnd (cAt Y29 (ro1 4 [0,0,0])) [1,0,1,0,0] (.inv (LI 115 [] (rlexL l w) (v,acc,k)) :: (kEnd Y29 (ro1 4 [0,0]) [])))))) (ps := [(decide ((i:Int) < (((l).length:Nat):Int))) = true → (decide ((i:Int) < (((l).length:Nat):Int))) = true]) (by kernel_rfl) (A1 (fun h => h)) (rfl) (fun hg => runs_call E66 (rpart_any (l.getD i 0) w0)) ?_
  rintro _ rfl
  refine Zi 2 [.gn 0] [] trivial [decide ((i:Int) < (((l).length:Nat):Int))] trivial ?_
  refine Zr 0 _ (((i:Int) < (((l).length:Nat):Int)) ∧ ((partB (l.getD i 0)) = true)) ((iffAnd iffDec Iff.rfl)) (fun h2 => ?_) (fun h2 => ?_)
  ·refine Zs 8 [] [I64 ((i + 1:Nat):Int)] (A1 (i64 (by omega))) ?_
   exact ZA 0 (rrunL l w0 v k) i (i + 1) [0,2,3,4,5,6,7] (⟨rfl,by omega,by omega,fun j hj hj2 => by by_cases e : j = i; (subst e; exact h2.2); exact hp j hj (by omega)⟩) (show l.length - (i + 1) < l.length - i by omega)
  have hx := takeWhile_run (p := partB) hil hi hp (fun h => by by_cases hq : partB (l.getD i 0) = true; (exact absurd ⟨by omega,hq⟩ h2); simpa using hq)
  have hne := drop_ne h1
  have hhd := head_drop h1
  have hxl : (l.drop k).takeWhile partB = (l.take i).drop k := hx.symm
  refine Zi 30 [.p (fun _ => (0 ≤ (k:Int) ∧ (k:Int) ≤ (i:Int) ∧ (i:Int) ≤ ((l).length : Int))),.p (fun _ => (0 ≤ (k:Int) ∧ (k:Int) < ((l).length : Int))),.gn 0,.gn 0,.p (fun _ => (!(decide ((((l.getD k 0).toNat:Nat):Int) = (32 : Int)))) = true → (0 ≤ (k:Int) ∧ (k:Int) < ((l).length : Int))),.gn 0,.gn 0,.gn 1,.gn 1,.p (fun _ => (!((decide ((((l.getD k 0).toNat:Nat):Int) = (32 : Int))) || (decide ((((l.getD k 0).toNat:Nat):Int) = (9 : Int))))) = true → (0 ≤ (k:Int) ∧ (k:Int) < ((l).length : Int))),.gn 1,.gn 1,.y,.y,.y,.y,.y,.y,.y,.y] [] trivial [!(decide ((((l.getD k 0).toNat:Nat):Int) = (32 : Int))),!((decide ((((l.getD k 0).toNat:Nat):Int) = (32 : Int))) || (decide ((((l.getD k 0).toNat:Nat):Int) = (9 : Int))))] (AC (by omega) (AC (by omega) (AC (by intro h; (try simp only [Bool.not_eq_true',decide_eq_false_iff_not] at h); first | done | omega) (A1 (by intro h; (try simp only [Bool.not_eq_true',decide_eq_false_iff_not,Bool.or_eq_true] at h); first | done | omega))))) ?_
  refine Zw 0 8 (sv ((l.take i).drop k)) (sv ((l.drop k).takeWhile partB)) (by rw [hx]) ?_
  have hlen : ((l.drop k).takeWhile partB).length = i - k := by rw [hxl]; simp; omega
  obtain ⟨x,hxe⟩ : ∃ x,(l.drop k).takeWhile partB = x := ⟨_,rfl⟩
  refine Zw 0 8 (sv ((l.drop k).takeWhile partB)) (sv x) (by rw [hxe]) ?_
  rw [hxe] at hlen
  refine Zr 0 _ ((((((l.getD k 0).toNat:Nat):Int) = (32 : Int)) ∨ ((((l.getD k 0).toNat:Nat):Int) = (9 : Int))) ∨ ((((l.getD k 0).toNat:Nat):Int) = (10 : Int))) ((iffOr (iffOr iffDec iffDec) iffDec)) (fun h3 => ?_) (fun h3 => ?_)
  ·have hb : blankB (l.getD k 0) = true := by unfold blankB; simp only [Bool.or_eq_true,decide_eq_true_eq]; exact h3
   refine Zs 7 [] [I64 ((k + 1:Nat):Int)] (A1 (i64 (by omega))) ?_
   exact ZA 0 (rlexL l w) (v,acc,k) (v,acc,k + 1) [0,2,3,4,5,6] (⟨hE,hrow,by show k + 1 ≤ l.length; omega,by show (acc).length ≤ k + 1; omega,by show comb acc (lexR ((l.drop (k + 1)).length + 1) (l.drop (k + 1)) (k + 1)) = lexT l; rw [← hcomb]; congr 1; exact (lexR_at (by omega) (by omega) (by omega) (by rw [lexR_one h1 rfl,skipL_blank hb])).symm⟩) (show l.length - (k + 1) < l.length - k by omega)
  have hb : blankB (l.getD k 0) = false := by unfold blankB; simp only [Bool.or_eq_false_iff,decide_eq_false_iff_not]; simp only [not_or] at h3; exact h3
  refine Zs 8 [] [(0 ≤ (k:Int) ∧ (k:Int) < ((l).length : Int))] (A1 (by omega)) ?_
  refine Zq 0 ((((l.getD k 0).toNat:Nat):Int) = (35 : Int)) (fun h4 => ?_) (fun h4 => ?_)
  ·refine Zs 1 [] [] trivial ?_
   refine ZLoop (rcomL l w0 v k) (k' := (kEnd (cAt Y29 (ro1 4 [0,0,0])) [1,0,1,1,1,0,1,1,1,0,0] (.inv (LI 115 [] (rlexL l w) (v,acc,k)) :: (kEnd Y29 (ro1 4 [0,0]) [])))) (body := (cAt (cAt Y29 (ro1 4 [0,0,0])) [1,0,1,1,1,0,1,1,1,0,0,0])) (by kernel_rfl) k [0,2,3,4,5,6] (by kernel_rfl) (⟨rfl,by omega,by omega,fun m hj hj2 => by omega⟩) ?_
   rintro j _ ⟨rfl,hj,hjl,hnl⟩
   refine Zi 14 [.gn 0,.gn 0,.p (fun _ => (decide ((j:Int) < (((l).length:Nat):Int))) = true → (0 ≤ (j:Int) ∧ (j:Int) < ((l).length : Int))),.gn 0,.gn 0,.y,.y,.y,.y] [] trivial [decide ((j:Int) < (((l).length:Nat):Int))] (A1 (by intro h; (try simp only [decide_eq_true_eq] at h); first | done | omega)) ?_
   refine Zr 0 _ (((j:Int) < (((l).length:Nat):Int)) ∧ (¬ ((((l.getD j 0).toNat:Nat):Int) = (10 : Int)))) ((iffAnd iffDec (iffNot iffDec))) (fun h5 => ?_) (fun h5 => ?_)
   ·refine Zs 8 [] [I64 ((j + 1:Nat):Int)] (A1 (i64 (by omega))) ?_
    exact ZA 0 (rcomL l w0 v k) j (j + 1) [0,2,3,4,5,6] (⟨rfl,by omega,by omega,fun m hm hm2 => by by_cases e : m = j; (subst e; unfold notLineB; simp only [Bool.not_eq_true',decide_eq_false_iff_not]; exact h5.2); exact hnl m hm (by omega)⟩) (show l.length - (j + 1) < l.length - j by omega)
   have hjl2 : j < l.length → (l.getD j 0).toNat = 10 := fun h => by apply Classical.byContradiction; intro hq; exact h5 ⟨by omega,by omega⟩
   have hkj : k < j := by rcases Nat.lt_or_ge k j with h | h; (exact h); (have : j = k := by omega); subst this; have := hjl2 h1; omega
   have hw := takeWhile_run (p := notLineB) hjl hj hnl (fun h => by unfold notLineB; simp only [Bool.not_eq_false',decide_eq_true_eq]; have := hjl2 h; omega)
   have hr : (l.drop k).dropWhile notLineB = l.drop j := by rw [← drop_runLen,show runLen notLineB (l.drop k) = j - k by unfold runLen; rw [← hw]; simp; omega,List.drop_drop,show k + (j - k) = j by omega]
   exact ZA 3 (rlexL l w) (v,acc,k) (v,acc,j) [0,2,3,4,5,6] (⟨hE,hrow,by show j ≤ l.length; omega,by show (acc).length ≤ j; omega,by show comb acc (lexR ((l.drop j).length + 1) (l.drop j) j) = lexT l; rw [← hcomb]; congr 1; refine (lexR_at (by omega) (by omega) (by omega) ?_).symm; rw [← hr,lexR_one h1 rfl,skipL_hash (by omega)]⟩) (show l.length - j < l.length - k by omega)
  have hsk := skip_at h1 hb (by omega)
  refine Zs 8 [] [(0 ≤ (k:Int) ∧ (k:Int) < ((l).length : Int))] (A1 (by omega)) ?_
  refine Zq 0 ((((l.getD k 0).toNat:Nat):Int) = (59 : Int)) (fun h5 => ?_) (fun h5 => ?_)
  ·refine Z0 5 (.bslice 45 1 [(0,.agg #[iv 3,sv ([59]),iv 0,iv (k:Int)])]) (runs_bslice (cs := [iv 3,sv ([59]),iv 0,iv (k:Int)]) (e := 49) (by kernel_rfl)) ?_
   rintro _ w1 ⟨b1,rfl,hN2⟩
   have hd3 := ownsRow_apart hrow (Nat.le_of_eq hN2.lo.symm)
   have hl4 : w.heap.size ≤ b1 := by have := hE.le; have := hN2.lo; omega
   have hE5 := hE.trans hN2.ext
   have hr6 := ownsRow_ext hrow hN2.ext
   have ho7 := hN2.own
   refine Z0 0 (.builtin .append #[45,45] 45 #[false,false] [v,.slice (some ⟨b1,0,none⟩) 1 1]) (runs_app (e := 49) (size := 4) (bytes := 40) (by kernel_rfl) hr6 (m := 1) (news := [iv 3,sv ([59]),iv 0,iv (k:Int)]) ho7 rfl (by simp [Value.oneCell']) (by omega) (by omega) hE5.le) ?_
   rintro v1 w2 ⟨hr8,hg9⟩
   have hE10 := grown_ext hg9 hE5 hr6 (Nat.le_refl _)
   have ho11 := grown_heap hg9 ho7 hd3
   have hr8 : w2.ownsRow w.heap.size 49 4 v1 ((acc ++ [(⟨3,[59],0,(k:Int)⟩ : Tok)]).length) ((acc ++ [(⟨3,[59],0,(k:Int)⟩ : Tok)]).flatMap tokCells) := by simpa [tokCells] using hr8
   have hc := lexR_tok (i := k + 1) acc hsk (firstT_semi hne (by rw [hhd]; omega)) (by decide) rfl
   refine Zs 9 [] [I64 ((k + 1:Nat):Int)] (A1 (i64 (by omega))) ?_
   exact ZA 0 (rlexL l w) (v,acc,k) (v1,(acc ++ [(⟨3,[59],0,(k:Int)⟩ : Tok)]),k + 1) [0,2,3,4,5,6] (⟨hE10,hr8,by show k + 1 ≤ l.length; omega,by show ((acc ++ [(⟨3,[59],0,(k:Int)⟩ : Tok)])).length ≤ k + 1; rw [List.length_append,List.length_singleton]; omega,hc.symm.trans hcomb⟩) (show l.length - (k + 1) < l.length - k by omega)
  have hns : ((l.drop k).getD 0 0).toNat ≠ 59 := by rw [hhd]; omega
  refine Zl 3 E67 (rKeyword_any x w0) ?_
  rintro _ w1 ⟨rfl,hx1⟩
  have hE12 := hE.trans hx1
  have hr13 := ownsRow_ext hrow hx1
  refine Zs 2 [.sym] [] trivial ?_
  refine ZCond (fun w' => Ext w1 w') (.bool (nameB x)) (e := .call 68 [sv x]) (d := 87) (g := !(kwB x)) (k' := (kOp (cAt Y29 (ro1 4 [0,0,0])) [1,0,1,1,1,0,1,1,1,1,1,1,0] 5 (.inv (LI 115 [] (rlexL l w) (v,acc,k)) :: (kEnd Y29 (ro1 4 [0,0]) [])))) (ps := [(!(kwB x)) = true → (!(kwB x)) = true]) (by kernel_rfl) (A1 (fun h => h)) (Ext.refl w1) (fun hg => runs_call E68 (rName_any x w1 (by omega))) ?_
  rintro w2 hx2
  have hE14 := hE12.trans hx2
  have hr15 := ownsRow_ext hr13 hx2
  refine Zi 3 [.gn 0] [] trivial [!(kwB x)] trivial ?_
  refine Zr 0 _ (((kwB x) = true) ∨ ((nameB x) = true)) ((iffOr Iff.rfl Iff.rfl)) (fun h6 => ?_) (fun h6 => ?_)
  ·refine Z0 6 (.bslice 45 1 [(0,.agg #[iv 1,sv x,iv 0,iv (k:Int)])]) (runs_bslice (cs := [iv 1,sv x,iv 0,iv (k:Int)]) (e := 49) (by kernel_rfl)) ?_
   rintro _ w3 ⟨b1,rfl,hN16⟩
   have hd17 := ownsRow_apart hr15 (Nat.le_of_eq hN16.lo.symm)
   have hl18 : w.heap.size ≤ b1 := by have := hE14.le; have := hN16.lo; omega
   have hE19 := hE14.trans hN16.ext
   have hr20 := ownsRow_ext hr15 hN16.ext
   have ho21 := hN16.own
   refine Z0 0 (.builtin .append #[45,45] 45 #[false,false] [v,.slice (some ⟨b1,0,none⟩) 1 1]) (runs_app (e := 49) (size := 4) (bytes := 40) (by kernel_rfl) hr20 (m := 1) (news := [iv 1,sv x,iv 0,iv (k:Int)]) ho21 rfl (by simp [Value.oneCell']) (by omega) (by omega) hE19.le) ?_
   rintro v1 w4 ⟨hr22,hg23⟩
   have hE24 := grown_ext hg23 hE19 hr20 (Nat.le_refl _)
   have ho25 := grown_heap hg23 ho21 hd17
   have hr22 : w4.ownsRow w.heap.size 49 4 v1 ((acc ++ [(⟨1,x,0,(k:Int)⟩ : Tok)]).length) ((acc ++ [(⟨1,x,0,(k:Int)⟩ : Tok)]).flatMap tokCells) := by simpa [tokCells] using hr22
   have hft := firstT_word hne hns (by rw [hxe]; exact h6)
   rw [hxe] at hft
   have hxp := firstT_pos hne (by rw [hft])
   rw [hft] at hxp
   simp only at hxp
   have hc := lexR_tok (i := i) acc hsk hft (by simp) (show i = k + x.length by omega)
   exact ZA 8 (rlexL l w) (v,acc,k) (v1,(acc ++ [(⟨1,x,0,(k:Int)⟩ : Tok)]),i) [0,2,3,4,5,6] (⟨hE24,hr22,by show i ≤ l.length; omega,by show ((acc ++ [(⟨1,x,0,(k:Int)⟩ : Tok)])).length ≤ i; rw [List.length_append,List.length_singleton]; omega,hc.symm.trans hcomb⟩) (show l.length - i < l.length - k by omega)
  refine Zl 3 E69 (rNumber_any x w2) ?_
  rintro _ w3 ⟨rfl,hx3⟩
  have hE26 := hE14.trans hx3
  have hr27 := ownsRow_ext hr15 hx3
  refine Zq 3 ((0 : Int) ≤ numI x) (fun h7 => ?_) (fun h7 => ?_)
  ·refine Zl 5 E69 (rNumber_any x w3) ?_
   rintro _ w4 ⟨rfl,hx4⟩
   have hE28 := hE26.trans hx4
   have hr29 := ownsRow_ext hr27 hx4
   refine Z0 2 (.bslice 45 1 [(0,.agg #[iv 2,sv x,iv (numI x),iv (k:Int)])]) (runs_bslice (cs := [iv 2,sv x,iv (numI x),iv (k:Int)]) (e := 49) (by kernel_rfl)) ?_
   rintro _ w5 ⟨b1,rfl,hN30⟩
   have hd31 := ownsRow_apart hr29 (Nat.le_of_eq hN30.lo.symm)
   have hl32 : w.heap.size ≤ b1 := by have := hE28.le; have := hN30.lo; omega
   have hE33 := hE28.trans hN30.ext
   have hr34 := ownsRow_ext hr29 hN30.ext
   have ho35 := hN30.own
   refine Z0 0 (.builtin .append #[45,45] 45 #[false,false] [v,.slice (some ⟨b1,0,none⟩) 1 1]) (runs_app (e := 49) (size := 4) (bytes := 40) (by kernel_rfl) hr34 (m := 1) (news := [iv 2,sv x,iv (numI x),iv (k:Int)]) ho35 rfl (by simp [Value.oneCell']) (by omega) (by omega) hE33.le) ?_
   rintro v1 w6 ⟨hr36,hg37⟩
   have hE38 := grown_ext hg37 hE33 hr34 (Nat.le_refl _)
   have ho39 := grown_heap hg37 ho35 hd31
   have hr36 : w6.ownsRow w.heap.size 49 4 v1 ((acc ++ [(⟨2,x,numI x,(k:Int)⟩ : Tok)]).length) ((acc ++ [(⟨2,x,numI x,(k:Int)⟩ : Tok)]).flatMap tokCells) := by simpa [tokCells] using hr36
   have hft := firstT_num hne hns (by rw [hxe]; exact h7)
   rw [hxe] at hft
   have hxp := firstT_pos hne (by rw [hft])
   rw [hft] at hxp
   simp only at hxp
   have hc := lexR_tok (i := i) acc hsk hft (by simp) (show i = k + x.length by omega)
   exact ZA 8 (rlexL l w) (v,acc,k) (v1,(acc ++ [(⟨2,x,numI x,(k:Int)⟩ : Tok)]),i) [0,2,3,4,5,6] (⟨hE38,hr36,by show i ≤ l.length; omega,by show ((acc ++ [(⟨2,x,numI x,(k:Int)⟩ : Tok)])).length ≤ i; rw [List.length_append,List.length_singleton]; omega,hc.symm.trans hcomb⟩) (show l.length - i < l.length - k by omega)
  have hc := lexR_err acc hsk (firstT_none hne hns (by rw [hxe]; simpa using fun e => h6 (.inl e)) (by rw [hxe]; simpa using fun e => h6 (.inr e)) (by rw [hxe]; exact h7))
  rw [hcomb] at hc
  exact Z3 7 (.slice none 0 0) (iv 21) (iv (k:Int)) (⟨.slice none 0 0,by rw [hc],by rw [hc]; exact SlV.nil _,hE26⟩)
 have hc := lexR_stop acc (show k = l.length by omega)
 rw [hcomb] at hc
 refine Z0 7 (.bslice 45 1 [(0,.agg #[iv 4,sv ([]),iv 0,iv (((l).length:Nat):Int)])]) (runs_bslice (cs := [iv 4,sv ([]),iv 0,iv (((l).length:Nat):Int)]) (e := 49) (by kernel_rfl)) ?_
 rintro _ w1 ⟨b1,rfl,hN40⟩
 have hd41 := ownsRow_apart hrow (Nat.le_of_eq hN40.lo.symm)
 have hl42 : w.heap.size ≤ b1 := by have := hE.le; have := hN40.lo; omega
 have hE43 := hE.trans hN40.ext
 have hr44 := ownsRow_ext hrow hN40.ext
 have ho45 := hN40.own
 refine Z0 0 (.builtin .append #[45,45] 45 #[false,false] [v,.slice (some ⟨b1,0,none⟩) 1 1]) (runs_app (e := 49) (size := 4) (bytes := 40) (by kernel_rfl) hr44 (m := 1) (news := [iv 4,sv ([]),iv 0,iv (((l).length:Nat):Int)]) ho45 rfl (by simp [Value.oneCell']) (by omega) (by omega) hE43.le) ?_
 rintro v1 w2 ⟨hr46,hg47⟩
 have hE48 := grown_ext hg47 hE43 hr44 (Nat.le_refl _)
 have ho49 := grown_heap hg47 ho45 hd41
 have hr46 : w2.ownsRow w.heap.size 49 4 v1 ((acc ++ [(⟨4,[],0,(l.length:Int)⟩ : Tok)]).length) ((acc ++ [(⟨4,[],0,(l.length:Int)⟩ : Tok)]).flatMap tokCells) := by simpa [tokCells] using hr46
 exact Z3 4 v1 (iv 0) (iv 0) (⟨v1,by rw [hc],by rw [hc]; exact SlV.of_owns hr46,hE48⟩)

end Go.Proofs.YtjhgghpeapmgdaaGreatDoor
