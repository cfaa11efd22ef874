/-
  THE ENGINE: symbolic execution of a function's operations by kernel computation over a small symbolic state. It proves no statement by itself: its theorems say that what 'go' reckons is what the model runs.
-/
import Derived.WalkKit
import Derived.WalkSpells
import Derived.WalkLawsBesides
import Derived.KernelRfl
import Derived.Still
import Derived.Shelf.Abstract
namespace Go.Bk
open Go

def bs (l : List UInt8) : ByteArray := ⟨l.toArray⟩
theorem bs_size (l : List UInt8) : (bs l).size = l.length := by simp [bs,ByteArray.size]
theorem bs_inj {a b : List UInt8} (h : bs a = bs b) : a = b := by
 have := congrArg (fun s => s.data.toList) h
 simpa [bs] using this

abbrev St := List (Nat × Option Bool × Value)
def gval : Option Bool → Value → Value
 | none,v => v
 | some b,v => bif b then v else undef
def sget : St → Nat → Option (Option Bool × Value)
 | [],_ => none
 | (j,g,v) :: r,i => bif Nat.beq j i then some (g,v) else sget r i
def sput : St → Nat → Option Bool → Value → St
 | [],i,g,v => [(i,g,v)]
 | (j,h,u) :: r,i,g,v => bif Nat.beq j i then (i,g,v) :: r else (j,h,u) :: sput r i g v
def keepOnly : List Nat → St → St
 | [],_ => []
 | k :: ks,st => match sget st k with
  | some (g,v) => (k,g,v) :: keepOnly ks st
  | none => keepOnly ks st

structure Agree (n : Nat) (ds : List Deferred) (st : St) (a : Act) : Prop where
 size : a.tmps.size = n
 defers : a.defers = ds
 get : ∀ i g v,sget st i = some (g,v) → a.tmps[i]? = some (gval g v)

theorem beqT (i : Nat) : Nat.beq i i = true := Nat.beq_refl i
theorem beqF {i j : Nat} (h : i ≠ j) : Nat.beq i j = false := by
 cases e : Nat.beq i j with
 | false => rfl
 | true => exact absurd (Nat.eq_of_beq_eq_true e) h

theorem sget_sput (st : St) (i : Nat) (g : Option Bool) (v : Value) (j : Nat) :
  sget (sput st i g v) j = if i = j then some (g,v) else sget st j := by
 induction st with
 | nil =>
  simp only [sput,sget]
  by_cases h : i = j
  ·subst h; simp
  ·simp [beqF h,h]
 | cons p r ih =>
  obtain ⟨k,g',u⟩ := p
  simp only [sput]
  by_cases hk : k = i
  ·subst hk
   simp only [beqT,cond_true,sget]
   by_cases h : k = j
   ·subst h; simp
   ·simp [beqF h,h]
  ·simp only [beqF hk,cond_false,sget]
   by_cases h : k = j
   ·subst h
    simp [Ne.symm hk]
   ·simp only [beqF h,cond_false]
    exact ih

theorem sget_keep (st : St) (i : Nat) (r : Option Bool × Value) : ∀ (ks : List Nat),sget (keepOnly ks st) i = some r → sget st i = some r
 | [],h => by cases h
 | k :: ks,h => by
  simp only [keepOnly] at h
  split at h
  ·rename_i g v hk
   simp only [sget] at h
   by_cases e : k = i
   ·subst e
    simp only [beqT,cond_true,Option.some.injEq] at h
    rw [hk,h]
   ·simp only [beqF e,cond_false] at h
    exact sget_keep st i r ks h
  ·exact sget_keep st i r ks h
theorem Agree.keep {n : Nat} {ds : List Deferred} {st : St} {a : Act} (h : Agree n ds st a) (ks : List Nat) : Agree n ds (keepOnly ks st) a :=
 ⟨h.size,h.defers,fun i g v hg => h.get i g v (sget_keep st i _ ks hg)⟩

theorem Agree.put {n : Nat} {ds : List Deferred} {st : St} {a : Act} (h : Agree n ds st a) {i : Nat} (hi : i < n) (g : Option Bool) (v : Value) :
  Agree n ds (sput st i g v) (a.put (some i) (gval g v)) := by
 refine ⟨by simp [Act.put,h.size],by simp [Act.put,h.defers],fun j g' v' hj => ?_⟩
 rw [sget_sput] at hj
 simp only [Act.put]
 by_cases e : i = j
 ·subst e
  simp only [ite_true,Option.some.injEq,Prod.mk.injEq] at hj
  obtain ⟨rfl,rfl⟩ := hj
  have : i < a.tmps.size := by rw [h.size]; exact hi
  simp [this]
 ·rw [if_neg e] at hj
  rw [Array.getElem?_setIfInBounds_ne e]
  exact h.get j g' v' hj

structure Tab where
 und : Nat → Option TypeDesc
 siz : Nat → Option Nat
 zero : Nat → Option Value
 eqs : Nat → Bool
structure Tab.Ok (P : Program) (T : Tab) : Prop where
 und : ∀ t d,T.und t = some d → P.underlying t = some d
 siz : ∀ t s,T.siz t = some s → (P.info? t).map (·.size) = some s
 zero : ∀ t v,T.zero t = some v → (P.info? t).bind (·.zero) = some v
 eqs : ∀ t,T.eqs t = true → P.stoodInHeld t = false ∧ P.eqGuardType P.depth t = false
def tabOf (P : Program) : Tab := ⟨fun t => P.underlying t,fun t => (P.info? t).map (·.size),fun t => (P.info? t).bind (·.zero),fun t => !P.stoodInHeld t && !P.eqGuardType P.depth t⟩
theorem tabOk (P : Program) : Tab.Ok P (tabOf P) := ⟨fun _ _ h => h,fun _ _ h => h,fun _ _ h => h,fun t h => by simpa [tabOf] using h⟩

def inK (k : IntKind) (z : Int) : Prop :=
 match k with
 | .i8 => -128 ≤ z ∧ z ≤ 127
 | .i16 => -32768 ≤ z ∧ z ≤ 32767
 | .i32 => -2147483648 ≤ z ∧ z ≤ 2147483647
 | .i64 => -9223372036854775808 ≤ z ∧ z ≤ 9223372036854775807
 | .u8 => 0 ≤ z ∧ z ≤ 255
 | .u16 => 0 ≤ z ∧ z ≤ 65535
 | .u32 => 0 ≤ z ∧ z ≤ 4294967295
 | .u64 => 0 ≤ z ∧ z ≤ 18446744073709551615
theorem wrap_inK {k : IntKind} {z : Int} (h : inK k z) : k.wrap z = z := by
 cases k <;> simp only [inK] at h <;> simp only [IntKind.wrap,IntKind.signed,IntKind.bits] <;> simp <;> omega


inductive Hint where
 | exec | skip | sym
 | ld (v : Value)

def need : Option Bool → List Prop
 | none => []
 | some b => [b = true]
def under : Option Bool → List Prop → List Prop
 | none,ps => ps
 | some b,ps => ps.map fun p => b = true → p
def All : List Prop → Prop
 | [] => True
 | [p] => p
 | p :: q :: r => p ∧ All (q :: r)
theorem A1 {p : Prop} (h : p) : All [p] := h
theorem AC {p q : Prop} {r : List Prop} (h : p) (t : All (q :: r)) : All (p :: q :: r) := ⟨h,t⟩
def I64 (z : Int) : Prop := -9223372036854775808 ≤ z ∧ z ≤ 9223372036854775807
theorem i64 {z : Int} (h : -9223372036854775808 ≤ z ∧ z ≤ 9223372036854775807) : I64 z := h
abbrev pt (b o : Nat) : Value := .pointer (some ⟨b,o,none⟩)
abbrev iv (z : Int) : Value := .int .i64 z
abbrev sv (l : List UInt8) : Value := .string (bs l)
def ro1 : Nat → List Nat → List Nat
 | 0,l => l
 | n + 1,l => 1 :: ro1 n l
theorem All.mem {ps : List Prop} (h : All ps) : ∀ p,p ∈ ps → p := by
 induction ps with
 | nil => intro p hp; cases hp
 | cons p r ih =>
  cases r with
  | nil => intro q hq; cases List.mem_singleton.1 hq; exact h
  | cons q r =>
   obtain ⟨h1,h2⟩ := h
   intro x hx
   cases List.mem_cons.1 hx with
   | inl e => subst e; exact h1
   | inr e => exact ih h2 x e
theorem All.left {ps qs : List Prop} (h : ∀ p,p ∈ ps ++ qs → p) : ∀ p,p ∈ ps → p := fun p hp => h p (List.mem_append.2 (.inl hp))
theorem All.right {ps qs : List Prop} (h : ∀ p,p ∈ ps ++ qs → p) : ∀ p,p ∈ qs → p := fun p hp => h p (List.mem_append.2 (.inr hp))

def opnd (st : St) : Operand → Option (Value × List Prop)
 | .tmp t => match sget st t with
  | some (h,v) => some (v,need h)
  | none => none
 | .const v => some (v,[])
 | .global k => some (.pointer (some ⟨k,0,none⟩),[])
 | .func f => some (.func (.func f) #[] #[],[])

def GOn : Option Bool → Prop
 | none => True
 | some b => b = true

theorem need_on {h : Option Bool} (hi : ∀ p,p ∈ need h → p) : GOn h := by
 cases h with
 | none => trivial
 | some b => exact hi (b = true) (by simp [need])

theorem under_on {g : Option Bool} (hg : GOn g) {ps : List Prop} (h : ∀ p,p ∈ under g ps → p) : ∀ p,p ∈ ps → p := by
 cases g with
 | none => exact h
 | some b =>
  intro p hp
  exact h (b = true → p) (by simp only [under]; exact List.mem_map.2 ⟨p,hp,rfl⟩) hg

theorem gval_on {g : Option Bool} (hg : GOn g) (v : Value) : gval g v = v := by
 cases g with
 | none => rfl
 | some b => simp only [GOn] at hg; subst hg; rfl

theorem opnd_sound {n : Nat} {ds : List Deferred} {st : St} {a : Act} (h : Agree n ds st a) {x : Operand} {v : Value} {ps : List Prop}
  (ho : opnd st x = some (v,ps)) (hp : ∀ p,p ∈ ps → p) : a.eval x = v := by
 cases x with
 | tmp t =>
  simp only [opnd] at ho
  split at ho
  ·rename_i h' u hs
   simp only [Option.some.injEq,Prod.mk.injEq] at ho
   obtain ⟨rfl,rfl⟩ := ho
   have := h.get t h' u hs
   rw [gval_on (need_on hp)] at this
   simp [Act.eval,Array.getD_eq_getD_getElem?,this]
  ·cases ho
 | const c => simp only [opnd,Option.some.injEq,Prod.mk.injEq] at ho; exact ho.1
 | global k => simp only [opnd,Option.some.injEq,Prod.mk.injEq] at ho; exact ho.1
 | func f => simp only [opnd,Option.some.injEq,Prod.mk.injEq] at ho; exact ho.1

def sameKind (k k' : IntKind) : Bool := decide (k = k')

def band (k : IntKind) (x y : Int) : Int := k.wrap ((BitVec.ofInt k.bits x &&& BitVec.ofInt k.bits y).toNat)
def bor (k : IntKind) (x y : Int) : Int := k.wrap ((BitVec.ofInt k.bits x ||| BitVec.ofInt k.bits y).toNat)
def evInt (op : BinOp) (k : IntKind) (x y : Int) : Option (Value × List Prop) :=
 match op with
 | .add => some (.int k (x + y),[inK k (x + y)])
 | .sub => some (.int k (x - y),[inK k (x - y)])
 | .mul => some (.int k (x * y),[inK k (x * y)])
 | .quo => some (.int k (x / y),[0 ≤ x ∧ 0 < y ∧ inK k (x / y)])
 | .rem => some (.int k (x % y),[0 ≤ x ∧ 0 < y])
 | .eql => some (.bool (decide (x = y)),[])
 | .neq => some (.bool (!decide (x = y)),[])
 | .lss => some (.bool (decide (x < y)),[])
 | .leq => some (.bool (decide (x ≤ y)),[])
 | .gtr => some (.bool (decide (y < x)),[])
 | .geq => some (.bool (decide (y ≤ x)),[])
 | .and => some (.int k (band k x y),[])
 | .or => some (.int k (bor k x y),[])
 | _ => none

def strOf (s : ByteArray) : List UInt8 := s.data.toList

def evStr (op : BinOp) (x y : List UInt8) : Option (Value × List Prop) :=
 match op with
 | .add => some (.string (bs (x ++ y)),[x.length + y.length ≤ 9223372036854775807])
 | .eql => some (.bool (decide (x = y)),[])
 | .neq => some (.bool (!decide (x = y)),[])
 | _ => none

def isConst : Operand → Bool
 | .const _ => true
 | _ => false

def evEq (T : Tab) (t : TypeId) (cst : Bool) (x y : Value) : Option Bool :=
 match T.und t,x,y with
 | some .bool,.bool a,.bool b => some (a == b)
 | some (.interface _),.nilIface,.nilIface => bif cst then some true else none
 | some (.interface _),.iface _ _,.nilIface => some false
 | some (.pointer _),.pointer none,.pointer none => some true
 | some (.pointer _),.pointer (some _),.pointer none => some false
 | some (.func _ _ _),.nilFunc,.nilFunc => some true
 | some (.func _ _ _),.func _ _ _,.nilFunc => some false
 | some (.slice _),.slice none _ _,.slice none _ _ => some true
 | some (.slice _),.slice (some _) _ _,.slice none _ _ => some false
 | _,_,_ => none

def aggT : TypeDesc → Bool
 | .struct _ | .array _ _ => true
 | _ => false

def evPart (T : Tab) (t : TypeId) (cs : Array Value) (off : Nat) : Option Value :=
 match T.und t with
 | some d => bif aggT d then (match T.siz t with | some s => some (.agg (cs.extract off (off + s))) | none => none) else cs[off]?
 | none => none

def andR : List Field → Bool → Bool → Bool
 | [],a,_ => a
 | _ :: _,a,c => a && c
def evEqF (T : Tab) (xs ys : Array Value) : List Field → Option Bool
 | [] => some true
 | f :: r =>
  bif decide (f.name = "_") then none else
  match evPart T f.type xs f.offset,evPart T f.type ys f.offset,T.und f.type with
  | some (.int k a),some (.int k' b),some (.int _) => bif sameKind k k' then (match evEqF T xs ys r with
   | some c => some (andR r (decide (a = b)) c)
   | none => none) else none
  | some (.string a),some (.string b),some .string => match evEqF T xs ys r with
   | some c => some (andR r (decide (strOf a = strOf b)) c)
   | none => none
  | some (.bool a),some (.bool b),some .bool => match evEqF T xs ys r with
   | some c => some (andR r (a == b) c)
   | none => none
  | _,_,_ => none
def evEqS (T : Tab) (t : TypeId) (xs ys : Array Value) : Option Bool :=
 bif T.eqs t then (match T.und t with
  | some (.struct fs) => evEqF T xs ys fs.toList
  | _ => none) else none

def evBin (T : Tab) (op : BinOp) (t : TypeId) (cst : Bool) (x y : Value) : Option (Value × List Prop) :=
 match x,y with
 | .int k a,.int k' b =>
  match op with
  | .shl => some (.int k (a * 2 ^ b.toNat),[0 ≤ b ∧ b.toNat ≤ k.bits ∧ inK k (a * 2 ^ b.toNat)])
  | .shr => some (.int k (a / 2 ^ b.toNat),[0 ≤ b ∧ b.toNat ≤ k.bits])
  | _ => bif sameKind k k' then evInt op k a b else none
 | .string a,.string b => evStr op (strOf a) (strOf b)
 | .agg xs,.agg ys => match op with
  | .eql => match evEqS T t xs ys with
   | some r => some (.bool r,[])
   | none => none
  | .neq => match evEqS T t xs ys with
   | some r => some (.bool (!r),[])
   | none => none
  | _ => none
 | .pointer (some a),.pointer (some b) =>
  match T.und t with
  | some (.pointer te) => match T.siz te with
   | some _ => match op with
    | .eql => some (.bool true,[a = b])
    | .neq => some (.bool false,[a = b])
    | _ => none
   | none => none
  | _ => none
 | x,y =>
  match op with
  | .eql => match evEq T t cst x y with
   | some r => some (.bool r,[])
   | none => none
  | .neq => match evEq T t cst x y with
   | some r => some (.bool (!r),[])
   | none => none
  | _ => none

def evUn (op : UnOp) (x : Value) : Option (Value × List Prop) :=
 match op,x with
 | .not,.bool b => some (.bool (!b),[])
 | .neg,.int k n => some (.int k (-n),[inK k (-n)])
 | _,_ => none

def evConv (T : Tab) (src dst : TypeId) (x : Value) : Option (Value × List Prop) :=
 match T.und src,T.und dst,x with
 | some _,some (.int k),.int _ n => some (.int k n,[inK k n])
 | some .string,some .string,.string s => some (.string s,[])
 | _,_,_ => none

def evIndex (T : Tab) (t : TypeId) (x i : Value) : Option (Value × List Prop) :=
 match T.und t,x,i with
 | some .string,.string s,.int _ z => some (.int .u8 (((strOf s).getD z.toNat 0).toNat : Int),[0 ≤ z ∧ z < ((strOf s).length : Int)])
 | _,_,_ => none

def evSlice (T : Tab) (t : TypeId) (x : Value) (lo hi : Option Value) : Option (Value × List Prop) :=
 match T.und t,x,lo,hi with
 | some .string,.string s,none,none => some (.string s,[])
 | some .string,.string s,some (.int _ l),none => some (.string (bs ((strOf s).drop l.toNat)),[0 ≤ l ∧ l ≤ ((strOf s).length : Int)])
 | some .string,.string s,none,some (.int _ h) => some (.string (bs ((strOf s).take h.toNat)),[0 ≤ h ∧ h ≤ ((strOf s).length : Int)])
 | some .string,.string s,some (.int _ l),some (.int _ h) => some (.string (bs (((strOf s).take h.toNat).drop l.toNat)),[0 ≤ l ∧ l ≤ h ∧ h ≤ ((strOf s).length : Int)])
 | _,_,_,_ => none

def evLen (T : Tab) (t : TypeId) (x : Value) : Option (Value × List Prop) :=
 match T.und t,x with
 | some .string,.string s => some (.int .i64 ((strOf s).length : Int),[])
 | some (.slice _),.slice _ n _ => some (.int .i64 (n : Int),[])
 | some (.array n _),_ => some (.int .i64 (n : Int),[])
 | _,_ => none

def evMinMax (max : Bool) (x y : Value) : Option (Value × List Prop) :=
 match x,y with
 | .int k a,.int _ b => some (.int k (bif max then Max.max a b else Min.min a b),[])
 | _,_ => none

def evField (T : Tab) (t : TypeId) (x : Value) (f : Nat) : Option (Value × List Prop) :=
 match T.und t,x with
 | some (.struct fs),.agg cs => match fs[f]? with
  | some fd => match evPart T fd.type cs fd.offset with
   | some v => some (v,[])
   | none => none
  | none => none
 | _,_ => none

def evFieldAddr (T : Tab) (t : TypeId) (x : Value) (f : Nat) : Option (Value × List Prop) :=
 match T.und t,x with
 | some (.struct fs),.pointer (some ⟨b,o,none⟩) => match fs[f]? with
  | some fd => match T.siz fd.type with
   | some (_ + 1) => some (.pointer (some ⟨b,o + fd.offset,none⟩),[])
   | _ => none
  | none => none
 | _,_ => none

def slB : Option Addr → Nat
 | some a => a.block
 | none => 0
def slO : Option Addr → Nat
 | some a => a.off
 | none => 0

def evIndexAddr (T : Tab) (t : TypeId) (x i : Value) : Option (Value × List Prop) :=
 match T.und t,x,i with
 | some (.slice e),.slice a n _,.int _ z => match T.siz e with
  | some s => some (.pointer (some ⟨slB a,slO a + z.toNat * s,none⟩),[0 ≤ z ∧ z < (n : Int),a = some ⟨slB a,slO a,none⟩])
  | none => none
 | some (.array n e),.pointer (some ⟨b,o,none⟩),.int _ z => match T.siz e with
  | some s => some (.pointer (some ⟨b,o + z.toNat * s,none⟩),[0 ≤ z ∧ z < (n : Int)])
  | none => none
 | _,_,_ => none

def cellConds (w : World) (b : Nat) : Nat → List Value → List Prop
 | _,[] => []
 | o,v :: r => (w.cell? ⟨b,o,none⟩ = some v) :: cellConds w b (o + 1) r

def evLoad (T : Tab) (w : World) (t : TypeId) (x v : Value) : Option (Value × List Prop) :=
 match T.und t,x with
 | some d,.pointer (some ⟨b,o,none⟩) =>
  bif aggT d then
   (match v,T.siz t with
   | .agg cs,some s => bif Nat.beq cs.toList.length s then some (v,cellConds w b o cs.toList) else none
   | _,_ => none)
  else some (v,[w.cell? ⟨b,o,none⟩ = some v])
 | _,_ => none

def evBuild (T : Tab) (t : TypeId) (parts : List (Nat × Value)) : Option (Value × List Prop) :=
 match T.und t,T.zero t with
 | some (.struct fs),some z =>
  match fs.toList.mapM (fun f => (T.siz f.type).map fun s => (f.offset,s)) with
  | some places => match Instr.fill (places.toArray[·]?) z.cells parts with
   | some cells => some (.agg cells,[])
   | none => none
  | none => none
 | some (.array _ e),some z =>
  match T.siz e with
  | some s => match Instr.fill (fun i => some (i * s,s)) z.cells parts with
   | some cells => some (.agg cells,[])
   | none => none
  | none => none
 | _,_ => none


def gand : Option Bool → Bool → Option Bool
 | none,b => some b
 | some x,b => some (x && b)

def with1 (a : Option (Value × List Prop)) (f : Value → Option (Value × List Prop)) : Option (Value × List Prop) :=
 match a with
 | some (v,p) => match f v with
  | some (r,q) => some (r,p ++ q)
  | none => none
 | none => none
def with2 (a b : Option (Value × List Prop)) (f : Value → Value → Option (Value × List Prop)) : Option (Value × List Prop) :=
 match a,b with
 | some (v,p),some (u,q) => match f v u with
  | some (r,s) => some (r,p ++ (q ++ s))
  | none => none
 | _,_ => none

def evParts (st : St) : List (Nat × Operand) → Option (List (Nat × Value) × List Prop)
 | [] => some ([],[])
 | (i,x) :: r => match opnd st x,evParts st r with
  | some (v,p),some (vs,q) => some ((i,v) :: vs,p ++ q)
  | _,_ => none
def evArgs (st : St) : List Operand → Option (List Value × List Prop)
 | [] => some ([],[])
 | x :: r => match opnd st x,evArgs st r with
  | some (v,p),some (vs,q) => some (v :: vs,p ++ q)
  | _,_ => none

def evExtract (x : Value) (i : Nat) : Option (Value × List Prop) :=
 match x with
 | .tuple vs => match vs[i]? with
  | some v => some (v,[])
  | none => none
 | _ => none

def evIface (T : Tab) (t : TypeId) (x : Value) : Option (Value × List Prop) :=
 match T.und t with
 | some (.interface _) => none
 | some _ => some (.iface t x,[])
 | none => none

def evNil (x : Value) : Option (Value × List Prop) :=
 match x with
 | .pointer (some a) => some (.pointer (some a),[])
 | .func (.func f) a b => some (.func (.func f) a b,[])
 | _ => none

def evOp (T : Tab) (w : World) (st : St) (h : Option Value) : Op → Option (Value × List Prop)
 | .move x | .assign x => opnd st x
 | .pick c (.const (.bool true)) b => match opnd st c with
  | some (.bool cb,p) => match opnd st b with
   | some (.bool y,q) => some (.bool (cb || y),p ++ under (some (!cb)) q)
   | some _ => some (.bool true,p ++ [cb = true])
   | none => none
  | _ => none
 | .pick c a (.const (.bool false)) => match opnd st c with
  | some (.bool cb,p) => match opnd st a with
   | some (.bool x,q) => some (.bool (cb && x),p ++ under (some cb) q)
   | some _ => some (.bool false,p ++ [cb = false])
   | none => none
  | _ => none
 | .binOp op t x y _ => with2 (opnd st x) (opnd st y) (evBin T op t (isConst y))
 | .unOp op _ x => with1 (opnd st x) (evUn op)
 | .convert s d x => with1 (opnd st x) (evConv T s d)
 | .index t x i => with2 (opnd st x) (opnd st i) (evIndex T t)
 | .slice t x none none none => with1 (opnd st x) fun v => evSlice T t v none none
 | .slice t x (some l) none none => with2 (opnd st x) (opnd st l) fun v l => evSlice T t v (some l) none
 | .slice t x none (some h) none => with2 (opnd st x) (opnd st h) fun v h => evSlice T t v none (some h)
 | .slice t x (some l) (some h) none => with2 (opnd st x) (opnd st l) fun v l => with1 (opnd st h) fun h => evSlice T t v (some l) (some h)
 | .field t x f => with1 (opnd st x) fun v => evField T t v f
 | .fieldAddr t x f => with1 (opnd st x) fun v => evFieldAddr T t v f
 | .indexAddr t x i => with2 (opnd st x) (opnd st i) (evIndexAddr T t)
 | .load t x => match h with
  | some v => with1 (opnd st x) fun a => evLoad T w t a v
  | none => none
 | .extract x i => with1 (opnd st x) fun v => evExtract v i
 | .makeInterface t x => with1 (opnd st x) (evIface T t)
 | .makeFunc fn first captured => match evArgs st first.toList,evArgs st captured.toList with
  | some (a,p),some (b,q) => some (.func fn a.toArray b.toArray,p ++ q)
  | _,_ => none
 | .nilCheck x => with1 (opnd st x) evNil
 | .build t parts => match evParts st parts.toList with
  | some (vs,p) => match evBuild T t vs with
   | some (v,q) => some (v,p ++ q)
   | none => none
  | none => none
 | .call { callee := .builtin .len,args,argTypes } => match args.toList,argTypes.toList with
  | [x],[t] => with1 (opnd st x) (evLen T t)
  | _,_ => none
 | .call { callee := .builtin .min,args,argTypes := _ } => match args.toList with
  | [x,y] => with2 (opnd st x) (opnd st y) (evMinMax false)
  | _ => none
 | .call { callee := .builtin .max,args,argTypes := _ } => match args.toList with
  | [x,y] => with2 (opnd st x) (opnd st y) (evMinMax true)
  | _ => none
 | _ => none

section sound
variable {P : Program} {T : Tab}

theorem with1_some {a : Option (Value × List Prop)} {f : Value → Option (Value × List Prop)} {r : Value} {ps : List Prop} (h : with1 a f = some (r,ps)) :
  ∃ v p q,a = some (v,p) ∧ f v = some (r,q) ∧ ps = p ++ q := by
 unfold with1 at h
 split at h
 ·rename_i v p
  split at h
  ·rename_i r' q hf
   simp only [Option.some.injEq,Prod.mk.injEq] at h
   obtain ⟨rfl,rfl⟩ := h
   exact ⟨v,p,q,rfl,hf,rfl⟩
  ·cases h
 ·cases h
theorem with2_some {a b : Option (Value × List Prop)} {f : Value → Value → Option (Value × List Prop)} {r : Value} {ps : List Prop} (h : with2 a b f = some (r,ps)) :
  ∃ v p u q s,a = some (v,p) ∧ b = some (u,q) ∧ f v u = some (r,s) ∧ ps = p ++ (q ++ s) := by
 unfold with2 at h
 split at h
 ·rename_i v p u q
  split at h
  ·rename_i r' s hf
   simp only [Option.some.injEq,Prod.mk.injEq] at h
   obtain ⟨rfl,rfl⟩ := h
   exact ⟨v,p,u,q,s,rfl,rfl,hf,rfl⟩
  ·cases h
 ·cases h

theorem run_pure' {α : Type} (x : α) (w : World) : (pure x : Sem α).run P w = .ok x w := rfl

theorem beq_dec {α : Type} [BEq α] [LawfulBEq α] [DecidableEq α] (x y : α) : (x == y) = decide (x = y) := by rw [Bool.eq_iff_iff]; simp
theorem evInt_sound {op : BinOp} {k : IntKind} {x y : Int} {v : Value} {ps : List Prop} (h : evInt op k x y = some (v,ps)) (hp : ∀ p,p ∈ ps → p) (t : TypeId) (w : World) :
  (binOp op t (.int k x) (.int k y)).run P w = .ok v w := by
 cases op <;> simp only [evInt,Option.some.injEq,Prod.mk.injEq,reduceCtorEq] at h <;> obtain ⟨rfl,rfl⟩ := h
 case add => simp only [List.mem_singleton,forall_eq] at hp; simp [binOp,Op.intArith,wrap_inK hp]
 case sub => simp only [List.mem_singleton,forall_eq] at hp; simp [binOp,Op.intArith,wrap_inK hp]
 case mul => simp only [List.mem_singleton,forall_eq] at hp; simp [binOp,Op.intArith,wrap_inK hp]
 case quo =>
  simp only [List.mem_singleton,forall_eq] at hp
  obtain ⟨h1,h2,h3⟩ := hp
  have e : x.tdiv y = x / y := Int.tdiv_eq_ediv_of_nonneg h1
  have h0 : ¬ y = 0 := by omega
  simp only [binOp,ne_eq,not_true_eq_false,if_false,Op.intDiv,h0,e,wrap_inK h3,Sem.run_pure]
 case rem =>
  simp only [List.mem_singleton,forall_eq] at hp
  obtain ⟨h1,h2⟩ := hp
  have e : x.tmod y = x % y := Int.tmod_eq_emod_of_nonneg h1
  have h0 : ¬ y = 0 := by omega
  simp [binOp,Op.intDiv,e,h0]
 case eql => simp only [binOp,ne_eq,not_true_eq_false,if_false,Op.intCmp]; rw [beq_dec]; rfl
 case neq => simp only [binOp,ne_eq,not_true_eq_false,if_false,Op.intCmp,bne]; rw [beq_dec]; rfl
 case lss => simp [binOp,Op.intCmp]
 case leq => simp [binOp,Op.intCmp]
 case gtr => simp [binOp,Op.intCmp]
 case geq => simp [binOp,Op.intCmp]
 case and => simp [binOp,Op.intBits,band]
 case or => simp [binOp,Op.intBits,bor]

theorem bs_strOf (s : ByteArray) : bs (strOf s) = s := rfl
theorem size_strOf (s : ByteArray) : s.size = (strOf s).length := by
 show s.data.size = _
 rw [strOf,Array.length_toList]
theorem append_strOf (a b : ByteArray) : a ++ b = bs (strOf a ++ strOf b) := by
 apply ByteArray.ext
 simp [bs,strOf,ByteArray.data_append]

theorem evStr_sound {op : BinOp} {x y : ByteArray} {v : Value} {ps : List Prop} (h : evStr op (strOf x) (strOf y) = some (v,ps)) (hp : ∀ p,p ∈ ps → p) (t : TypeId) (w : World) :
  (binOp op t (.string x) (.string y)).run P w = .ok v w := by
 cases op <;> simp only [evStr,Option.some.injEq,Prod.mk.injEq,reduceCtorEq] at h <;> obtain ⟨rfl,rfl⟩ := h
 case add =>
  simp only [List.mem_singleton,forall_eq] at hp
  have hn : ¬ (((x.size + y.size : Nat) : Int) > IntKind.i64.max) := by
   rw [size_strOf,size_strOf]
   have : IntKind.i64.max = 9223372036854775807 := by decide
   rw [this]; omega
  simp only [binOp,Op.stringOp,if_neg hn,append_strOf]
  rfl
 case eql =>
  simp only [binOp,Op.stringOp,Sem.run_pure]
  rw [beq_dec,ByteArray.toList_eq,ByteArray.toList_eq]; rfl
 case neq =>
  simp only [binOp,Op.stringOp,Sem.run_pure]
  rw [beq_dec,ByteArray.toList_eq,ByteArray.toList_eq]; rfl

theorem run_und (hT : T.Ok P) {t : TypeId} {d : TypeDesc} (h : T.und t = some d) (w : World) : (underlying t).run P w = .ok d w := run_underlying (hT.und t d h) w

theorem run_siz (hT : T.Ok P) {t : TypeId} {s : Nat} (h : T.siz t = some s) (w : World) : (sizeOf t).run P w = .ok s w := by
 have := hT.siz t s h
 cases hi : P.info? t with
 | none => rw [hi] at this; cases this
 | some i =>
  rw [hi] at this
  simp only [Option.map_some,Option.some.injEq] at this
  subst this
  simp [sizeOf,typeInfo,program,hi,Sem.run]

theorem run_zer (hT : T.Ok P) {t : TypeId} {z : Value} (h : T.zero t = some z) (w : World) : (zeroValue t).run P w = .ok z w := by
 have := hT.zero t z h
 cases hi : P.info? t with
 | none => rw [hi] at this; cases this
 | some i =>
  rw [hi] at this
  simp only [Option.bind_some] at this
  simp [zeroValue,typeInfo,program,hi,this,Sem.run]

theorem run_agg (hT : T.Ok P) {t : TypeId} {d : TypeDesc} (h : T.und t = some d) (w : World) : (isAgg t).run P w = .ok (aggT d) w := by
 cases d <;> simp [isAgg,run_und hT h,aggT]

theorem evEq_sound (hT : T.Ok P) {t : TypeId} {cst : Bool} {x y : Value} {r : Bool} (h : evEq T t cst x y = some r) (w : World) :
  (Op.equal t x y).run P w = .ok r w := by
 unfold evEq at h
 split at h
 all_goals first
  | (rename_i hu; simp only [Option.some.injEq] at h; subst h; unfold Op.equal Op.maxDepth; rw [show 10000 = 9999 + 1 from rfl,Op.equalIn]; simp [run_und hT hu]; done)
  | (rename_i hu; cases cst <;> simp only [cond_true,cond_false,Option.some.injEq,reduceCtorEq] at h; subst h; unfold Op.equal Op.maxDepth; rw [show 10000 = 9999 + 1 from rfl,Op.equalIn]; simp [run_und hT hu]; done)
  | cases h

theorem run_bindOk {α β : Type} {x : Sem α} {f : α → Sem β} {w w' : World} {a : α} (h : x.run P w = .ok a w') : (x >>= f).run P w = (f a).run P w' := by
 rw [Sem.run_bind,h]; rfl

theorem eqGuard_ok {op : BinOp} {t : TypeId} {xo yo : Operand} {x y : Value} (h1 : ∀ a b,x = .agg a → y = .agg b → False) (h2 : x = .nilIface → y = .nilIface → isConst yo = true) (w : World) :
  (eqGuard op t xo yo x y).run P w = .ok () w := by
 have core : ∀ op',(op' = .eql ∨ op' = .neq) → (eqGuard op' t xo yo x y).run P w = .ok () w := by
  intro op' ho
  have e : eqGuard op' t xo yo x y = eqGuard .eql t xo yo x y := by rcases ho with rfl | rfl <;> rfl
  rw [e]
  unfold eqGuard
  simp only [Bool.not_true,Bool.false_eq_true,if_false]
  cases x <;> cases y <;> first | rfl | skip
  ·have hc := h2 rfl rfl
   cases yo <;> simp [isConst] at hc ⊢
  ·exact (h1 _ _ rfl rfl).elim
 by_cases ho : op = .eql ∨ op = .neq
 ·exact core op ho
 ·cases op <;> first | rfl | exact (ho (.inl rfl)).elim | exact (ho (.inr rfl)).elim

theorem evPart_sound (hT : T.Ok P) {t : TypeId} {cs : Array Value} {off : Nat} {v : Value} (h : evPart T t cs off = some v) (w : World) : (part t cs off).run P w = .ok v w := by
 unfold evPart at h
 split at h
 ·rename_i d h1
  unfold part
  rw [run_bindOk (run_agg hT h1 w)]
  cases hd : aggT d with
  | true =>
   rw [hd] at h
   simp only [cond_true] at h
   split at h
   ·rename_i s h2
    simp only [Option.some.injEq] at h
    subst h
    simp only [if_true]
    rw [run_bindOk (run_siz hT h2 w)]
    rfl
   ·cases h
  | false =>
   rw [hd] at h
   simp only [cond_false] at h
   simp only [Bool.false_eq_true,if_false,h]
   rfl
 ·cases h

theorem beq_bytes (a b : ByteArray) : (a == b) = decide (a = b) := by
 rw [beq_toListBytes,beq_dec,ByteArray.toList_eq,ByteArray.toList_eq]
 exact decide_eq_decide.2 ⟨fun e => by rw [← bs_strOf a,← bs_strOf b]; unfold strOf; rw [e],fun e => by rw [e]⟩
theorem evEqF_sound (hT : T.Ok P) {xs ys : Array Value} {d : Nat} (w : World) : ∀ (fs : List Field) {r : Bool},evEqF T xs ys fs = some r → (Op.eqFields (d + 1) xs ys fs).run P w = .ok r w
 | [],r,h => by
  simp only [evEqF,Option.some.injEq] at h
  subst h; rfl
 | f :: fs,r,h => by
  simp only [evEqF] at h
  by_cases hn : f.name = "_"
  ·simp [hn] at h
  ·simp only [hn,decide_false,cond_false] at h
   unfold Op.eqFields
   rw [if_pos hn]
   have fin : ∀ {x y : Value} {b c : Bool},evPart T f.type xs f.offset = some x → evPart T f.type ys f.offset = some y → (Op.equalIn (d + 1) f.type x y).run P w = .ok b w → evEqF T xs ys fs = some c → r = andR fs b c →
     (do let a ← part f.type xs f.offset; let b ← part f.type ys f.offset; let r ← Op.equalIn (d + 1) f.type a b; if (!r) = true then pure false else Op.eqFields (d + 1) xs ys fs : Sem Bool).run P w = .ok r w := by
    intro x y b c h1 h2 h3 h4 h5
    have h5 : r = (b && c) := by
     rw [h5]
     cases fs with
     | nil =>
      simp only [evEqF,Option.some.injEq] at h4
      subst h4; simp [andR]
     | cons _ _ => rfl
    rw [run_bindOk (evPart_sound hT h1 w),run_bindOk (evPart_sound hT h2 w),run_bindOk h3]
    subst h5
    cases b with
    | false => simp
    | true =>
     simp only [Bool.not_true,Bool.false_eq_true,if_false,Bool.true_and]
     exact evEqF_sound hT w fs h4
   split at h
   ·rename_i k a k' b kk h1 h2 h3
    by_cases hk : k = k'
    ·subst hk
     simp only [sameKind,decide_true,cond_true] at h
     split at h
     ·rename_i c hc
      simp only [Option.some.injEq] at h
      exact fin h1 h2 (run_equalIn_int w d f.type k kk a b (hT.und _ _ h3)) hc (by rw [← h,beq_dec])
     ·cases h
    ·simp [sameKind,hk] at h
   ·rename_i a b h1 h2 h3
    split at h
    ·rename_i c hc
     simp only [Option.some.injEq] at h
     exact fin h1 h2 (run_equalIn_string w d f.type a b (hT.und _ _ h3)) hc (by
      rw [← h,← beq_toListBytes]
      congr 1
      have e : strOf a = strOf b ↔ a = b := ⟨fun e => by rw [← bs_strOf a,← bs_strOf b,e],fun e => by rw [e]⟩
      rw [decide_eq_decide.2 e]
      exact (beq_bytes a b).symm)
    ·cases h
   ·rename_i a b h1 h2 h3
    split at h
    ·rename_i c hc
     simp only [Option.some.injEq] at h
     exact fin h1 h2 (run_equalIn_bool' w d f.type a b (hT.und _ _ h3)) hc h.symm
    ·cases h
   ·cases h
theorem evEqS_sound (hT : T.Ok P) {t : TypeId} {xs ys : Array Value} {r : Bool} (h : evEqS T t xs ys = some r) (w : World) :
  P.eqGuardType P.depth t = false ∧ (Op.equalIn 10000 t (.agg xs) (.agg ys)).run P w = .ok r w := by
 unfold evEqS at h
 cases hq : T.eqs t with
 | false => rw [hq] at h; cases h
 | true =>
  rw [hq] at h
  simp only [cond_true] at h
  obtain ⟨h1,h2⟩ := hT.eqs t hq
  refine ⟨h2,?_⟩
  split at h
  ·rename_i fs hu
   have hu' := hT.und _ _ hu
   have hf : P.fieldsOf t = fs := by simp [Program.fieldsOf,hu']
   rw [run_equalIn_struct w 9999 t xs ys (by rw [hf]; exact hu') h1,hf]
   exact evEqF_sound hT w _ h
  ·cases h

theorem equal_ptr_same (hT : T.Ok P) {t te : TypeId} {s : Nat} {a : Addr} (ht : T.und t = some (.pointer te)) (hs : T.siz te = some s) (w : World) : (Op.equal t (.pointer (some a)) (.pointer (some a))).run P w = .ok true w := by
 have h1 : (sameAddr a a).run P w = .ok true w := by simp [sameAddr]
 have h2 := run_siz hT hs w
 have h3 := run_underlying (hT.und t _ ht) w
 have h : ∀ d : Nat,(Op.equalIn (d + 1) t (.pointer (some a)) (.pointer (some a))).run P w = .ok true w := fun d => by
  unfold Op.equalIn
  simp only
  rw [run_bindOk h3]
  simp only
  rw [run_bindOk h2]
  split <;> first | exact h1 | simp
 simp only [Op.equal,Op.maxDepth,h 9999]
theorem evBin_sound (hT : T.Ok P) {op : BinOp} {t : TypeId} {xo yo : Operand} {x y : Value} {v : Value} {ps : List Prop}
  (h : evBin T op t (isConst yo) x y = some (v,ps)) (hp : ∀ p,p ∈ ps → p) (w : World) :
  (do eqGuard op t xo yo x y; binOp op t x y : Sem Value).run P w = .ok v w := by
 unfold evBin at h
 split at h
 ·rename_i k a k' b
  refine (run_bindOk (eqGuard_ok (fun _ _ hh => by cases hh) (fun hh => by cases hh) w)).trans ?_
  split at h
  ·simp only [Option.some.injEq,Prod.mk.injEq] at h
   obtain ⟨rfl,rfl⟩ := h
   simp only [List.mem_singleton,forall_eq] at hp
   obtain ⟨h1,h2,h3⟩ := hp
   have h0 : ¬ b < 0 := by omega
   simp only [binOp,Op.shift,h0,if_false,Nat.min_eq_left h2,Sem.run_pure,wrap_inK h3]
  ·simp only [Option.some.injEq,Prod.mk.injEq] at h
   obtain ⟨rfl,rfl⟩ := h
   simp only [List.mem_singleton,forall_eq] at hp
   obtain ⟨h1,h2⟩ := hp
   have h0 : ¬ b < 0 := by omega
   have e : a.fdiv (2 ^ b.toNat) = a / 2 ^ b.toNat := Int.fdiv_eq_ediv_of_nonneg a (by exact Int.le_of_lt (Int.pow_pos (by omega)))
   simp only [binOp,Op.shift,h0,if_false,Nat.min_eq_left h2,Sem.run_pure,e]
  ·by_cases hk : k = k'
   ·subst hk
    simp only [sameKind,decide_true,cond_true] at h
    exact evInt_sound h hp t w
   ·simp [sameKind,hk] at h
 ·refine (run_bindOk (eqGuard_ok (fun _ _ hh => by cases hh) (fun hh => by cases hh) w)).trans ?_
  exact evStr_sound h hp t w
 ·rename_i xs ys
  split at h
  ·split at h
   ·rename_i r hr
    simp only [Option.some.injEq,Prod.mk.injEq] at h
    obtain ⟨rfl,rfl⟩ := h
    obtain ⟨h1,h2⟩ := evEqS_sound hT hr w
    rw [run_bindOk (run_eqGuard_agg w _ t xo yo xs ys h1),run_eql_struct,h2]
    rfl
   ·cases h
  ·split at h
   ·rename_i r hr
    simp only [Option.some.injEq,Prod.mk.injEq] at h
    obtain ⟨rfl,rfl⟩ := h
    obtain ⟨h1,h2⟩ := evEqS_sound hT hr w
    rw [run_bindOk (run_eqGuard_agg w _ t xo yo xs ys h1),run_neq_struct,h2]
    rfl
   ·cases h
  ·cases h
 ·rename_i a b
  split at h
  ·rename_i te ht
   split at h
   ·rename_i s hs
    split at h
    ·simp only [Option.some.injEq,Prod.mk.injEq] at h
     obtain ⟨rfl,rfl⟩ := h
     have e : a = b := hp _ (List.mem_singleton.2 rfl)
     subst e
     refine (run_bindOk (eqGuard_ok (fun _ _ hh => by cases hh) (fun hh => by cases hh) w)).trans ?_
     have hb : binOp .eql t (.pointer (some a)) (.pointer (some a)) = (do pure (.bool (← Op.equal t (.pointer (some a)) (.pointer (some a))))) := rfl
     rw [hb]; exact run_bindOk (equal_ptr_same hT ht hs w)
    ·simp only [Option.some.injEq,Prod.mk.injEq] at h
     obtain ⟨rfl,rfl⟩ := h
     have e : a = b := hp _ (List.mem_singleton.2 rfl)
     subst e
     refine (run_bindOk (eqGuard_ok (fun _ _ hh => by cases hh) (fun hh => by cases hh) w)).trans ?_
     have hb : binOp .neq t (.pointer (some a)) (.pointer (some a)) = (do pure (.bool (!(← Op.equal t (.pointer (some a)) (.pointer (some a)))))) := rfl
     rw [hb]; exact run_bindOk (equal_ptr_same hT ht hs w)
    ·cases h
   ·cases h
  ·cases h
 ·rename_i hni hns hna hnp
  have key : ∀ {r : Bool},evEq T t (isConst yo) x y = some r → (∀ op,(eqGuard op t xo yo x y).run P w = .ok () w) := by
   intro r hr op
   refine eqGuard_ok (fun a b e1 e2 => ?_) (fun e1 e2 => ?_) w
   ·subst e1; subst e2
    unfold evEq at hr
    split at hr <;> simp_all
   ·subst e1; subst e2
    unfold evEq at hr
    cases hc : isConst yo with
    | true => rfl
    | false => rw [hc] at hr; split at hr <;> simp_all
  split at h
  ·cases hr : evEq T t (isConst yo) x y with
   | none => rw [hr] at h; cases h
   | some r =>
    rw [hr] at h
    simp only [Option.some.injEq,Prod.mk.injEq] at h
    obtain ⟨rfl,rfl⟩ := h
    refine (run_bindOk (key hr _)).trans ?_
    have he := evEq_sound hT hr w
    have hb : binOp .eql t x y = (do pure (.bool (← Op.equal t x y))) := by
     unfold evEq at hr
     split at hr <;> first | rfl | cases hr
    rw [hb]; exact (run_bindOk he)
  ·cases hr : evEq T t (isConst yo) x y with
   | none => rw [hr] at h; cases h
   | some r =>
    rw [hr] at h
    simp only [Option.some.injEq,Prod.mk.injEq] at h
    obtain ⟨rfl,rfl⟩ := h
    refine (run_bindOk (key hr _)).trans ?_
    have he := evEq_sound hT hr w
    have hb : binOp .neq t x y = (do pure (.bool (!(← Op.equal t x y)))) := by
     unfold evEq at hr
     split at hr <;> first | rfl | cases hr
    rw [hb]; exact (run_bindOk he)
  ·cases h

theorem evUn_sound {op : UnOp} {x : Value} {v : Value} {ps : List Prop} (h : evUn op x = some (v,ps)) (hp : ∀ p,p ∈ ps → p) (w : World) : (Op.unary op x).run P w = .ok v w := by
 unfold evUn at h
 split at h
 ·simp only [Option.some.injEq,Prod.mk.injEq] at h
  obtain ⟨rfl,rfl⟩ := h
  rfl
 ·rename_i k n
  simp only [Option.some.injEq,Prod.mk.injEq] at h
  obtain ⟨rfl,rfl⟩ := h
  simp only [List.mem_singleton,forall_eq] at hp
  have e : (0 : Int) - n = -n := by omega
  simp only [Op.unary,Op.intArith,e,wrap_inK hp,Sem.run_pure]
 ·cases h

theorem evConv_sound (hT : T.Ok P) {s d : TypeId} {x v : Value} {ps : List Prop} (h : evConv T s d x = some (v,ps)) (hp : ∀ p,p ∈ ps → p) (w : World) : (convert s d x).run P w = .ok v w := by
 unfold evConv at h
 split at h
 ·rename_i ds k z n h1 h2
  simp only [Option.some.injEq,Prod.mk.injEq] at h
  obtain ⟨rfl,rfl⟩ := h
  simp only [List.mem_singleton,forall_eq] at hp
  unfold convert
  rw [run_bindOk (run_und hT h1 w),run_bindOk (run_und hT h2 w)]
  simp only [Conv.intToInt,wrap_inK hp,Sem.run_pure]
 ·rename_i h1 h2
  simp only [Option.some.injEq,Prod.mk.injEq] at h
  obtain ⟨rfl,rfl⟩ := h
  unfold convert
  rw [run_bindOk (run_und hT h1 w),run_bindOk (run_und hT h2 w)]
  rfl
 ·cases h

theorem evIndex_sound (hT : T.Ok P) {t : TypeId} {x i v : Value} {ps : List Prop} (h : evIndex T t x i = some (v,ps)) (hp : ∀ p,p ∈ ps → p) (w : World) : (Instr.index t x i).run P w = .ok v w := by
 unfold evIndex at h
 split at h
 ·rename_i s k z h1
  simp only [Option.some.injEq,Prod.mk.injEq] at h
  obtain ⟨rfl,rfl⟩ := h
  simp only [List.mem_singleton,forall_eq] at hp
  obtain ⟨h2,h3⟩ := hp
  have hz : z.toNat < s.size := by rw [size_strOf]; omega
  have hz' : z.toNat < (strOf s).length := by omega
  have e : s[z.toNat]? = some ((strOf s).getD z.toNat 0) := by
   rw [getElem?_pos s z.toNat hz,List.getD_eq_getElem?_getD,List.getElem?_eq_getElem hz']
   simp [strOf]; rfl
  simp only [Instr.index,asIntOf]
  rw [run_bindOk (Sem.run_pure (P := P) (w := w) _),run_bindOk (run_und hT h1 w)]
  simp only [h2,if_true,e]
  rfl
 ·cases h

theorem run_bound {x : Value} {y : Nat} {c : BoundsCode} {k : IntKind} {z : Int} (hx : x = .int k z) (h : 0 ≤ z ∧ z ≤ y) (w : World) : (Instr.sliceBound x y c).run P w = .ok z.toNat w := by
 subst hx
 simp only [Instr.sliceBound,asIntOf]
 rw [run_bindOk (Sem.run_pure (P := P) (w := w) _)]
 simp [h]

theorem extract_strOf (s : ByteArray) (l h : Nat) : s.extract l h = bs (((strOf s).take h).drop l) := by
 apply ByteArray.ext
 apply Array.ext'
 simp [bs,strOf,ByteArray.data_extract,List.drop_take]

theorem evSlice_sound (hT : T.Ok P) {t : TypeId} {x v : Value} {lo hi : Option Value} {ps : List Prop} (h : evSlice T t x lo hi = some (v,ps)) (hp : ∀ p,p ∈ ps → p) (w : World) : (Instr.sliceAt t x lo hi none).run P w = .ok v w := by
 unfold evSlice at h
 split at h
 ·rename_i s h1
  simp only [Option.some.injEq,Prod.mk.injEq] at h
  obtain ⟨rfl,rfl⟩ := h
  unfold Instr.sliceAt
  rw [run_bindOk (run_und hT h1 w)]
  simp only [Instr.slice]
  rw [run_bindOk (run_und hT h1 w)]
  simp only [Instr.sliceBounds,Option.isSome,Bool.false_eq_true,if_false]
  simp only [Sem.run_bind,Sem.run_pure,Result.andThen,extract_strOf,List.drop_zero]
  rw [size_strOf,List.take_length]; rfl
 ·rename_i s k l h1
  simp only [Option.some.injEq,Prod.mk.injEq] at h
  obtain ⟨rfl,rfl⟩ := h
  simp only [List.mem_singleton,forall_eq] at hp
  rw [← size_strOf] at hp
  unfold Instr.sliceAt
  rw [run_bindOk (run_und hT h1 w)]
  simp only [Instr.slice]
  rw [run_bindOk (run_und hT h1 w)]
  simp only [Instr.sliceBounds,Option.isSome,Bool.false_eq_true,if_false]
  simp only [Sem.run_bind,Sem.run_pure,run_bound rfl hp,Result.andThen,extract_strOf]
  rw [size_strOf,List.take_length]
 ·rename_i s k l h1
  simp only [Option.some.injEq,Prod.mk.injEq] at h
  obtain ⟨rfl,rfl⟩ := h
  simp only [List.mem_singleton,forall_eq] at hp
  rw [← size_strOf] at hp
  unfold Instr.sliceAt
  rw [run_bindOk (run_und hT h1 w)]
  simp only [Instr.slice]
  rw [run_bindOk (run_und hT h1 w)]
  simp only [Instr.sliceBounds,Option.isSome,Bool.false_eq_true,if_false]
  simp only [Sem.run_bind,Sem.run_pure,run_bound rfl hp,Result.andThen,extract_strOf,List.drop_zero]
 ·rename_i s k l k' u h1
  simp only [Option.some.injEq,Prod.mk.injEq] at h
  obtain ⟨rfl,rfl⟩ := h
  simp only [List.mem_singleton,forall_eq] at hp
  rw [← size_strOf] at hp
  obtain ⟨ha,hb,hc⟩ := hp
  unfold Instr.sliceAt
  rw [run_bindOk (run_und hT h1 w)]
  simp only [Instr.slice]
  rw [run_bindOk (run_und hT h1 w)]
  simp only [Instr.sliceBounds,Option.isSome,Bool.false_eq_true,if_false]
  have hb2 : 0 ≤ u ∧ u ≤ (s.size : Int) := by omega
  have hb3 : 0 ≤ l ∧ l ≤ (u.toNat : Int) := by omega
  simp only [Sem.run_bind,Sem.run_pure,run_bound rfl hb2,run_bound rfl hb3,Result.andThen,extract_strOf]
 ·cases h

theorem evLen_sound (hT : T.Ok P) {t ty : TypeId} {x v : Value} {ps : List Prop} (h : evLen T t x = some (v,ps)) (w : World) : (Builtin.len_ #[t] ty #[x]).run P w = .ok v w := by
 unfold evLen at h
 unfold Builtin.len_
 split at h
 ·rename_i s h1
  simp only [Option.some.injEq,Prod.mk.injEq] at h
  obtain ⟨rfl,rfl⟩ := h
  simp only [List.getElem?_toArray,List.getElem?_cons_zero]
  rw [run_bindOk (run_und hT h1 w)]
  simp only [Sem.run_pure,goInt,size_strOf]
 ·rename_i n c h1
  simp only [Option.some.injEq,Prod.mk.injEq] at h
  obtain ⟨rfl,rfl⟩ := h
  simp only [List.getElem?_toArray,List.getElem?_cons_zero]
  rw [run_bindOk (run_und hT h1 w)]
  rfl
 ·rename_i n h1
  simp only [Option.some.injEq,Prod.mk.injEq] at h
  obtain ⟨rfl,rfl⟩ := h
  simp only [List.getElem?_toArray,List.getElem?_cons_zero]
  rw [run_bindOk (run_und hT h1 w)]
  rfl
 ·cases h

theorem evMinMax_sound {mx : Bool} {ts : Array TypeId} {ty : TypeId} {x y v : Value} {ps : List Prop} (h : evMinMax mx x y = some (v,ps)) (w : World) :
  (if mx then Builtin.max_ ts ty #[x,y] else Builtin.min_ ts ty #[x,y]).run P w = .ok v w := by
 unfold evMinMax at h
 split at h
 ·rename_i k a k' b
  simp only [Option.some.injEq,Prod.mk.injEq] at h
  obtain ⟨rfl,rfl⟩ := h
  cases mx
  ·simp [Builtin.min_,Builtin.min2,Min.min,List.foldlM]
   split <;> split <;> first | rfl | omega | (congr 2; omega)
  ·simp [Builtin.max_,Builtin.max2,Max.max,List.foldlM]
   split <;> split <;> first | rfl | omega | (congr 2; omega)
 ·cases h

theorem evField_sound (hT : T.Ok P) {t : TypeId} {x v : Value} {f : Nat} {ps : List Prop} (h : evField T t x f = some (v,ps)) (w : World) : (Instr.field t x f).run P w = .ok v w := by
 unfold evField at h
 split at h
 ·rename_i fs cs h1
  split at h
  ·rename_i fd h2
   split at h
   ·rename_i r h3
    simp only [Option.some.injEq,Prod.mk.injEq] at h
    obtain ⟨rfl,rfl⟩ := h
    unfold Instr.field
    rw [run_bindOk (run_und hT h1 w)]
    simp only [h2,asAgg]
    rw [run_bindOk (Sem.run_pure (P := P) (w := w) _)]
    exact evPart_sound hT h3 w
   ·cases h
  ·cases h
 ·cases h

theorem addr_add (b o n : Nat) : Addr.add ⟨b,o,none⟩ n = ⟨b,o + n,none⟩ := by
 unfold Addr.add
 split
 ·rename_i h; subst h; rfl
 ·rfl

theorem evFieldAddr_sound (hT : T.Ok P) {t : TypeId} {x v : Value} {f : Nat} {ps : List Prop} (h : evFieldAddr T t x f = some (v,ps)) (w : World) : (Instr.fieldAt t x f).run P w = .ok v w := by
 unfold evFieldAddr at h
 split at h
 ·rename_i fs b o h1
  split at h
  ·rename_i fd h2
   split at h
   ·rename_i m h3
    simp only [Option.some.injEq,Prod.mk.injEq] at h
    obtain ⟨rfl,rfl⟩ := h
    unfold Instr.fieldAt
    rw [run_bindOk (run_und hT h1 w)]
    simp only [h2,Instr.sureAddr]
    rw [run_bindOk (Sem.run_pure (P := P) (w := w) _)]
    have e : (fieldPlace ⟨b,o,none⟩ fd).run P w = .ok (Addr.mk b (o + fd.offset) none) w := by
     unfold fieldPlace
     rw [run_bindOk (run_siz hT h3 w)]
     simp [addr_add]
    rw [run_bindOk e]
    rfl
   ·cases h
  ·cases h
 ·cases h

theorem evIndexAddr_sound (hT : T.Ok P) {t : TypeId} {x i v : Value} {ps : List Prop} (h : evIndexAddr T t x i = some (v,ps)) (hp : ∀ p,p ∈ ps → p) (w : World) : (Instr.indexAt t x i).run P w = .ok v w := by
 unfold evIndexAddr at h
 split at h
 ·rename_i e a n c k z h1
  split at h
  ·rename_i s h2
   simp only [Option.some.injEq,Prod.mk.injEq] at h
   obtain ⟨rfl,rfl⟩ := h
   have hp1 := hp _ (List.mem_cons_self)
   have hp2 := hp _ (List.mem_cons_of_mem _ (List.mem_cons_self))
   rw [hp2]
   simp only [slB,slO]
   unfold Instr.indexAt
   simp only [asIntOf,Sem.run_bind,Sem.run_pure,Result.andThen,run_und hT h1,hp1.1,hp1.2,and_self,if_true,run_siz hT h2,addr_add]
  ·cases h
 ·rename_i n e b o k z h1
  split at h
  ·rename_i s h2
   simp only [Option.some.injEq,Prod.mk.injEq] at h
   obtain ⟨rfl,rfl⟩ := h
   simp only [List.mem_singleton,forall_eq] at hp
   unfold Instr.indexAt
   simp only [asIntOf,Instr.sureAddr,Sem.run_bind,Sem.run_pure,Result.andThen,run_und hT h1,hp.1,hp.2,and_self,if_true,run_siz hT h2,addr_add]
  ·cases h
 ·cases h

theorem loadCellsFrom_sound (b o : Nat) : ∀ (cs : List Value) (i : Nat) (acc : Array Value) (w : World),(∀ p,p ∈ cellConds w b (o + i) cs → p) →
  (loadCellsFrom ⟨b,o,none⟩ i cs.length acc).run P w = .ok (acc ++ cs.toArray) w
 | [],_,acc,w,_ => by simp [loadCellsFrom]
 | v :: r,i,acc,w,h => by
  have h0 : w.cell? ⟨b,o + i,none⟩ = some v := h _ (by simp [cellConds])
  have ih := loadCellsFrom_sound b o r (i + 1) (acc.push v) w (fun p hp => h p (List.mem_cons_of_mem _ hp))
  simp only [List.length_cons,loadCellsFrom,addr_add]
  rw [run_bindOk (a := v) (w' := w) (by simp [load,Sem.run,h0]),ih]
  simp

theorem evLoad_sound (hT : T.Ok P) {t : TypeId} {x u v : Value} {ps : List Prop} {w : World} (h : evLoad T w t x u = some (v,ps)) (hp : ∀ p,p ∈ ps → p) : (Instr.loadAt t x).run P w = .ok v w := by
 unfold evLoad at h
 split at h
 ·rename_i d b o h1
  unfold Instr.loadAt
  simp only [Instr.sureAddr]
  rw [run_bindOk (Sem.run_pure (P := P) (w := w) _)]
  unfold loadVar
  rw [run_bindOk (run_agg hT h1 w)]
  cases hd : aggT d with
  | true =>
   rw [hd] at h
   simp only [cond_true] at h
   split at h
   ·rename_i cs s h2
    by_cases hl : cs.toList.length = s
    ·subst hl
     simp only [beqT,cond_true,Option.some.injEq,Prod.mk.injEq] at h
     obtain ⟨rfl,rfl⟩ := h
     simp only [if_true]
     have e := loadCellsFrom_sound (P := P) b o cs.toList 0 #[] w (by simpa using hp)
     rw [Sem.run_bind,run_siz hT h2 w]
     simp only [Result.andThen,loadCells]
     rw [run_bindOk e]
     simp
    ·simp only [beqF hl,cond_false,reduceCtorEq] at h
   ·cases h
  | false =>
   rw [hd] at h
   simp only [cond_false,Option.some.injEq,Prod.mk.injEq] at h
   obtain ⟨rfl,rfl⟩ := h
   simp only [List.mem_singleton,forall_eq] at hp
   simp [load,Sem.run,hp]
 ·cases h

theorem mapM_siz (hT : T.Ok P) (w : World) : ∀ (fs : List Field) (places : List (Nat × Nat)),fs.mapM (fun f => (T.siz f.type).map fun s => (f.offset,s)) = some places →
  (fs.mapM (fun f => do pure (f.offset,← sizeOf f.type) : Field → Sem (Nat × Nat))).run P w = .ok places w
 | [],places,h => by
  simp only [List.mapM_nil,Option.pure_def,Option.some.injEq] at h
  subst h; rfl
 | f :: r,places,h => by
  simp only [List.mapM_cons,Option.bind_eq_bind,Option.bind_eq_some_iff,Option.map_eq_some_iff,Option.pure_def,Option.some.injEq] at h
  obtain ⟨p,⟨s,hs,rfl⟩,ps,hr,rfl⟩ := h
  have ih := mapM_siz hT w r ps hr
  rw [List.mapM_cons,Sem.run_bind,run_bindOk (run_siz hT hs w)]
  simp only [Sem.run_pure,Result.andThen]
  rw [run_bindOk ih]
  rfl

theorem evBuild_sound (hT : T.Ok P) {t : TypeId} {parts : Array (Nat × Value)} {v : Value} {ps : List Prop} (h : evBuild T t parts.toList = some (v,ps)) (w : World) : (Instr.build t parts).run P w = .ok v w := by
 unfold evBuild at h
 split at h
 ·rename_i fs z h1 h2
  split at h
  ·rename_i places h3
   split at h
   ·rename_i cells h4
    simp only [Option.some.injEq,Prod.mk.injEq] at h
    obtain ⟨rfl,rfl⟩ := h
    unfold Instr.build
    rw [run_bindOk (run_zer hT h2 w),run_bindOk (run_und hT h1 w)]
    simp only
    have e : (fs.mapM (fun f => do pure (f.offset,← sizeOf f.type) : Field → Sem (Nat × Nat))).run P w = .ok places.toArray w := by
     rw [Array.mapM_eq_mapM_toList,← bind_pure_comp,run_bindOk (mapM_siz hT w fs.toList places h3)]
     rfl
    rw [run_bindOk e]
    simp only [h4]
    rfl
   ·cases h
  ·cases h
 ·rename_i n e z h1 h2
  split at h
  ·rename_i s h3
   split at h
   ·rename_i cells h4
    simp only [Option.some.injEq,Prod.mk.injEq] at h
    obtain ⟨rfl,rfl⟩ := h
    unfold Instr.build
    rw [run_bindOk (run_zer hT h2 w),run_bindOk (run_und hT h1 w)]
    simp only
    rw [run_bindOk (run_siz hT h3 w)]
    simp only [h4]
    rfl
   ·cases h
  ·cases h
 ·cases h

theorem mem_app_l {ps qs : List Prop} (h : ∀ p,p ∈ ps ++ qs → p) : ∀ p,p ∈ ps → p := fun p hp => h p (List.mem_append.2 (.inl hp))
theorem mem_app_r {ps qs : List Prop} (h : ∀ p,p ∈ ps ++ qs → p) : ∀ p,p ∈ qs → p := fun p hp => h p (List.mem_append.2 (.inr hp))

theorem evParts_sound {n : Nat} {ds : List Deferred} {st : St} {a : Act} (h : Agree n ds st a) : ∀ (l : List (Nat × Operand)) (vs : List (Nat × Value)) (ps : List Prop),
  evParts st l = some (vs,ps) → (∀ p,p ∈ ps → p) → l.map (fun (i,x) => (i,a.eval x)) = vs
 | [],vs,ps,he,_ => by
  simp only [evParts,Option.some.injEq,Prod.mk.injEq] at he
  rw [← he.1]; rfl
 | (i,x) :: r,vs,ps,he,hp => by
  simp only [evParts] at he
  split at he
  ·rename_i v p us q h1 h2
   simp only [Option.some.injEq,Prod.mk.injEq] at he
   obtain ⟨rfl,rfl⟩ := he
   rw [List.map_cons]
   simp only [opnd_sound h h1 (mem_app_l hp)]
   rw [evParts_sound h r us q h2 (mem_app_r hp)]
  ·cases he
theorem evArgs_sound {n : Nat} {ds : List Deferred} {st : St} {a : Act} (h : Agree n ds st a) : ∀ (l : List Operand) (vs : List Value) (ps : List Prop),
  evArgs st l = some (vs,ps) → (∀ p,p ∈ ps → p) → l.map a.eval = vs
 | [],vs,ps,he,_ => by
  simp only [evArgs,Option.some.injEq,Prod.mk.injEq] at he
  rw [← he.1]; rfl
 | x :: r,vs,ps,he,hp => by
  simp only [evArgs] at he
  split at he
  ·rename_i v p us q h1 h2
   simp only [Option.some.injEq,Prod.mk.injEq] at he
   obtain ⟨rfl,rfl⟩ := he
   rw [List.map_cons,opnd_sound h h1 (mem_app_l hp),evArgs_sound h r us q h2 (mem_app_r hp)]
  ·cases he

theorem run_value {s : Sem Value} {v : Value} {w w' : World} (h : s.run P w = .ok v w') : (do pure (Next.value (← s)) : Sem Next).run P w = .ok (.value v) w' := run_bindOk h

theorem map_toList_arr {α β : Type} (l : Array α) (f : α → β) (vs : List β) (h : l.toList.map f = vs) : l.map f = vs.toArray := by
 apply Array.ext'
 simp [h]

theorem evOp_sound (hT : T.Ok P) {n : Nat} {ds : List Deferred} {st : St} {a : Act} (ha : Agree n ds st a) {h : Option Value} {w : World} {o : Oper} {v : Value} {ps : List Prop}
  (he : evOp T w st h o.op = some (v,ps)) (hp : ∀ p,p ∈ ps → p) : (execOp a.eval o).run P w = .ok (.value v) w := by
 obtain ⟨dst,op,ty,pos,after,guard⟩ := o
 simp only at he
 unfold evOp at he
 split at he
 ·rw [← opnd_sound ha he hp]; rfl
 ·rw [← opnd_sound ha he hp]; rfl
 ·rename_i c b
  split at he
  ·rename_i cb p h1
   split at he
   ·rename_i y q h2
    simp only [Option.some.injEq,Prod.mk.injEq] at he
    obtain ⟨rfl,rfl⟩ := he
    have e1 := opnd_sound ha h1 (mem_app_l hp)
    simp only [execOp,e1,asBool]
    cases cb with
    | true => rfl
    | false =>
     have e2 := opnd_sound ha h2 (under_on (g := some (!false)) rfl (mem_app_r hp))
     rw [run_bindOk (Sem.run_pure (P := P) (w := w) _)]
     simp [e2]
   ·simp only [Option.some.injEq,Prod.mk.injEq] at he
    obtain ⟨rfl,rfl⟩ := he
    have e1 := opnd_sound ha h1 (mem_app_l hp)
    have e3 := mem_app_r hp (cb = true) (by simp)
    simp only [execOp,e1,asBool,e3]
    rfl
   ·cases he
  ·cases he
 ·rename_i c a' _ 
  split at he
  ·rename_i cb p h1
   split at he
   ·rename_i y q h2
    simp only [Option.some.injEq,Prod.mk.injEq] at he
    obtain ⟨rfl,rfl⟩ := he
    have e1 := opnd_sound ha h1 (mem_app_l hp)
    simp only [execOp,e1,asBool]
    cases cb with
    | false => rfl
    | true =>
     have e2 := opnd_sound ha h2 (under_on (g := some true) rfl (mem_app_r hp))
     rw [run_bindOk (Sem.run_pure (P := P) (w := w) _)]
     simp [e2]
   ·simp only [Option.some.injEq,Prod.mk.injEq] at he
    obtain ⟨rfl,rfl⟩ := he
    have e1 := opnd_sound ha h1 (mem_app_l hp)
    have e3 := mem_app_r hp (cb = false) (by simp)
    simp only [execOp,e1,asBool,e3]
    rfl
   ·cases he
  ·cases he
 ·obtain ⟨x,p,y,q,s,h1,h2,h3,rfl⟩ := with2_some he
  rw [← opnd_sound ha h1 (mem_app_l hp),← opnd_sound ha h2 (mem_app_l (mem_app_r hp))] at h3
  exact run_value (evBin_sound hT h3 (mem_app_r (mem_app_r hp)) w)
 ·obtain ⟨x,p,q,h1,h2,rfl⟩ := with1_some he
  rw [← opnd_sound ha h1 (mem_app_l hp)] at h2
  exact run_value (evUn_sound h2 (mem_app_r hp) w)
 ·obtain ⟨x,p,q,h1,h2,rfl⟩ := with1_some he
  rw [← opnd_sound ha h1 (mem_app_l hp)] at h2
  exact run_value (evConv_sound hT h2 (mem_app_r hp) w)
 ·obtain ⟨x,p,y,q,s,h1,h2,h3,rfl⟩ := with2_some he
  rw [← opnd_sound ha h1 (mem_app_l hp),← opnd_sound ha h2 (mem_app_l (mem_app_r hp))] at h3
  exact run_value (evIndex_sound hT h3 (mem_app_r (mem_app_r hp)) w)
 ·obtain ⟨x,p,q,h1,h2,rfl⟩ := with1_some he
  rw [← opnd_sound ha h1 (mem_app_l hp)] at h2
  exact run_value (evSlice_sound hT h2 (mem_app_r hp) w)
 ·obtain ⟨x,p,y,q,s,h1,h2,h3,rfl⟩ := with2_some he
  rw [← opnd_sound ha h1 (mem_app_l hp),← opnd_sound ha h2 (mem_app_l (mem_app_r hp))] at h3
  exact run_value (evSlice_sound hT h3 (mem_app_r (mem_app_r hp)) w)
 ·obtain ⟨x,p,y,q,s,h1,h2,h3,rfl⟩ := with2_some he
  rw [← opnd_sound ha h1 (mem_app_l hp),← opnd_sound ha h2 (mem_app_l (mem_app_r hp))] at h3
  exact run_value (evSlice_sound hT h3 (mem_app_r (mem_app_r hp)) w)
 ·obtain ⟨x,p,y,q,s,h1,h2,h3,rfl⟩ := with2_some he
  obtain ⟨z,r,s',h4,h5,rfl⟩ := with1_some h3
  rw [← opnd_sound ha h1 (mem_app_l hp),← opnd_sound ha h2 (mem_app_l (mem_app_r hp)),← opnd_sound ha h4 (mem_app_l (mem_app_r (mem_app_r hp)))] at h5
  exact run_value (evSlice_sound hT h5 (mem_app_r (mem_app_r (mem_app_r hp))) w)
 ·obtain ⟨x,p,q,h1,h2,rfl⟩ := with1_some he
  rw [← opnd_sound ha h1 (mem_app_l hp)] at h2
  exact run_value (evField_sound hT h2 w)
 ·obtain ⟨x,p,q,h1,h2,rfl⟩ := with1_some he
  rw [← opnd_sound ha h1 (mem_app_l hp)] at h2
  exact run_value (evFieldAddr_sound hT h2 w)
 ·obtain ⟨x,p,y,q,s,h1,h2,h3,rfl⟩ := with2_some he
  rw [← opnd_sound ha h1 (mem_app_l hp),← opnd_sound ha h2 (mem_app_l (mem_app_r hp))] at h3
  exact run_value (evIndexAddr_sound hT h3 (mem_app_r (mem_app_r hp)) w)
 ·split at he
  ·obtain ⟨x,p,q,h1,h2,rfl⟩ := with1_some he
   rw [← opnd_sound ha h1 (mem_app_l hp)] at h2
   exact run_value (evLoad_sound hT h2 (mem_app_r hp))
  ·cases he
 ·obtain ⟨x,p,q,h1,h2,rfl⟩ := with1_some he
  have e1 := opnd_sound ha h1 (mem_app_l hp)
  unfold evExtract at h2
  split at h2
  ·split at h2
   ·rename_i vs u hu
    simp only [Option.some.injEq,Prod.mk.injEq] at h2
    obtain ⟨rfl,rfl⟩ := h2
    refine run_value ?_
    simp [e1,Instr.extract,hu]
   ·cases h2
  ·cases h2
 ·rename_i t x
  obtain ⟨y,p,q,h1,h2,rfl⟩ := with1_some he
  have e1 := opnd_sound ha h1 (mem_app_l hp)
  unfold evIface at h2
  split at h2
  ·cases h2
  ·rename_i d hd hu
   simp only [Option.some.injEq,Prod.mk.injEq] at h2
   obtain ⟨rfl,rfl⟩ := h2
   refine run_value ?_
   unfold Instr.makeInterface
   rw [run_bindOk (run_und hT hu w),e1]
   cases d <;> first | rfl | (exact (hd _ rfl).elim)
  ·cases h2
 ·split at he
  ·rename_i fn first captured a1 p b1 q h1 h2
   simp only [Option.some.injEq,Prod.mk.injEq] at he
   obtain ⟨rfl,rfl⟩ := he
   refine run_value ?_
   simp only [Instr.makeFunc,Sem.run_pure]
   rw [map_toList_arr _ _ _ (evArgs_sound ha _ _ _ h1 (mem_app_l hp)),map_toList_arr _ _ _ (evArgs_sound ha _ _ _ h2 (mem_app_r hp))]
  ·cases he
 ·obtain ⟨x,p,q,h1,h2,rfl⟩ := with1_some he
  have e1 := opnd_sound ha h1 (mem_app_l hp)
  unfold evNil at h2
  split at h2
  ·simp only [Option.some.injEq,Prod.mk.injEq] at h2
   obtain ⟨rfl,rfl⟩ := h2
   simp [execOp,e1]
  ·simp only [Option.some.injEq,Prod.mk.injEq] at h2
   obtain ⟨rfl,rfl⟩ := h2
   simp [execOp,e1]
  ·cases h2
 ·split at he
  ·rename_i t parts vs p h1
   split at he
   ·rename_i r q h2
    simp only [Option.some.injEq,Prod.mk.injEq] at he
    obtain ⟨rfl,rfl⟩ := he
    have e1 := evParts_sound ha _ _ _ h1 (mem_app_l hp)
    refine run_value (evBuild_sound hT (parts := _) (ps := q) ?_ w)
    rw [Array.toList_map,e1]
    exact h2
   ·cases he
  ·cases he
 ·rename_i args argTypes
  split at he
  ·rename_i x t hx ht
   obtain ⟨y,p,q,h1,h2,rfl⟩ := with1_some he
   have e1 := opnd_sound ha h1 (mem_app_l hp)
   have ea : args = #[x] := Array.ext' hx
   have et : argTypes = #[t] := Array.ext' ht
   subst ea; subst et
   have hr := evLen_sound hT (ty := ty) h2 w
   simp [execOp,resolve,invoke,builtin,e1,hr]
  ·cases he
 ·rename_i args argTypes
  split at he
  ·rename_i x y hx
   obtain ⟨x',p,y',q,s,h1,h2,h3,rfl⟩ := with2_some he
   have e1 := opnd_sound ha h1 (mem_app_l hp)
   have e2 := opnd_sound ha h2 (mem_app_l (mem_app_r hp))
   have ea : args = #[x,y] := Array.ext' hx
   subst ea
   have hr := evMinMax_sound (P := P) (ts := argTypes) (ty := ty) h3 w
   simp only [Bool.false_eq_true,if_false] at hr
   simp [execOp,resolve,invoke,builtin,e1,e2,hr]
  ·cases he
 ·rename_i args argTypes
  split at he
  ·rename_i x y hx
   obtain ⟨x',p,y',q,s,h1,h2,h3,rfl⟩ := with2_some he
   have e1 := opnd_sound ha h1 (mem_app_l hp)
   have e2 := opnd_sound ha h2 (mem_app_l (mem_app_r hp))
   have ea : args = #[x,y] := Array.ext' hx
   subst ea
   have hr := evMinMax_sound (P := P) (ts := argTypes) (ty := ty) h3 w
   simp only [if_true] at hr
   simp [execOp,resolve,invoke,builtin,e1,e2,hr]
  ·cases he
 ·cases he
end sound

inductive Fr where
 | code (c : Code)
 | blk (id : Nat)
 | ops (all : Array Oper) (rest : List Oper)
 | inv (I : Act → World → Prop)

def Kt (P : Program) (Q : Exit → Act → World → Prop) : List Fr → Exit → Act → World → Prop
 | [] => Q
 | .code c :: k => Exit.then (c.wp P (Kt P Q k)) (Kt P Q k)
 | .blk id :: k => Exit.inBlock id (Kt P Q k)
 | .ops all rest :: k => Exit.then (wpList P all (Kt P Q k) rest) (Kt P Q k)
 | .inv I :: k => Exit.then I (Kt P Q k)

def G (P : Program) (n : Nat) (ds : List Deferred) (Q : Exit → Act → World → Prop) (k : List Fr) (st : St) (w : World) : Prop :=
 ∀ a,Agree n ds st a → Kt P Q k .normal a w

def popTo (id : Nat) : List Fr → Option (List Fr)
 | [] => none
 | .blk j :: k => bif Nat.beq j id then some k else popTo id k
 | _ :: k => popTo id k

theorem Kt_exit {P : Program} {Q : Exit → Act → World → Prop} {id : Nat} {a : Act} {w : World} : ∀ {k k' : List Fr},popTo id k = some k' → Kt P Q k' .normal a w → Kt P Q k (.exit id) a w
 | [],_,h,_ => by cases h
 | .blk j :: k,k',h,hk => by
  simp only [popTo] at h
  by_cases e : j = id
  ·subst e
   simp only [beqT,cond_true,Option.some.injEq] at h
   subst h
   simpa [Kt,Exit.inBlock] using hk
  ·simp only [beqF e,cond_false] at h
   have := Kt_exit h hk
   simp only [Kt,Exit.inBlock]
   rw [if_neg (fun x => e x.symm)]
   exact this
 | .code c :: k,k',h,hk => Kt_exit (k := k) h hk
 | .ops _ _ :: k,k',h,hk => Kt_exit (k := k) h hk
 | .inv _ :: k,k',h,hk => Kt_exit (k := k) h hk

theorem Kt_ret {P : Program} {Q : Exit → Act → World → Prop} {a : Act} {w : World} : ∀ {k : List Fr},Q .ret a w → Kt P Q k .ret a w
 | [],h => h
 | .blk _ :: k,h => Kt_ret (k := k) h
 | .code _ :: k,h => Kt_ret (k := k) h
 | .ops _ _ :: k,h => Kt_ret (k := k) h
 | .inv _ :: k,h => Kt_ret (k := k) h
abbrev Cfg := List Fr × St × List Hint

def evGuard (ops : Array Oper) (st : St) : Option (Nat × Bool) → List Hint → Option (Option (Option Bool) × List Prop × List Hint)
 | none,hs => some (some none,[],hs)
 | some (j,want),h :: hs =>
  match (ops[j]?).bind (·.dst) with
  | some d => match sget st d with
   | some (g,.bool cb) =>
    match h,g with
    | .exec,none => some (some none,[cb = want],hs)
    | .exec,some x => some (some none,[x = true,cb = want],hs)
    | .skip,none => some (none,[cb = !want],hs)
    | .skip,some x => some (none,[x = false ∨ cb = !want],hs)
    | .sym,g => some (some (gand g (match want with | true => cb | false => !cb)),[],hs)
    | .ld _,_ => none
   | some (none,.tuple _) => match h with
    | .skip => some (none,[],hs)
    | _ => none
   | _ => none
  | none => none
 | some _,[] => none

def isLoad : Op → Bool
 | .load _ _ => true
 | _ => false

def step1 (T : Tab) (n : Nat) (w : World) : Cfg → Option (Cfg × List Prop)
 | (.code (.seq a b) :: k,st,hs) => some ((.code a :: .code b :: k,st,hs),[])
 | (.code .skip :: k,st,hs) => some ((k,st,hs),[])
 | (.code (.label _) :: k,st,hs) => some ((k,st,hs),[])
 | (.code (.block id c) :: k,st,hs) => some ((.code c :: .blk id :: k,st,hs),[])
 | (.blk _ :: k,st,hs) => some ((k,st,hs),[])
 | (.code (.exit id) :: k,st,hs) => match popTo id k with
  | some k' => some ((k',st,hs),[])
  | none => none
 | (.code (.cond c x y) :: k,st,hs) => match hs,opnd st c with
  | .exec :: hs,some (.bool b,ps) => some ((.code x :: k,st,hs),ps ++ [b = true])
  | .skip :: hs,some (.bool b,ps) => some ((.code y :: k,st,hs),ps ++ [b = false])
  | _,_ => none
 | (.code (.region _ ops false) :: k,st,hs) => some ((.ops ops ops.toList :: k,st,hs),[])
 | (.ops _ [] :: k,st,hs) => some ((k,st,hs),[])
 | (.ops all (o :: r) :: k,st,hs) =>
  match evGuard all st o.guard hs with
  | some (none,ps,hs) => match o.dst with
   | some d => bif Nat.blt d n then some ((.ops all r :: k,sput st d none undef,hs),ps) else none
   | none => some ((.ops all r :: k,st,hs),ps)
  | some (some g,ps,hs) =>
   match o.dst with
   | some d => bif Nat.blt d n then
     (bif isLoad o.op then
      (match hs with
      | .ld v :: hs => match evOp T w st (some v) o.op with
       | some (v,qs) => some ((.ops all r :: k,sput st d g v,hs),ps ++ under g qs)
       | none => none
      | _ => none)
     else match evOp T w st none o.op with
      | some (v,qs) => some ((.ops all r :: k,sput st d g v,hs),ps ++ under g qs)
      | none => none)
    else none
   | none => none
  | none => none
 | _ => none

def go (T : Tab) (n : Nat) (w : World) : Nat → Cfg → Option (Cfg × List Prop)
 | 0,c => some (c,[])
 | m + 1,c => match step1 T n w c with
  | some (c',ps) => match go T n w m c' with
   | some (c'',qs) => some (c'',ps ++ qs)
   | none => none
  | none => none

section
variable {P : Program} {T : Tab} {n : Nat} {ds : List Deferred} {Q : Exit → Act → World → Prop} {w : World}

def yv : Option Bool → Bool → Option Bool
 | none,cb => some cb
 | some x,cb => bif x then some cb else none
theorem yielded_of {ops : Array Oper} {st : St} {a : Act} (ha : Agree n ds st a) {j d : Nat} (hd : (ops[j]?).bind (·.dst) = some d) {g : Option Bool} {cb : Bool} (hs : sget st d = some (g,.bool cb)) :
  yielded ops a.tmps j = yv g cb := by
 have h := ha.get d g _ hs
 unfold yielded
 rw [hd]
 simp only [Option.bind_some,h]
 cases g with
 | none => rfl
 | some x => cases x <;> rfl

def GSays : Option (Option Bool) → Bool → Prop
 | none,x => x = false
 | some none,x => x = true
 | some (some b),x => x = b
theorem evGuard_sound {ops : Array Oper} {st : St} {a : Act} (ha : Agree n ds st a) {o : Oper} {hs hs' : List Hint} {r : Option (Option Bool)} {ps : List Prop}
  (h : evGuard ops st o.guard hs = some (r,ps,hs')) (hp : ∀ p,p ∈ ps → p) :
  GSays r (Region.wanted o (yielded ops a.tmps)) := by
 unfold Region.wanted
 cases hgd : o.guard with
 | none =>
  rw [hgd] at h
  simp only [evGuard,Option.some.injEq,Prod.mk.injEq] at h
  obtain ⟨rfl,rfl,rfl⟩ := h
  rfl
 | some jw =>
  obtain ⟨j,want⟩ := jw
  rw [hgd] at h
  cases hs with
  | nil => cases h
  | cons hd tl =>
   simp only [evGuard] at h
   split at h
   ·rename_i d hdst
    split at h
    ·rename_i g cb hsg
     have hy := yielded_of ha hdst hsg
     split at h <;> simp only [Option.some.injEq,Prod.mk.injEq,reduceCtorEq] at h
     ·obtain ⟨rfl,rfl,rfl⟩ := h
      have e := hp (cb = want) (by simp)
      subst e; simp [hy,GSays,yv]
     ·obtain ⟨rfl,rfl,rfl⟩ := h
      rename_i x
      have e := hp (cb = want) (by simp)
      have e2 := hp (x = true) (by simp)
      subst e; subst e2; simp [hy,GSays,yv]
     ·obtain ⟨rfl,rfl,rfl⟩ := h
      have e := hp (cb = !want) (by simp)
      subst e; cases want <;> simp [hy,GSays,yv]
     ·obtain ⟨rfl,rfl,rfl⟩ := h
      rename_i x
      have e := hp (x = false ∨ cb = !want) (by simp)
      rcases e with e | e
      ·subst e; simp [hy,GSays,yv]
      ·subst e; cases want <;> cases x <;> simp [hy,GSays,yv]
     ·obtain ⟨rfl,rfl,rfl⟩ := h
      cases g with
      | none => simp only [gand,hy,GSays,yv]; cases want <;> cases cb <;> rfl
      | some x => simp only [gand,hy,GSays,yv]; cases x <;> cases want <;> cases cb <;> rfl
    ·rename_i u hsg
     split at h
     ·simp only [Option.some.injEq,Prod.mk.injEq] at h
      obtain ⟨rfl,rfl,rfl⟩ := h
      have hu := ha.get d none _ hsg
      have hy : yielded ops a.tmps j = none := by
       unfold yielded
       rw [hdst]
       simp only [Option.bind_some,hu,gval]
      simp only [GSays,hy]
      cases want <;> rfl
     ·cases h
    ·cases h
   ·cases h

theorem step1_sound (hT : T.Ok P) {c c' : Cfg} {ps : List Prop} (h : step1 T n w c = some (c',ps)) (hp : ∀ p,p ∈ ps → p) (hk : G P n ds Q c'.1 c'.2.1 w) : G P n ds Q c.1 c.2.1 w := by
 unfold step1 at h
 split at h <;> intro a ha
 ·simp only [Option.some.injEq,Prod.mk.injEq] at h
  obtain ⟨rfl,rfl⟩ := h
  exact wp_seq (hk a ha)
 ·simp only [Option.some.injEq,Prod.mk.injEq] at h
  obtain ⟨rfl,rfl⟩ := h
  exact wp_skip (hk a ha)
 ·simp only [Option.some.injEq,Prod.mk.injEq] at h
  obtain ⟨rfl,rfl⟩ := h
  exact wp_label (hk a ha)
 ·simp only [Option.some.injEq,Prod.mk.injEq] at h
  obtain ⟨rfl,rfl⟩ := h
  exact wp_block (hk a ha)
 ·simp only [Option.some.injEq,Prod.mk.injEq] at h
  obtain ⟨rfl,rfl⟩ := h
  exact hk a ha
 ·split at h
  ·rename_i k' hk'
   simp only [Option.some.injEq,Prod.mk.injEq] at h
   obtain ⟨rfl,rfl⟩ := h
   exact wp_exit (Kt_exit hk' (hk a ha))
  ·cases h
 ·split at h
  ·rename_i b qs ho
   simp only [Option.some.injEq,Prod.mk.injEq] at h
   obtain ⟨rfl,rfl⟩ := h
   have e1 := opnd_sound ha ho (mem_app_l hp)
   have e2 := mem_app_r hp (b = true) (by simp)
   subst e2
   exact wp_cond_true e1 (hk a ha)
  ·rename_i b qs ho
   simp only [Option.some.injEq,Prod.mk.injEq] at h
   obtain ⟨rfl,rfl⟩ := h
   have e1 := opnd_sound ha ho (mem_app_l hp)
   have e2 := mem_app_r hp (b = false) (by simp)
   subst e2
   exact wp_cond_false e1 (hk a ha)
  ·cases h
 ·simp only [Option.some.injEq,Prod.mk.injEq] at h
  obtain ⟨rfl,rfl⟩ := h
  exact wp_region_list (hk a ha)
 ·simp only [Option.some.injEq,Prod.mk.injEq] at h
  obtain ⟨rfl,rfl⟩ := h
  exact hk a ha
 ·rename_i all o r k st hs
  show wpList P all (Kt P Q k) (o :: r) a w
  split at h
  ·rename_i ps' hs' hg
   split at h
   ·rename_i d hd
    cases hdn : Nat.blt d n with
    | false => rw [hdn] at h; cases h
    | true =>
     rw [hdn] at h
     simp only [cond_true,Option.some.injEq,Prod.mk.injEq] at h
     obtain ⟨rfl,rfl⟩ := h
     have hw := evGuard_sound ha hg hp
     simp only [GSays] at hw
     have hlt : d < n := by simpa [Nat.blt_eq] using hdn
     have := hk _ (ha.put hlt none undef)
     simp only [gval] at this
     unfold wpList
     rw [if_neg (by simp [hw]),hd]
     exact this
   ·rename_i hd
    simp only [Option.some.injEq,Prod.mk.injEq] at h
    obtain ⟨rfl,rfl⟩ := h
    have hw := evGuard_sound ha hg hp
    simp only [GSays] at hw
    have := hk a ha
    unfold wpList
    rw [if_neg (by simp [hw]),hd]
    exact this
  ·rename_i g ps' hs' hg
   split at h
   ·rename_i d hd
    cases hdn : Nat.blt d n with
    | false => rw [hdn] at h; cases h
    | true =>
     rw [hdn] at h
     simp only [cond_true] at h
     have hlt : d < n := by simpa [Nat.blt_eq] using hdn
     have main : ∀ {hv : Option Value} {v : Value} {qs : List Prop} {hs'' : List Hint},evOp T w st hv o.op = some (v,qs) → c' = (.ops all r :: k,sput st d g v,hs'') → ps = ps' ++ under g qs → wpList P all (Kt P Q k) (o :: r) a w := by
      intro hv v qs hs'' he hc hps
      subst hc; subst hps
      have hw := evGuard_sound ha hg (mem_app_l hp)
      have hnext := hk _ (ha.put hlt g v)
      unfold wpList
      cases hgv : g with
      | none =>
       rw [hgv] at hw hnext
       simp only [GSays] at hw
       rw [if_pos hw]
       refine .inl ?_
       have hr := evOp_sound (o := o) hT ha he (by rw [hgv] at hp; exact mem_app_r hp)
       unfold Oper.wp
       rw [hr,Oper.upon_value,hd]
       exact hnext
      | some b =>
       rw [hgv] at hw hnext
       simp only [GSays] at hw
       cases hb : b with
       | true =>
        subst hb
        rw [if_pos hw]
        refine .inl ?_
        have hr := evOp_sound (o := o) hT ha he (under_on (g := some true) rfl (by rw [hgv] at hp; exact mem_app_r hp))
        unfold Oper.wp
        rw [hr,Oper.upon_value,hd]
        exact hnext
       | false =>
        subst hb
        rw [if_neg (by simp [hw]),hd]
        exact hnext
     cases hl : isLoad o.op with
     | true =>
      rw [hl] at h
      simp only [cond_true] at h
      split at h
      ·split at h
       ·rename_i u qs he
        simp only [Option.some.injEq,Prod.mk.injEq] at h
        exact main he h.1.symm h.2.symm
       ·cases h
      ·cases h
     | false =>
      rw [hl] at h
      simp only [cond_false] at h
      split at h
      ·rename_i u qs he
       simp only [Option.some.injEq,Prod.mk.injEq] at h
       exact main he h.1.symm h.2.symm
      ·cases h
   ·cases h
  ·cases h
 ·cases h

theorem go_sound (hT : T.Ok P) : ∀ (m : Nat) {c c' : Cfg} {ps : List Prop},go T n w m c = some (c',ps) → (∀ p,p ∈ ps → p) → G P n ds Q c'.1 c'.2.1 w → G P n ds Q c.1 c.2.1 w
 | 0,c,c',ps,h,_,hk => by
  simp only [go,Option.some.injEq,Prod.mk.injEq] at h
  rw [h.1]; exact hk
 | m + 1,c,c',ps,h,hp,hk => by
  simp only [go] at h
  split at h
  ·rename_i c1 qs h1
   split at h
   ·rename_i c2 rs h2
    simp only [Option.some.injEq,Prod.mk.injEq] at h
    obtain ⟨rfl,rfl⟩ := h
    exact step1_sound hT h1 (mem_app_l hp) (go_sound hT m h2 (mem_app_r hp) hk)
   ·cases h
  ·cases h

theorem seg (hT : T.Ok P) (m : Nat) (hs : List Hint) (ks : List Nat) {k k' : List Fr} {st st' st'' : St} {ps : List Prop}
  (h : go T n w m (k,st,hs) = some ((k',st',[]),ps)) (hkeep : keepOnly ks st' = st'') (hp : All ps) (hk : G P n ds Q k' st'' w) : G P n ds Q k st w :=
 go_sound hT m h hp.mem (fun a ha => hk a (hkeep ▸ ha.keep ks))
end
end Go.Bk
