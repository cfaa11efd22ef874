/-
  Texts that belong together: ParH, ParLines.
-/
import Derived.Test.YtjhgghpeapmgdaaGreatDoorParG
import Derived.Test.YtjhgghpeapmgdaaGreatDoorMg4
import Derived.Test.YtjhgghpeapmgdaaGreatDoorPlanR3
import Derived.Test.YtjhgghpeapmgdaaGreatDoorMg2
/-
  PARSE: contracts of the statements' pick and awake.
-/
namespace Go.Proofs.YtjhgghpeapmgdaaGreatDoor
open Go.Bk Go.Proofs

theorem E26 : Proofs.Enters Tryz.prog 26 := Proofs.enters_of Tryz.func26 (by kernel_rfl) rfl

theorem E25 : Proofs.Enters Tryz.prog 25 := Proofs.enters_of Tryz.func25 (by kernel_rfl) rfl

set_option maxRecDepth 20000 in
theorem pick4 (c : Int) (n : Nat) (w : World) (h0 : -9223372036854775808 ≤ c) (h1 : c ≤ 9223372036854775807) (hn : 0 < n) :
    Does Tryz.prog 26 [iv c,iv (n:Int)] w (fun v w' => v = .int .i64 ((pickN c n:Nat):Int) ∧ w = w') := by
 refine startD (c := Y26) Tryz.func26 rfl (by kernel_rfl) ?_
 show G _ 13 [] _ (kAt Y26 [] []) (stz [(0,iv c),(1,iv (n:Int))]) w
 refine sg0 10 (kAt Y26 [1,0,1] []) [(0,iv c),(1,iv (n:Int)),(4,iv 0),(6,.bool (decide ((c : Int) < (0 : Int))))] ?_
 refine brd ((c : Int) < (0 : Int)) (fun h => ?_) (fun h => ?_)
 ·refine sgz 13 [] (kAt Y26 [1,1,1] []) [(4,iv ((-(c + (1 : Int))) % (n:Int)))] [I64 (c + (1 : Int)),I64 (-(c + (1 : Int))),(0 ≤ (-(c + (1 : Int))) ∧ 0 < (n:Int))] (AC (i64 (by omega)) (AC (i64 (by omega)) (A1 (by omega)))) ?_
  exact ret1 (iv ((-(c + (1 : Int))) % (n:Int))) (⟨by rw [pickN_neg hn h],rfl⟩)
 refine sgz 8 [] (kAt Y26 [1,1,1] []) [(4,iv (c % (n:Int)))] [(0 ≤ c ∧ 0 < (n:Int))] (A1 (by omega)) ?_
 exact ret1 (iv (c % (n:Int))) (⟨by rw [pickN_nat hn h],rfl⟩)

set_option maxRecDepth 20000 in
theorem awake4  (w : World) (hG : Glob w) :
    Does Tryz.prog 25 [] w (fun v w' => v = .bool true ∧ Ext w w') := by
 refine startD (c := Y25) Tryz.func25 rfl (by kernel_rfl) ?_
 show G _ 42 [] _ (kAt Y25 [] []) [] w
 have hE1 : Ext w w := Ext.refl w
 have hM2 : Hold w w.heap.size [] := Hold.nil hE1.le
 refine sg0 6 (kOp Y25 [1,0] 0 []) [(0,.bool false)] ?_
 have h1 := Parse_any [112,114,111,116,111,99,111,108,32,118,101,99,116,111,114,59,32,102,97,105,108,117,114,101,115,32,48,59,32,110,111,100,101,32,97,32,49,59,32,108,105,110,107,32,97,32,97,32,49,59] w hG
 rw [awp1] at h1
 refine os0 _ (some 10) (kOp Y25 [1,0] 1 []) (runs_call E27 (h1)) ?_
 rintro _ w1 ⟨q1,rfl,hx1,hP1⟩
 have hE3 := hE1.trans hx1
 have hM4 := hM2.ext hx1
 refine sg0 4 (kOp Y25 [1,0] 5 []) [(0,.bool false),(11,(pv noPlan q1)),(12,iv 43),(13,iv 46)] ?_
 refine os0 (.alloc 29) (some 1) (kOp Y25 [1,0] 6 []) (runs_alloc (z := .agg #[iv 0,iv 0,iv 0,.slice none 0 0,.slice none 0 0,.slice none 0 0,.slice none 0 0]) (by kernel_rfl)) ?_
 rintro _ w2 ⟨b1,rfl,hN5⟩
 have hE6 := hE3.trans hN5.ext
 have hM7 := hM4.new hN5
 refine os0 (.store 29 (pt b1 0) (pv noPlan q1)) none (kOp Y25 [1,0] 7 []) (runs_st (hM7.blk 0 rfl) (by kernel_rfl)) ?_
 rintro _ w3 hC8
 have hE9 := hM7.toExt hE6 hC8 0 rfl
 have hM10 := hM7.set 0 rfl hC8
 refine sg0 5 (kOp Y25 [1,1,0] 0 []) [(0,.bool false),(2,iv 43),(3,iv 46)] ?_
 have h2 := Parse_any [112,114,111,116,111,99,111,108,32,112,97,116,104,32,51,59,32,102,97,105,108,117,114,101,115,32,49,59,32,110,111,100,101,32,98,32,55,59,32,110,111,100,101,32,97,32,57,59,32,108,105,110,107,32,97,32,98,32,50,59,32,100,101,115,116,32,120,32,97,116,32,97,32,98,59,32,99,104,101,99,107,32,101,113,117,97,108,32,97,32,98,32,120,59] w3 (hG.ext hE9)
 rw [awp2] at h2
 refine os0 _ (some 15) (kOp Y25 [1,1,0] 1 []) (runs_call E27 (h2)) ?_
 rintro _ w4 ⟨q2,rfl,hx4,hP2⟩
 have hE11 := hE9.trans hx4
 have hM12 := hM10.ext hx4
 have hF4 := Ext.refl w4
 refine sg0 4 (kOp Y25 [1,1,0] 5 []) [(0,.bool false),(2,iv 43),(3,iv 46),(16,(pv awPar q2)),(17,iv 0),(18,iv 0)] ?_
 refine os0 (.alloc 29) (some 4) (kOp Y25 [1,1,0] 6 []) (runs_alloc (z := .agg #[iv 0,iv 0,iv 0,.slice none 0 0,.slice none 0 0,.slice none 0 0,.slice none 0 0]) (by kernel_rfl)) ?_
 rintro _ w5 ⟨b2,rfl,hN13⟩
 have hl16 := Nat.le_trans hF4.le (Nat.le_of_eq hN13.lo.symm)
 have hE14 := hE11.trans hN13.ext
 have hM15 := hM12.new hN13
 have hv17 := Ext.trans hF4 hN13.ext
 refine os0 (.store 29 (pt b2 0) (pv awPar q2)) none (kOp Y25 [1,1,0] 7 []) (runs_st (hM15.blk 0 rfl) (by kernel_rfl)) ?_
 rintro _ w6 hC18
 have hE19 := hM15.toExt hE14 hC18 0 rfl
 have hM20 := hM15.set 0 rfl hC18
 have hv21 := hC18.ext hv17 hl16
 refine sgz 6 [.ld (pv awPar q2)] (kOp Y25 [1,1,1,0] 1 []) [(0,.bool false),(2,iv 43),(3,iv 46),(5,iv 0),(6,iv 0),(20,(pv awPar q2))] [cl w6 b2 0 (iv awPar.proto),cl w6 b2 1 (iv awPar.cap),cl w6 b2 2 (iv awPar.k),cl w6 b2 3 (.slice q2.a1 awPar.nodes.length q2.c1),cl w6 b2 4 (.slice q2.a2 awPar.links.length q2.c2),cl w6 b2 5 (.slice q2.a3 awPar.dests.length q2.c3),cl w6 b2 6 (.slice q2.a4 awPar.checks.length q2.c4)] (AC (cell_of (hM20.blk 0 rfl) rfl) (AC (cell_of (hM20.blk 0 rfl) rfl) (AC (cell_of (hM20.blk 0 rfl) rfl) (AC (cell_of (hM20.blk 0 rfl) rfl) (AC (cell_of (hM20.blk 0 rfl) rfl) (AC (cell_of (hM20.blk 0 rfl) rfl) (A1 (cell_of (hM20.blk 0 rfl) rfl)))))))) ?_
 have h3 := rPrint_any awPar q2 w6 (hP2.ext hv21)
 rw [awp3] at h3
 refine os0 _ (some 21) (kOp Y25 [1,1,1,0] 2 []) (runs_call E16 (h3)) ?_
 rintro _ w7 ⟨rfl,hx7⟩
 have hE22 := hE19.trans hx7
 have hM23 := hM20.ext hx7
 have hv24 := Ext.trans hv21 hx7
 refine sgz 28 [.exec,.exec,.exec,.exec,.exec,.exec,.exec,.exec] (kAt Y25 (ro1 5 []) []) [(0,.bool true)] [true = true,true = true,true = true,true = true,true = true,true = true,true = true,true = true] (AC rfl (AC rfl (AC rfl (AC rfl (AC rfl (AC rfl (AC rfl (A1 rfl)))))))) ?_
 exact ret1 (.bool true) (⟨rfl,hE22⟩)

end Go.Proofs.YtjhgghpeapmgdaaGreatDoor
/-
  PARSE, PLAIN: what the parser makes of a network's own lines: that very network. No program here.
-/
namespace Go.Bk
open Go

theorem idxI_neg {α : Type} {f : α → Bool} {l : List α} (h : ∀ x ∈ l,f x = false) : idxI f l < 0 := by
 have := idxI_any f l
 rw [List.any_eq_false.2 (fun x hx => by rw [h x hx]; simp)] at this
 simpa using this
section
variable {q p : PPlan} {r : List Tok} {a : Nat}
theorem protocolS_line (hR : RightP p) : protocolS ⟨noPlan,lineToks a (protoW p) ++ r⟩ = .ok ⟨⟨p.proto,p.cap,0,[],[],[],[]⟩,r⟩ := by
 have hc := cap_is hR
 unfold protoW protocolS
 by_cases h : p.proto = 2
 ·simp only [if_pos h,lineToks,List.cons_append,List.nil_append,wt_kw k_protocol,wt_kw k_path,wordS_hit,andE_ok,isS_hit,if_true]
  rw [wt_num (by omega) (by omega),numberS_hit,if_neg (by omega)]
  simp only [andE_ok,stopS_hit,noPlan,h]
 ·have e : isS wdPath ⟨noPlan,wt wdVector (a + wdProtocol.length + 1) :: stopT (a + wdProtocol.length + 1 + wdVector.length) :: r⟩ = false := by
   rw [wt_kw k_vector]; exact isS_other (by decide)
  simp only [if_neg h,lineToks,List.cons_append,List.nil_append,wt_kw k_protocol,wordS_hit,andE_ok]
  rw [e]
  simp only [Bool.false_eq_true,if_false,wt_kw k_vector,wordS_hit,andE_ok,stopS_hit,noPlan]
  have h1 : p.proto = 1 := by omega
  have h2 : p.cap = 0 := by omega
  rw [h1,h2]
theorem failuresS_line {k : Int} (h0 : 0 ≤ k) (h1 : k ≤ 4) : failuresS ⟨q,lineToks a [wdFailures,Lib.itoa k] ++ r⟩ = .ok (⟨2,Lib.itoa k,k,((a + 9 : Nat) : Int)⟩,⟨{ q with k := k },r⟩) := by
 unfold failuresS
 simp only [lineToks,List.cons_append,List.nil_append,wt_kw k_failures,wordS_hit,andE_ok]
 rw [wt_num h0 (by omega),numberS_hit,if_neg (by omega)]
 simp only [andE_ok,stopS_hit]
 rfl
theorem nodeS_line {x : PNode} (h1 : q.nodes.length < 12) (h2 : nameB x.name = true) (h3 : nodeIx q x.name < 0) (h4 : destIx q x.name < 0) (h5 : 1 ≤ x.asn ∧ x.asn ≤ 65535) : nodeS ⟨q,lineToks a (nodeW x) ++ r⟩ = .ok ⟨addNode q x,r⟩ := by
 unfold nodeS nodeW
 simp only [lineToks,List.cons_append,List.nil_append,wt_kw k_node]
 rw [headS_hit,if_neg (by omega)]
 simp only [andE_ok,wt_name h2]
 rw [freshS_hit,if_neg (by rw [name_kw h2]; simp only [Bool.false_eq_true,false_or]; omega)]
 simp only [andE_ok]
 rw [wt_num (by omega) h5.2,numberS_hit,if_neg (by omega)]
 simp only [andE_ok,stopS_hit]
end
theorem manyS_lines {α : Type} {wd : Bytes} {f : PSt → PE PSt} (hf : ∀ s s' : PSt,f s = .ok s' → s'.ts.length < s.ts.length) (enc : α → List Bytes) (add : PPlan → α → PPlan) (Ok : PPlan → List α → Prop)
  (hstep : ∀ q x xs a r,Ok q (x :: xs) → f ⟨q,lineToks a (enc x) ++ r⟩ = .ok ⟨add q x,r⟩ ∧ Ok (add q x) xs) (hwd : ∀ q x a r,isS wd ⟨q,lineToks a (enc x) ++ r⟩ = true) :
  ∀ (xs : List α) (q : PPlan) (a : Nat) (r : List Tok),Ok q xs → manyS wd f ⟨q,linesToks a (xs.map enc) ++ r⟩ = manyS wd f ⟨xs.foldl add q,r⟩
 | [],q,a,r,_ => by simp [linesToks]
 | x :: xs,q,a,r,h => by
  obtain ⟨h1,h2⟩ := hstep q x xs a (linesToks (a + (lineW (enc x)).length) (xs.map enc) ++ r) h
  rw [List.map_cons,linesToks,List.append_assoc,manyS_step hf,if_pos (hwd _ _ _ _),h1,andE_ok,manyS_lines hf enc add Ok hstep hwd xs _ _ _ h2]
  rfl
def NotAt (wd : Bytes) (ts : List Tok) : Prop := ∀ q,isS wd ⟨q,ts⟩ = false
theorem manyS_stop {wd : Bytes} {f : PSt → PE PSt} (hf : ∀ s s' : PSt,f s = .ok s' → s'.ts.length < s.ts.length) {q : PPlan} {ts : List Tok} (h : NotAt wd ts) : manyS wd f ⟨q,ts⟩ = .ok ⟨q,ts⟩ := by
 rw [manyS_step hf,if_neg (by rw [h q]; simp)]
theorem NotAt.end {wd : Bytes} (a : Nat) (r : List Tok) : NotAt wd (endT a :: r) := fun _ => isS_kind (by simp [endT])
theorem lineToks_head (v : Bytes) (l : List Bytes) (a : Nat) (r : List Tok) : ∃ r',lineToks a (v :: l) ++ r = wt v a :: r' := by
 cases l with
 | nil => exact ⟨_,rfl⟩
 | cons u l => exact ⟨_,rfl⟩
theorem isS_line {wd : Bytes} (h : kwB wd = true) (q : PPlan) (l : List Bytes) (a : Nat) (r : List Tok) : isS wd ⟨q,lineToks a (wd :: l) ++ r⟩ = true := by
 obtain ⟨r',e⟩ := lineToks_head wd l a r
 rw [e,wt_kw h]; exact isS_hit
theorem NotAt.line {wd v : Bytes} (h : kwB v = true) (hne : v ≠ wd) (l : List Bytes) (a : Nat) (r : List Tok) : NotAt wd (lineToks a (v :: l) ++ r) := by
 intro q
 obtain ⟨r',e⟩ := lineToks_head v l a r
 rw [e,wt_kw h]; exact isS_other hne
theorem NotAt.lines {wd v : Bytes} (h : kwB v = true) (hne : v ≠ wd) {ls : List (List Bytes)} (hl : ∀ l ∈ ls,∃ l',l = v :: l') (a : Nat) {r : List Tok} (hr : NotAt wd r) : NotAt wd (linesToks a ls ++ r) := by
 cases ls with
 | nil => exact hr
 | cons l ls =>
  obtain ⟨l',rfl⟩ := hl l (by simp)
  rw [linesToks,List.append_assoc]
  exact NotAt.line h hne l' a _
theorem foldl_node : ∀ (xs : List PNode) (q : PPlan),xs.foldl addNode q = { q with nodes := q.nodes ++ xs }
 | [],q => by simp
 | x :: xs,q => by rw [List.foldl_cons,foldl_node xs]; simp [addNode]
structure NodesOk (q : PPlan) (xs : List PNode) : Prop where
 len : q.nodes.length + xs.length ≤ 12
 none : q.dests = []
 name : ∀ x ∈ xs,nameB x.name = true
 nd : ((q.nodes ++ xs).map (·.name)).Nodup
 asn : ∀ x ∈ xs,1 ≤ x.asn ∧ x.asn ≤ 65535
theorem nodes_step (q : PPlan) (x : PNode) (xs : List PNode) (a : Nat) (r : List Tok) (h : NodesOk q (x :: xs)) : nodeS ⟨q,lineToks a (nodeW x) ++ r⟩ = .ok ⟨addNode q x,r⟩ ∧ NodesOk (addNode q x) xs := by
 have hl := h.len
 simp only [List.length_cons] at hl
 refine ⟨nodeS_line (by omega) (h.name x (by simp)) (idxI_neg fun y hy => ?_) (idxI_neg fun y hy => absurd (h.none ▸ hy : y ∈ ([] : List PDest)) (by simp)) (h.asn x (by simp)),?_⟩
 ·have := h.nd
  rw [List.map_append,List.nodup_append] at this
  exact decide_eq_false (this.2.2 _ (List.mem_map_of_mem hy) _ (by simp))
 ·refine ⟨by simp only [addNode,List.length_append,List.length_singleton]; omega,h.none,fun y hy => h.name y (by simp [hy]),?_,fun y hy => h.asn y (by simp [hy])⟩
  have := h.nd
  simpa [addNode] using this
structure LinksOkP (p q : PPlan) (xs : List PLink) : Prop where
 nodes : q.nodes = p.nodes
 len : q.links.length + xs.length ≤ 16
 ok : ∀ x ∈ xs,0 ≤ x.a ∧ x.a < x.b ∧ x.b < p.nodes.length ∧ 1 ≤ x.cost ∧ x.cost ≤ 15
 nd : (linkKeys (q.links ++ xs)).Nodup
structure DestsOk (p q : PPlan) (xs : List PDest) : Prop where
 nodes : q.nodes = p.nodes
 len : q.dests.length + xs.length ≤ 4
 ok : ∀ x ∈ xs,x ∈ p.dests
 nd : ((q.nodes.map (·.name)) ++ ((q.dests ++ xs).map (·.name))).Nodup
structure ChecksOk (p q : PPlan) (xs : List PCheck) : Prop where
 nodes : q.nodes = p.nodes
 dests : q.dests = p.dests
 len : q.checks.length + xs.length ≤ 16
 ok : ∀ x ∈ xs,x ∈ p.checks
def endS (at' : Int) (s : PSt) : PE PSt := andE (takeS 4 s) fun r => if (r.2.p.links.length : Int) < r.2.p.k then .error (42,at') else .ok r.2
def checksE (at' : Int) (s : PSt) : PE PSt := andE (manyS wdCheck checkS s) (endS at')
def destsE (at' : Int) (s : PSt) : PE PSt := andE (manyS wdDest destS s) (checksE at')
def linksE (at' : Int) (s : PSt) : PE PSt := andE (manyS wdLink linkS s) (destsE at')
def nodesE (at' : Int) (s : PSt) : PE PSt := andE (manyS wdNode nodeS s) (linksE at')
theorem allS_eq (s : PSt) : allS s = andE (protocolS s) fun s => andE (failuresS s) fun k => andE (nodeS k.2) (nodesE k.1.at') := rfl
def P1 (p : PPlan) : PPlan := ⟨p.proto,p.cap,p.k,p.nodes,[],[],[]⟩
def lines1 (p : PPlan) : List (List Bytes) := protoW p :: [wdFailures,Lib.itoa p.k] :: p.nodes.map nodeW
def kAt4 (p : PPlan) : Int := (((lineW (protoW p)).length + 9 : Nat) : Int)
theorem allS_1 {p : PPlan} (hR : RightP p) (T : List Tok) : allS ⟨noPlan,linesToks 0 (lines1 p) ++ T⟩ = nodesE (kAt4 p) ⟨P1 p,T⟩ := by
 have h1 := hR.n1
 have h0 := hR.n0
 obtain ⟨x,xs,hx⟩ : ∃ x xs,p.nodes = x :: xs := by
  cases hn : p.nodes with
  | nil => rw [hn] at h0; simp at h0
  | cons x xs => exact ⟨x,xs,rfl⟩
 have hnd := hR.nnd
 unfold namesL at hnd
 rw [List.nodup_append] at hnd
 have hok : NodesOk ⟨p.proto,p.cap,p.k,[],[],[],[]⟩ (x :: xs) := ⟨by rw [← hx]; simpa using h1,rfl,fun y hy => name_node hR (by rw [hx]; exact hy),by rw [← hx]; simpa using hnd.1,fun y hy => hR.asn y (by rw [hx]; exact hy)⟩
 rw [allS_eq]
 unfold lines1
 rw [linesToks,linesToks,List.append_assoc,List.append_assoc,protocolS_line hR,andE_ok,failuresS_line hR.k0 hR.k1,andE_ok,hx,List.map_cons,linesToks,List.append_assoc]
 obtain ⟨s1,s2⟩ := nodes_step _ x xs (0 + (lineW (protoW p)).length + (lineW [wdFailures,Lib.itoa p.k]).length) (linesToks (0 + (lineW (protoW p)).length + (lineW [wdFailures,Lib.itoa p.k]).length + (lineW (nodeW x)).length) (xs.map nodeW) ++ T) hok
 rw [s1,andE_ok]
 unfold nodesE
 rw [manyS_lines nodeS_lt nodeW addNode NodesOk nodes_step (fun q x a r => isS_line k_node q _ a r) xs _ _ _ s2,foldl_node]
 simp only [addNode,P1,hx,List.nil_append,List.singleton_append,kAt4,Nat.zero_add]
theorem nodesE_skip {at' : Int} {q : PPlan} {T : List Tok} (h : NotAt wdNode T) : nodesE at' ⟨q,T⟩ = linksE at' ⟨q,T⟩ := by
 unfold nodesE
 rw [manyS_stop nodeS_lt h,andE_ok]
end Go.Bk
