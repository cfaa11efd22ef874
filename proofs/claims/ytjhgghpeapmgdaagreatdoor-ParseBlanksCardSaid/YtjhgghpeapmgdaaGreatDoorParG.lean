/-
  PARSE: contracts of the deferred function and of Parse.
-/
import Derived.Test.YtjhgghpeapmgdaaGreatDoorMg4
import Derived.Test.YtjhgghpeapmgdaaGreatDoorLexB
import Derived.Test.YtjhgghpeapmgdaaGreatDoorMg2
namespace Go.Proofs.YtjhgghpeapmgdaaGreatDoor
open Go.Bk Go.Proofs

theorem frEq {P : Program} {n : Nat} {ds : List Deferred} {Q : Exit → Act → World → Prop} {k k' : List Fr} {st : St} {w : World} (h : k = k') (hk : G P n ds Q k' st w) : G P n ds Q k st w := h ▸ hk
theorem parAt_new {w w' : World} {bp tc : Nat} {ta : Option Addr} {ts : List Tok} (hN : New w w' bp (.cells #[iv 0,iv 0,iv 0,.slice none 0 0,.slice none 0 0,.slice none 0 0,.slice none 0 0,.slice ta ts.length tc] 100 (0,0))) (hT : Cells w ta (ts.flatMap tokCells)) (hcap : ts.length ≤ tc) (hin : PIn ⟨noPlan,ts⟩) :
    ParAt w w' bp [] ⟨noPlan,ts⟩ ⟨⟨none,0,none,0,none,0,none,0,[]⟩,ta,tc⟩ := by
  have h0 : Hold w w.heap.size [] := Hold.nil (Nat.le_refl _)
  have h1 := ((((h0.new hN).nilRow (e := 67) (size := 5)).nilRow (e := 54) (size := 2)).nilRow (e := 61) (size := 3)).nilRow (e := 52) (size := 2)
  exact ⟨hN.ext,h1.pick 5 [4,0,1,2,3] (by kernel_rfl) (by kernel_rfl),rfl,hT,hcap,hin⟩
theorem wrong_inj {e a e' a' : Int} (h : wrongV e a = wrongV e' a') : e = e' ∧ a = a' := by
  unfold wrongV at h
  simp only [Value.iface.injEq,Value.agg.injEq,true_and] at h
  have h := congrArg Array.toList h
  simp only [List.cons.injEq,Value.int.injEq,true_and,and_true] at h
  exact h
theorem noPlan_at (w : World) : PlanAt w noPlan ⟨none,0,none,0,none,0,none,0,[]⟩ :=
  ⟨.inl rfl,.inl rfl,.inl rfl,rfl,(fun x hx => by cases hx),.inl rfl,⟨Nat.le_refl _,Nat.zero_le _⟩,⟨Nat.le_refl _,Nat.zero_le _⟩,⟨Nat.le_refl _,Nat.zero_le _⟩,⟨Nat.le_refl _,Nat.zero_le _⟩,(fun x hx => by simp [namesL,noPlan] at hx)⟩
theorem parse_err {l : Bytes} {e a : Int} (h0 : (lexT l).2.1 = 0) (h : allS ⟨noPlan,(lexT l).1⟩ = .error (e,a)) : parseT l = (noPlan,e,a) := by
  unfold parseT parseToks
  rw [if_pos h0,h]
theorem parse_ok {l : Bytes} {s : PSt} (h0 : (lexT l).2.1 = 0) (h : allS ⟨noPlan,(lexT l).1⟩ = .ok s) : parseT l = (s.p,0,0) := by
  unfold parseT parseToks
  rw [if_pos h0,h]
theorem parse_lex {l : Bytes} (h0 : ¬ (lexT l).2.1 = 0) : parseT l = (noPlan,(lexT l).2.1,(lexT l).2.2) := by
  unfold parseT parseToks
  rw [if_neg h0]

theorem E27 : Proofs.Enters Tryz.prog 27 := Proofs.enters_of Tryz.func27 (by kernel_rfl) rfl

theorem E62 : Proofs.Enters Tryz.prog 62 := Proofs.enters_of Tryz.func62 (by kernel_rfl) rfl

set_option maxRecDepth 20000 in
theorem parse1_panic (w0 : World) (b2 b3 b4 : Nat) (e0 a0 e a : Int) (w : World) (hE : Ext w0 w) (hM : Hold w w0.heap.size [.blk b2 [iv 0,iv 0,iv 0,.slice none 0 0,.slice none 0 0,.slice none 0 0,.slice none 0 0] 29,.blk b3 [iv e0] 32,.blk b4 [iv a0] 3]) :
    CallsD Tryz.prog 62 [pt b2 0,pt b3 0,pt b4 0].toArray (.panicking [{ v := wrongV e a,recovered := false }]) w fun en u' w' => settle u' = .returning ∧ (∃ v,en = .returned v) ∧ Ext w0 w' ∧ Hold w' w0.heap.size [.blk b2 [iv 0,iv 0,iv 0,.slice none 0 0,.slice none 0 0,.slice none 0 0,.slice none 0 0] 29,.blk b3 [iv e] 32,.blk b4 [iv a] 3] := by
 refine callsD_recover (id := 0) (ops := (opsAt (cAt Y62 [0]))) (rest := cAt Y62 [1]) (o := (opsAt (cAt Y62 [0])).toList.headD default) (os := (opsAt (cAt Y62 [0])).toList.tail) (d := 6) (u1 := (.panicking [{ v := wrongV e a,recovered := true }])) (val := (wrongV e a)) Tryz.func62 (by kernel_rfl) (by kernel_rfl) (by kernel_rfl) (by kernel_rfl) (by kernel_rfl) (Nat.le_of_ble_eq_true (by kernel_rfl)) (Nat.le_of_ble_eq_true (by kernel_rfl)) (fun c cs hc => by simp [recoverD,hc]) (fun u w h => by obtain ⟨_,⟨v,hv⟩,_⟩ := h; cases hv) ?_
 refine frEq (k' := (kOp Y62 [0] 1 [])) (by kernel_rfl) ?_
 refine os0 (.assertT (.iface 96 (.agg #[iv e,iv a])) 20 96 true) (some 7) (kOp Y62 [0] 2 []) (runs_assert_hit Tryz.underlying96) ?_
 rintro _ _ ⟨rfl,rfl⟩
 refine sg0 3 (kOp Y62 [0] 5 []) [(0,pt b2 0),(1,pt b3 0),(2,pt b4 0),(8,.agg #[iv e,iv a]),(9,.bool true)] ?_
 refine os0 (.alloc 96) (some 3) (kOp Y62 [0] 6 []) (runs_alloc (z := .agg #[iv 0,iv 0]) (by kernel_rfl)) ?_
 rintro _ w1 ⟨bt,rfl,hN1⟩
 have hE2 := hE.trans hN1.ext
 have hM3 := hM.new hN1
 refine os0 (.store 96 (pt bt 0) (.agg #[iv e,iv a])) none (kOp Y62 [0] 7 []) (runs_st (hM3.blk 0 rfl) (by kernel_rfl)) ?_
 rintro _ w2 hC4
 have hE5 := hM3.toExt hE2 hC4 0 rfl
 have hM6 := hM3.set 0 rfl hC4
 refine sgz 7 [.exec] (kAt Y62 [1,1,0] []) [(0,pt b2 0),(1,pt b3 0),(2,pt b4 0),(3,pt bt 0)] [true = true] (A1 rfl) ?_
 refine dBegin (k' := []) (id := 2) (m := 8) (ops := opsAt (cAt Y62 [1,1,0])) (fun _ w' => w'.heap[bt]? = some (.cells #[iv e,iv a] 96 (0,0))) (by kernel_rfl) (PQ.body _ _ _) (by kernel_rfl) (by kernel_rfl) ?_
 intro w7 hx8
 have hE9 := hE5.trans hx8
 have hM10 := hM6.ext hx8
 refine dtz [0,1,2,3,4] [.ld (iv e),.ld (iv a)] 3 (lb 8 31) [(0,pt b2 0),(1,pt b3 0),(2,pt b4 0),(11,.agg #[iv 0,iv 0,iv 0,.slice none 0 0,.slice none 0 0,.slice none 0 0,.slice none 0 0]),(13,iv e),(15,iv a)] (fun w' => [cl w' bt 0 (iv e),cl w' bt 1 (iv a)]) (fun w' hS => (AC (cell_of hS rfl) (A1 (cell_of hS rfl)))) ((hM10.blk 0 rfl)) ?_
 refine dAll 5 [] (by kernel_rfl) ?_
 refine dos [] (.store 29 (pt b2 0) (.agg #[iv 0,iv 0,iv 0,.slice none 0 0,.slice none 0 0,.slice none 0 0,.slice none 0 0])) none [] (lb 8 63) trivial (runs_st (hM10.blk 1 rfl) (by kernel_rfl)) ?_
 rintro _ w11 hC12
 have hE13 := hM10.toExt hE9 hC12 1 rfl
 have hM14 := hM10.set 1 rfl hC12
 refine ⟨(hM14.blk 0 rfl),?_⟩
 refine dAll 6 [] (by kernel_rfl) ?_
 refine dos [] (.store 32 (pt b3 0) (iv e)) none [] (lb 8 127) trivial (runs_st (hM14.blk 2 rfl) (by kernel_rfl)) ?_
 rintro _ w15 hC16
 have hE17 := hM14.toExt hE13 hC16 2 rfl
 have hM18 := hM14.set 2 rfl hC16
 refine ⟨(hM18.blk 0 rfl),?_⟩
 refine dAll 7 [] (by kernel_rfl) ?_
 refine dos [] (.store 3 (pt b4 0) (iv a)) none [] (lb 8 255) trivial (runs_st (hM18.blk 3 rfl) (by kernel_rfl)) ?_
 rintro _ w19 hC20
 have hE21 := hM18.toExt hE17 hC20 3 rfl
 have hM22 := hM18.set 3 rfl hC20
 refine ⟨(hM22.blk 0 rfl),?_⟩
 refine dDone (by kernel_rfl) ?_
 have hM23 := hM22.pickT 4 [1,2,3] (by kernel_rfl)
 exact endG (hs := []) (vs := []) (ps := []) (by kernel_rfl) trivial ⟨rfl,⟨_,rfl⟩,hE21,hM23⟩

set_option maxRecDepth 20000 in
theorem parse1_ret (b2 b3 b4 : Nat) (w : World)  :
    CallsD Tryz.prog 62 [pt b2 0,pt b3 0,pt b4 0].toArray .returning w fun en u' w' => settle u' = .returning ∧ (∃ v,en = .returned v) ∧ Ext w w' := by
 refine callsD_recover (id := 0) (ops := (opsAt (cAt Y62 [0]))) (rest := cAt Y62 [1]) (o := (opsAt (cAt Y62 [0])).toList.headD default) (os := (opsAt (cAt Y62 [0])).toList.tail) (d := 6) (u1 := .returning) (val := .nilIface) Tryz.func62 (by kernel_rfl) (by kernel_rfl) (by kernel_rfl) (by kernel_rfl) (by kernel_rfl) (Nat.le_of_ble_eq_true (by kernel_rfl)) (Nat.le_of_ble_eq_true (by kernel_rfl)) (fun c cs hc => by simp [recoverD,hc]) (fun u w h => by obtain ⟨_,⟨v,hv⟩,_⟩ := h; cases hv) ?_
 refine frEq (k' := (kOp Y62 [0] 1 [])) (by kernel_rfl) ?_
 have hE1 : Ext w w := Ext.refl w
 have hM2 : Hold w w.heap.size [] := Hold.nil hE1.le
 refine os0 (.assertT (.nilIface) 20 96 true) (some 7) (kOp Y62 [0] 2 []) (runs_assert_nil (z := .agg #[iv 0,iv 0]) Tryz.underlying96 (by kernel_rfl)) ?_
 rintro _ _ ⟨rfl,rfl⟩
 refine sg0 3 (kOp Y62 [0] 5 []) [(0,pt b2 0),(1,pt b3 0),(2,pt b4 0),(8,.agg #[iv 0,iv 0]),(9,.bool false)] ?_
 refine os0 (.alloc 96) (some 3) (kOp Y62 [0] 6 []) (runs_alloc (z := .agg #[iv 0,iv 0]) (by kernel_rfl)) ?_
 rintro _ w1 ⟨bt,rfl,hN3⟩
 have hE4 := hE1.trans hN3.ext
 have hM5 := hM2.new hN3
 refine os0 (.store 96 (pt bt 0) (.agg #[iv 0,iv 0])) none (kOp Y62 [0] 7 []) (runs_st (hM5.blk 0 rfl) (by kernel_rfl)) ?_
 rintro _ w2 hC6
 have hE7 := hM5.toExt hE4 hC6 0 rfl
 have hM8 := hM5.set 0 rfl hC6
 refine sgs 8 [.skip] [] [] [] [false = false] (A1 rfl) ?_
 exact endG (hs := []) (vs := []) (ps := []) (by kernel_rfl) trivial ⟨rfl,⟨_,rfl⟩,hE7⟩

set_option maxRecDepth 20000 in
set_option maxHeartbeats 1000000 in
theorem Parse_any (l : Bytes) (w : World) (hG : Glob w) :
    Does Tryz.prog 27 [sv l] w (fun v w' => ∃ q : PAd,v = .tuple #[.agg #[iv ((parseT l).1.proto),iv ((parseT l).1.cap),iv ((parseT l).1.k),.slice q.a1 ((parseT l).1.nodes.length) q.c1,.slice q.a2 ((parseT l).1.links.length) q.c2,.slice q.a3 ((parseT l).1.dests.length) q.c3,.slice q.a4 ((parseT l).1.checks.length) q.c4],.int .i64 (parseT l).2.1,.int .i64 (parseT l).2.2] ∧ Ext w w' ∧ PlanAt w' (parseT l).1 q) := by
 refine startDefers (c := Y27) Tryz.func27 rfl (by kernel_rfl) ?_
 show G _ 28 [] _ (kAt Y27 [] []) (stz [(0,sv l)]) w
 have hE1 : Ext w w := Ext.refl w
 have hM2 : Hold w w.heap.size [] := Hold.nil hE1.le
 refine sg0 2 (kOp Y27 [0] 0 []) [(0,sv l)] ?_
 refine os0 (.alloc 29) (some 2) (kOp Y27 [0] 1 []) (runs_alloc (z := .agg #[iv 0,iv 0,iv 0,.slice none 0 0,.slice none 0 0,.slice none 0 0,.slice none 0 0]) (by kernel_rfl)) ?_
 rintro _ w1 ⟨b2,rfl,hN3⟩
 have hE4 := hE1.trans hN3.ext
 have hM5 := hM2.new hN3
 refine os0 (.alloc 32) (some 3) (kOp Y27 [0] 2 []) (runs_alloc (z := iv 0) (by kernel_rfl)) ?_
 rintro _ w2 ⟨b3,rfl,hN6⟩
 have hE7 := hE4.trans hN6.ext
 have hM8 := hM5.new hN6
 refine os0 (.alloc 3) (some 4) (kOp Y27 [0] 3 []) (runs_alloc (z := iv 0) (by kernel_rfl)) ?_
 rintro _ w3 ⟨b4,rfl,hN9⟩
 have hE10 := hE7.trans hN9.ext
 have hM11 := hM8.new hN9
 refine sg0 4 (kOp Y27 [1,0] 1 []) [(2,pt b2 0),(3,pt b3 0),(4,pt b4 0),(8,sv l)] ?_
 refine os0 _ (some 9) (kOp Y27 [1,0] 2 []) (runs_call E28 (Lex_anyC l w3 (hG.ext hE10))) ?_
 rintro _ w4 ⟨_,rfl,⟨la,lc,rfl,_⟩,hx,hro⟩
 have hE12 := hE10.trans hx
 have hM13 := hM11.ext hx
 have hM4 := hM11.addRow hx hro
 refine sg0 5 (kOp Y27 [1,0] 7 []) [(2,pt b2 0),(3,pt b3 0),(4,pt b4 0),(5,.slice la ((lexT l).1.length) lc),(11,iv ((lexT l).2.1)),(12,iv ((lexT l).2.2))] ?_
 refine os0 (.store 32 (pt b3 0) (iv ((lexT l).2.1))) none (kOp Y27 [1,0] 8 []) (runs_st (hM4.blk 1 rfl) (by kernel_rfl)) ?_
 rintro _ w5 hC14
 have hE15 := hM4.toExt hE12 hC14 1 rfl
 have hM16 := hM4.set 1 rfl hC14
 refine os0 (.store 3 (pt b4 0) (iv ((lexT l).2.2))) none (kOp Y27 [1,0] 9 []) (runs_st (hM16.blk 0 rfl) (by kernel_rfl)) ?_
 rintro _ w6 hC17
 have hE18 := hM16.toExt hE15 hC17 0 rfl
 have hM19 := hM16.set 0 rfl hC17
 refine sgz 7 [.ld (iv ((lexT l).2.1))] (kAt Y27 [1,1,0,1] []) [(2,pt b2 0),(3,pt b3 0),(4,pt b4 0),(5,.slice la ((lexT l).1.length) lc),(14,.bool (!(decide ((lexT l).2.1 = (0 : Int)))))] [cl w6 b3 0 (iv ((lexT l).2.1))] (A1 (cell_of (hM19.blk 1 rfl) rfl)) ?_
 refine brk _ (¬ ((lexT l).2.1 = (0 : Int))) ((iffNot iffDec)) (fun h0 => ?_) (fun h0 => ?_)
 ·refine frk (kAt Y27 [1,1,0,1,0] []) ?_
  refine gMono body_bodyD ?_
  refine sg0 1 (kAt Y27 [1,1,0,1,0,0] []) [(2,pt b2 0),(3,pt b3 0),(4,pt b4 0),(5,.slice la ((lexT l).1.length) lc)] ?_
  refine dBegin (k' := (kAt Y27 [1,1,0,1,0,1] [])) (id := 3) (m := 6) (ops := opsAt (cAt Y27 [1,1,0,1,0,0])) (fun _ w' => w'.heap[b2]? = some (.cells #[iv 0,iv 0,iv 0,.slice none 0 0,.slice none 0 0,.slice none 0 0,.slice none 0 0] 29 (0,0)) ∧ w'.heap[b3]? = some (.cells #[iv ((lexT l).2.1)] 32 (0,0)) ∧ w'.heap[b4]? = some (.cells #[iv ((lexT l).2.2)] 3 (0,0))) (by kernel_rfl) (PQ.body _ _ _) (by kernel_rfl) (by kernel_rfl) ?_
  intro w20 hx21
  have hE22 := hE18.trans hx21
  have hM23 := hM19.ext hx21
  refine dtz [0,1,2] [.ld (.agg #[iv 0,iv 0,iv 0,.slice none 0 0,.slice none 0 0,.slice none 0 0,.slice none 0 0]),.ld (iv ((lexT l).2.1)),.ld (iv ((lexT l).2.2))] 3 (lb 6 7) [(2,pt b2 0),(3,pt b3 0),(4,pt b4 0),(5,.slice la ((lexT l).1.length) lc),(15,.agg #[iv 0,iv 0,iv 0,.slice none 0 0,.slice none 0 0,.slice none 0 0,.slice none 0 0]),(16,iv ((lexT l).2.1)),(17,iv ((lexT l).2.2))] (fun w' => [cl w' b2 0 (iv 0),cl w' b2 1 (iv 0),cl w' b2 2 (iv 0),cl w' b2 3 (.slice none 0 0),cl w' b2 4 (.slice none 0 0),cl w' b2 5 (.slice none 0 0),cl w' b2 6 (.slice none 0 0),cl w' b3 0 (iv ((lexT l).2.1)),cl w' b4 0 (iv ((lexT l).2.2))]) (fun w' hS => (AC (cell_of hS.1 rfl) (AC (cell_of hS.1 rfl) (AC (cell_of hS.1 rfl) (AC (cell_of hS.1 rfl) (AC (cell_of hS.1 rfl) (AC (cell_of hS.1 rfl) (AC (cell_of hS.1 rfl) (AC (cell_of hS.2.1 rfl) (A1 (cell_of hS.2.2 rfl))))))))))) (⟨(hM23.blk 2 rfl),(hM23.blk 1 rfl),(hM23.blk 0 rfl)⟩) ?_
  refine dAll 3 [] (by kernel_rfl) ?_
  refine dos [] (.store 29 (pt b2 0) (.agg #[iv 0,iv 0,iv 0,.slice none 0 0,.slice none 0 0,.slice none 0 0,.slice none 0 0])) none [] (lb 6 15) trivial (runs_st (hM23.blk 2 rfl) (by kernel_rfl)) ?_
  rintro _ w24 hC25
  have hE26 := hM23.toExt hE22 hC25 2 rfl
  have hM27 := hM23.set 2 rfl hC25
  refine ⟨⟨(hM27.blk 2 rfl),(hM27.blk 1 rfl),(hM27.blk 0 rfl)⟩,?_⟩
  refine dAll 4 [] (by kernel_rfl) ?_
  refine dos [] (.store 32 (pt b3 0) (iv ((lexT l).2.1))) none [] (lb 6 31) trivial (runs_st (hM27.blk 1 rfl) (by kernel_rfl)) ?_
  rintro _ w28 hC29
  have hE30 := hM27.toExt hE26 hC29 1 rfl
  have hM31 := hM27.set 1 rfl hC29
  refine ⟨⟨(hM31.blk 2 rfl),(hM31.blk 1 rfl),(hM31.blk 0 rfl)⟩,?_⟩
  refine dAll 5 [] (by kernel_rfl) ?_
  refine dos [] (.store 3 (pt b4 0) (iv ((lexT l).2.2))) none [] (lb 6 63) trivial (runs_st (hM31.blk 0 rfl) (by kernel_rfl)) ?_
  rintro _ w32 hC33
  have hE34 := hM31.toExt hE30 hC33 0 rfl
  have hM35 := hM31.set 0 rfl hC33
  refine ⟨⟨(hM35.blk 2 rfl),(hM35.blk 1 rfl),(hM35.blk 0 rfl)⟩,?_⟩
  refine dDone (by kernel_rfl) ?_
  exact retG (hs := [.agg #[iv 0,iv 0,iv 0,.slice none 0 0,.slice none 0 0,.slice none 0 0,.slice none 0 0],iv ((lexT l).2.1),iv ((lexT l).2.2)]) (vs := [.agg #[iv 0,iv 0,iv 0,.slice none 0 0,.slice none 0 0,.slice none 0 0,.slice none 0 0],iv ((lexT l).2.1),iv ((lexT l).2.2)]) (ps := [w32.cell? ⟨b2,0,none⟩ = some (iv 0),w32.cell? ⟨b2,1,none⟩ = some (iv 0),w32.cell? ⟨b2,2,none⟩ = some (iv 0),w32.cell? ⟨b2,3,none⟩ = some (.slice none 0 0),w32.cell? ⟨b2,4,none⟩ = some (.slice none 0 0),w32.cell? ⟨b2,5,none⟩ = some (.slice none 0 0),w32.cell? ⟨b2,6,none⟩ = some (.slice none 0 0),w32.cell? ⟨b3,0,none⟩ = some (iv ((lexT l).2.1)),w32.cell? ⟨b4,0,none⟩ = some (iv ((lexT l).2.2))]) (by kernel_rfl) (AC (cell_of (hM35.blk 2 rfl) rfl) (AC (cell_of (hM35.blk 2 rfl) rfl) (AC (cell_of (hM35.blk 2 rfl) rfl) (AC (cell_of (hM35.blk 2 rfl) rfl) (AC (cell_of (hM35.blk 2 rfl) rfl) (AC (cell_of (hM35.blk 2 rfl) rfl) (AC (cell_of (hM35.blk 2 rfl) rfl) (AC (cell_of (hM35.blk 1 rfl) rfl) (A1 (cell_of (hM35.blk 0 rfl) rfl)))))))))) ⟨_,rfl,⟨none,0,none,0,none,0,none,0,[]⟩,by rw [parse_lex h0]; rfl,hE34,by rw [parse_lex h0]; exact noPlan_at _⟩
 have h0 : (lexT l).2.1 = 0 := Classical.not_not.1 h0
 refine sg0 4 (kOp Y27 [1,1,1,0] 1 []) [(2,pt b2 0),(3,pt b3 0),(4,pt b4 0),(5,.slice la ((lexT l).1.length) lc),(18,.func (.func 62) #[] #[pt b2 0,pt b3 0,pt b4 0])] ?_
 refine opDefer (fv := .func 62) (cap := #[pt b2 0,pt b3 0,pt b4 0]) (k' := (kOp Y27 [1,1,1,0] 2 [])) (ps := []) (by kernel_rfl) trivial ?_
 refine sg0 5 (kOp Y27 (ro1 4 [0]) 2 []) [(2,pt b2 0),(3,pt b3 0),(4,pt b4 0),(20,.agg #[iv 0,iv 0,iv 0,.slice none 0 0,.slice none 0 0,.slice none 0 0,.slice none 0 0,.slice la ((lexT l).1.length) lc])] ?_
 refine os0 (.box 100 (.agg #[iv 0,iv 0,iv 0,.slice none 0 0,.slice none 0 0,.slice none 0 0,.slice none 0 0,.slice la ((lexT l).1.length) lc])) (some 21) (kOp Y27 (ro1 4 [0]) 3 []) (runs_box _ _) ?_
 rintro _ w7 ⟨bp,rfl,hN⟩
 have hTz := row_atP (hM19.row 3 rfl)
 have hA := parAt_new hN hTz.1 hTz.2 (lexT_in h0)
 have hE7 := hE18.trans hN.ext
 have hM7 := hM19.ext hN.ext
 refine sg0 5 (kOp Y27 (ro1 5 [0]) 1 []) [(2,pt b2 0),(3,pt b3 0),(4,pt b4 0),(6,pt bp 0),(22,pt bp 0)] ?_
 refine callDefer (e := .call 63 [pt bp 0]) (dd := (some 23)) (k' := (kOp Y27 (ro1 5 [0]) 2 [])) (ps := []) (hs := []) (Ψ := (fun x w2 => ∃ e a,x = wrongV e a ∧ Ext w w2 ∧ Hold w2 w.heap.size [.blk b2 [iv 0,iv 0,iv 0,.slice none 0 0,.slice none 0 0,.slice none 0 0,.slice none 0 0] 29,.blk b3 [iv e] 32,.blk b4 [iv a] 3])) (by kernel_rfl) trivial (runs_callP E63 (all_any w6 bp [] ⟨noPlan,(lexT l).1⟩ _ w7 hA)) E62 (fun x w' hx => ?_) (fun x w' w2 hx hy => ?_) ?_
 ·obtain ⟨e,a,_,rfl,hEx⟩ := hx
  refine (parse1_panic w b2 b3 b4 (lexT l).2.1 (lexT l).2.2 e a w' (hE18.trans hEx) ((hM19.ext hEx).pick 4 [2,1,0] (by kernel_rfl) (by kernel_rfl))).mono ?_
  rintro en u w2 ⟨h1,h2,h3,h4⟩
  exact ⟨h1,h2,e,a,rfl,h3,h4⟩
 ·obtain ⟨e,a,he,rfl,_⟩ := hx
  obtain ⟨e2,a2,h1,hE9,hH⟩ := hy
  obtain ⟨rfl,rfl⟩ := wrong_inj h1
  exact ⟨[.agg #[iv 0,iv 0,iv 0,.slice none 0 0,.slice none 0 0,.slice none 0 0,.slice none 0 0],iv e,iv a],[.agg #[iv 0,iv 0,iv 0,.slice none 0 0,.slice none 0 0,.slice none 0 0,.slice none 0 0],iv e,iv a],[w2.cell? ⟨b2,0,none⟩ = some (iv 0),w2.cell? ⟨b2,1,none⟩ = some (iv 0),w2.cell? ⟨b2,2,none⟩ = some (iv 0),w2.cell? ⟨b2,3,none⟩ = some (.slice none 0 0),w2.cell? ⟨b2,4,none⟩ = some (.slice none 0 0),w2.cell? ⟨b2,5,none⟩ = some (.slice none 0 0),w2.cell? ⟨b2,6,none⟩ = some (.slice none 0 0),w2.cell? ⟨b3,0,none⟩ = some (iv e),w2.cell? ⟨b4,0,none⟩ = some (iv a)],by kernel_rfl,(AC (cell_of (hH.blk 0 rfl) rfl) (AC (cell_of (hH.blk 0 rfl) rfl) (AC (cell_of (hH.blk 0 rfl) rfl) (AC (cell_of (hH.blk 0 rfl) rfl) (AC (cell_of (hH.blk 0 rfl) rfl) (AC (cell_of (hH.blk 0 rfl) rfl) (AC (cell_of (hH.blk 0 rfl) rfl) (AC (cell_of (hH.blk 1 rfl) rfl) (A1 (cell_of (hH.blk 2 rfl) rfl)))))))))),_,rfl,⟨none,0,none,0,none,0,none,0,[]⟩,by rw [parse_err h0 he]; rfl,hE9,by rw [parse_err h0 he]; exact noPlan_at _⟩
 rintro _ w8 ⟨s1,m1,hs1,rfl,hA1⟩
 have hE8 := hE18.trans hA1.ext
 have hM8 := (hM19.join hA1.ext hA1.hold)
 refine sgz 7 [.ld (pv s1.p m1.q)] (kOp Y27 (ro1 6 [0]) 4 []) [(2,pt b2 0),(3,pt b3 0),(4,pt b4 0),(27,(pv s1.p m1.q))] [cl w8 bp 0 (iv s1.p.proto),cl w8 bp 1 (iv s1.p.cap),cl w8 bp 2 (iv s1.p.k),cl w8 bp 3 (.slice m1.q.a1 s1.p.nodes.length m1.q.c1),cl w8 bp 4 (.slice m1.q.a2 s1.p.links.length m1.q.c2),cl w8 bp 5 (.slice m1.q.a3 s1.p.dests.length m1.q.c3),cl w8 bp 6 (.slice m1.q.a4 s1.p.checks.length m1.q.c4)] (AC (cell_of (hM8.blk 4 rfl) rfl) (AC (cell_of (hM8.blk 4 rfl) rfl) (AC (cell_of (hM8.blk 4 rfl) rfl) (AC (cell_of (hM8.blk 4 rfl) rfl) (AC (cell_of (hM8.blk 4 rfl) rfl) (AC (cell_of (hM8.blk 4 rfl) rfl) (A1 (cell_of (hM8.blk 4 rfl) rfl)))))))) ?_
 refine os0 (.store 29 (pt b2 0) (pv s1.p m1.q)) none (kOp Y27 (ro1 6 [0]) 5 []) (runs_st (hM8.blk 2 rfl) (by kernel_rfl)) ?_
 rintro _ w36 hC37
 have hE38 := hM8.toExt hE8 hC37 2 rfl
 have hM39 := hM8.set 2 rfl hC37
 refine os0 (.store 32 (pt b3 0) (iv 0)) none (kOp Y27 (ro1 6 [0]) 6 []) (runs_st (hM39.blk 1 rfl) (by kernel_rfl)) ?_
 rintro _ w40 hC41
 have hE42 := hM39.toExt hE38 hC41 1 rfl
 have hM43 := hM39.set 1 rfl hC41
 refine os0 (.store 3 (pt b4 0) (iv 0)) none (kOp Y27 (ro1 6 [0]) 7 []) (runs_st (hM43.blk 0 rfl) (by kernel_rfl)) ?_
 rintro _ w44 hC45
 have hE46 := hM43.toExt hE42 hC45 0 rfl
 have hM47 := hM43.set 0 rfl hC45
 refine sg0 1 (kAt Y27 (ro1 7 []) []) [(2,pt b2 0),(3,pt b3 0),(4,pt b4 0)] ?_
 have hP : PlanAt w44 s1.p m1.q := plan_of_hold (bp := bp) (X := []) (s := s1) (m := m1) (hM47.pick 9 [4,5,6,7,8] (by kernel_rfl) (by kernel_rfl)) hA1.deq hA1.inv
 have h_b2 := (hM47.blk 2 rfl)
 have h_b3 := (hM47.blk 1 rfl)
 have h_b4 := (hM47.blk 0 rfl)
 refine retDefer (cap := [pt b2 0,pt b3 0,pt b4 0]) E62 (parse1_ret b2 b3 b4 w44) (fun w2 hX => ?_)
 exact ⟨[(pv s1.p m1.q),iv 0,iv 0],[(pv s1.p m1.q),iv 0,iv 0],[w2.cell? ⟨b2,0,none⟩ = some (iv s1.p.proto),w2.cell? ⟨b2,1,none⟩ = some (iv s1.p.cap),w2.cell? ⟨b2,2,none⟩ = some (iv s1.p.k),w2.cell? ⟨b2,3,none⟩ = some (.slice m1.q.a1 s1.p.nodes.length m1.q.c1),w2.cell? ⟨b2,4,none⟩ = some (.slice m1.q.a2 s1.p.links.length m1.q.c2),w2.cell? ⟨b2,5,none⟩ = some (.slice m1.q.a3 s1.p.dests.length m1.q.c3),w2.cell? ⟨b2,6,none⟩ = some (.slice m1.q.a4 s1.p.checks.length m1.q.c4),w2.cell? ⟨b3,0,none⟩ = some (iv 0),w2.cell? ⟨b4,0,none⟩ = some (iv 0)],by kernel_rfl,(AC (hX.cell (cell_of h_b2 rfl)) (AC (hX.cell (cell_of h_b2 rfl)) (AC (hX.cell (cell_of h_b2 rfl)) (AC (hX.cell (cell_of h_b2 rfl)) (AC (hX.cell (cell_of h_b2 rfl)) (AC (hX.cell (cell_of h_b2 rfl)) (AC (hX.cell (cell_of h_b2 rfl)) (AC (hX.cell (cell_of h_b3 rfl)) (A1 (hX.cell (cell_of h_b4 rfl))))))))))),_,rfl,m1.q,by rw [parse_ok h0 hs1]; rfl,hE46.trans hX,by rw [parse_ok h0 hs1]; exact hP.ext hX⟩

end Go.Proofs.YtjhgghpeapmgdaaGreatDoor
