/-
  PlanWrong: FOR EVERY INPUT THE CALL RETURNS true; EACH ARGUMENT READS AS BEFORE: the tied card of the law, out of its walk. Conditions: none beyond the given card's own (the listed variables start as the program's text lays them).
-/
import Derived.Test.YtedojnihfnkmmaaDoorCards
import Derived.Test.YtedojnihfnkmmaaDoorTie
import Derived.Test.YtedojnihfnkmmaaDoorCard
import Derived.Test.YtedojnihfnkmmaaDoorPlanWr
import Derived.Lay
import Derived.Deep.DeepWitnessRowRef
namespace Go.Proofs.YtedojnihfnkmmaaDoor.planWrong
open Go Go.Bk Go.ChangeShapes Go.WideShapes Go.ChangeAt Go.RowKit Go.ChangeMaps
set_option maxRecDepth 100000
theorem own : ownKnob Tryd.prog.godebug = none := by kernel_rfl
theorem laidOut : laidOutB Tryd.prog = true := by kernel_rfl
theorem reads_ok : readsB Tryd.prog Tryd.f5.params.toList = true := by kernel_rfl
theorem glob {W : World} (h : laidMetH Tryd.prog Rows.planWrongRow.laid W) : Glob W := by
  have h' : laidMet Tryd.prog Rows.planWrongRow.laid W := h
  exact ⟨laid_table (g := 1) 2 h' (by kernel_rfl) (by kernel_rfl) (by kernel_rfl) Tryd.underlying138 Tryd.underlying122 (by kernel_rfl) (by kernel_rfl)⟩
theorem contract (H : Type) (enc : TypeId × Value → H) (W : World) (base : Nat) (args : Array Value) (ds gs : List (DataW H)) (before : List MemPlace)
    (hval : ∀ (j : Nat) t v, Tryd.f5.params[j]? = some t → args[j]? = some v → Value.okWide Tryd.prog W .any base t v)
    (hW : DataW.Whole enc Tryd.prog Tryd.f5.params.toList Rows.planWrongSpec.vars false W args.toList ds gs before)
    (hz : (DataW.weightsEach Tryd.prog (Tryd.f5.params.toList ++ (OpenSpec.ofChange Rows.planWrongSpec).bare.plain.varTypes Tryd.prog) (ds ++ gs)).all (· ≤ reachBytes) = true) (hL : laidMetH Tryd.prog Rows.planWrongRow.laid W) :
    Calls Tryd.prog 5 args W fun e W' => ∃ v, e = .returned v ∧ Rows.planWrongSpec.post enc Tryd.prog Tryd.f5 false true false false W args v W' := by
  have hW' := hW
  obtain ⟨p, q, hA0, hV, rfl, hfz, hnd⟩ := hW
  have hA : DataW.TrodAll enc Tryd.prog W 0 (fun _ => true) true Tryd.f5.params.toList args.toList ds p := hA0
  rw [Tryd.params5] at hA hval hz
  obtain ⟨v0, vs0, d0, ds0, p0, q0, hargs, rfl, rfl, h0, r0⟩ := trodAll_cons hA
  obtain ⟨v1, vs1, d1, ds1, p1, q1, rfl, rfl, rfl, h1, r1⟩ := trodAll_cons r0
  obtain ⟨v2, vs2, d2, ds2, p2, q2, rfl, rfl, rfl, h2, r2⟩ := trodAll_cons r1
  obtain ⟨rfl, rfl, rfl⟩ := trodAll_nil r2
  obtain rfl : args = #[v0, v1, v2] := by cases args; simp_all
  obtain ⟨rfl, rfl⟩ := trodVars_none hV
  have hG : Glob W := glob hL
  obtain ⟨a0, c0, xs0, rfl, hc0, hw0, hm0, hsz0, hnil0, hcap0⟩ := open_intsC Tryd.underlying22 Tryd.underlying3 (by kernel_rfl) (hval 0 22 v0 rfl rfl) h0
  obtain ⟨n1, rfl, rfl, rfl, hw1⟩ := open_int Tryd.underlying3 (hval 1 3 v1 rfl rfl) h1
  have hw1 := wf_i64 hw1
  obtain ⟨n2, rfl, rfl, rfl, hw2⟩ := open_int Tryd.underlying3 (hval 2 3 v2 rfl rfl) h2
  have hw2 := wf_i64 hw2
  have hlen0 : xs0.length ≤ 140737488351232 := weight_slice 0 hz rfl rfl Tryd.underlying22 (by kernel_rfl) hsz0 hnil0 (trod_slice_form Tryd.underlying22 h0)
  have walk : Does Tryd.prog 5 [.slice a0 xs0.length c0, .int .i64 n1, .int .i64 n2] W fun v w' => v = .bool true ∧ Ext W w' := PlanWrong_any xs0 a0 c0 n1 n2 W hG hc0 hw0 hcap0 hw1.1 hw1.2 hw2.1 hw2.2
  refine Calls.mono walk ?_
  rintro e W1 ⟨_, rfl, rfl, hE⟩
  exact ⟨_, rfl, post_true laidOut reads_ok (by kernel_rfl) Tryd.underlying4 rfl rfl hW' hE⟩
theorem laid_met (os : Os) : laidMet Tryd.prog Rows.planWrongRow.laid ((World.laidAll Tryd.prog os Rows.planWrongRow.laid).forCall (fun _ _ => 0) ⟨#[], #[Value.slice none 0 0, Value.int .i64 0, Value.int .i64 0], []⟩).memory :=
  laidMet_laidAll #[Value.slice none 0 0, Value.int .i64 0, Value.int .i64 0] (by kernel_rfl) (by kernel_rfl)
theorem reads (os : Os) {H : Type} (enc : TypeId × Value → H) : ∃ places, DataW.whole enc Tryd.prog ((World.laidAll Tryd.prog os Rows.planWrongRow.laid).forCall (fun _ _ => 0) ⟨#[], #[Value.slice none 0 0, Value.int .i64 0, Value.int .i64 0], []⟩).memory Tryd.f5.params.toList Rows.planWrongSpec.vars false [Value.slice none 0 0, Value.int .i64 0, Value.int .i64 0] 8 = some ([.nil, .lit (.int .i64 0), .lit (.int .i64 0)], [], places) :=
  ⟨[], by kernel_rfl⟩
set_option maxRecDepth 100000 in
theorem lifted (os : Os) (started : os.Started) (H : Type) (enc : TypeId × Value → H) (F : Stop.Interp) :
    ReturnsInHanded {} Tryd.checked os 5 .any ((OpenSpec.ofChange Rows.planWrongSpec).preRow enc Tryd.prog Tryd.f5 Rows.planWrongRow.domain false Rows.planWrongRow.laid) (((OpenSpec.ofChange Rows.planWrongSpec).at F).post enc Tryd.prog Tryd.f5 false true false false) := by
  obtain ⟨places, hx⟩ := reads os enc
  refine returnsInHanded_of_row (C := Tryd.checked) (s := OpenSpec.ofChange Rows.planWrongSpec) own started (by kernel_rfl) Tryd.func5
    (witness_row_atRef (enc := enc) (C := Tryd.checked) false (World.laidAll Tryd.prog os Rows.planWrongRow.laid) #[Value.slice none 0 0, Value.int .i64 0, Value.int .i64 0] (World.laidAll_os _ _ _) (by kernel_rfl) (by kernel_rfl) (by kernel_rfl)
      (OpenSpec.preRow_of_cond 8 hx (by kernel_rfl) (fun k hk => by cases hk) (by kernel_rfl) (laid_met os))) ?_
  intro W base args ds gs before hval hW _ _ hz hL _ _
  exact contract H enc W base args ds gs before hval hW hz hL
theorem said : Rows.PlanWrongSaid :=
  OpenClaim.holds_of_cond 5 Tryd.f5 rfl rfl rfl rfl rfl rfl rfl ⟨rfl, rfl, rfl, rfl, rfl⟩ rfl rfl rfl rfl rfl (by kernel_rfl) Tryd.func5 (by kernel_rfl)
    (of_decide_eq_true (by kernel_rfl)) (by unfold Func.isWrapper; first | (rw [if_pos (by decide +kernel)]; kernel_rfl) | (rw [if_neg (by decide +kernel)]; exact ⟨rfl, rfl⟩))
    (fun os started H enc _ F => by rw [OpenClaim.pre_eq_preRow]; exact lifted os started H enc F)
theorem plain (f : FuncId) (fn : Func) (hf : Tryd.pinned.checked.prog.funcNamed "backstay/backstaylaw03.PlanWrong" = some f) (hfn : Tryd.pinned.checked.prog.funcs[f]? = some fn) :
    false = Tryd.pinned.checked.prog.looks [] ∧ ∀ (j : Nat) t, fn.params[j]? = some t → Tryd.pinned.checked.prog.wantsStandIn t = false := by
  obtain rfl : f = 5 := Option.some.inj ((show Tryd.prog.funcNamed "backstay/backstaylaw03.PlanWrong" = some 5 by kernel_rfl).symm.trans hf) |>.symm
  obtain rfl : fn = Tryd.f5 := (Option.some.inj (Tryd.func5.symm.trans hfn)).symm
  refine ⟨by kernel_rfl, fun j t ht => ?_⟩
  rw [Tryd.params5] at ht
  have hm := Array.mem_of_getElem? ht
  simp only [List.mem_toArray, List.mem_cons, List.not_mem_nil, or_false] at hm
  rcases hm with rfl | rfl | rfl
  · exact (show Tryd.prog.wantsStandIn 22 = false by kernel_rfl)
  · exact (show Tryd.prog.wantsStandIn 3 = false by kernel_rfl)
  · exact (show Tryd.prog.wantsStandIn 3 = false by kernel_rfl)
/-- The card. -/
theorem card : Rows.PlanWrongCardSaid :=
  Claim7.holds_tied_plain_at .later [] _ _ _ _ said (fun _ h => by cases h) (by kernel_rfl) (fun _ h => by cases h) planWrong_row_tie rfl ⟨rfl, rfl⟩ (by kernel_rfl) rfl plain (by kernel_rfl)
end Go.Proofs.YtedojnihfnkmmaaDoor.planWrong
