/-
  PlanTells: FOR EVERY INPUT THE CALL RETURNS true; EACH ARGUMENT READS AS BEFORE: the tied card of the law, out of its walk. Conditions: none beyond the given card's own (the listed variables start as the program's text lays them).
-/
import Derived.Test.YtcbclephakfemaaGreatRRRDoorCards
import Derived.Test.YtcbclephakfemaaGreatRRRDoorTie
import Derived.Test.YtcbclephakfemaaGreatRRRDoorCard
import Derived.Test.YtcbclephakfemaaGreatRRRDoorPlanTe
import Derived.Lay
import Derived.Deep.DeepWitnessRowRef
namespace Go.Proofs.YtcbclephakfemaaGreatRRRDoor.planTells
open Go Go.Bk Go.ChangeShapes Go.WideShapes Go.ChangeAt Go.RowKit Go.ChangeMaps
set_option maxRecDepth 100000
theorem own : ownKnob Tryz.prog.godebug = none := by kernel_rfl
theorem laidOut : laidOutB Tryz.prog = true := by kernel_rfl
theorem reads_ok : readsB Tryz.prog Tryz.f3.params.toList = true := by kernel_rfl
theorem glob {W : World} (h : laidMetH Tryz.prog Rows.planTellsRow.laid W) : Glob W := by
  have h' : laidMet Tryz.prog Rows.planTellsRow.laid W := h
  exact ⟨laid_table (g := 1) 2 h' (by kernel_rfl) (by kernel_rfl) (by kernel_rfl) Tryz.underlying138 Tryz.underlying122 (by kernel_rfl) (by kernel_rfl)⟩
theorem contract (H : Type) (enc : TypeId × Value → H) (W : World) (base : Nat) (args : Array Value) (ds gs : List (DataW H)) (before : List MemPlace)
    (hval : ∀ (j : Nat) t v, Tryz.f3.params[j]? = some t → args[j]? = some v → Value.okWide Tryz.prog W .any base t v)
    (hW : DataW.Whole enc Tryz.prog Tryz.f3.params.toList Rows.planTellsSpec.vars false W args.toList ds gs before)
    (hz : (DataW.weightsEach Tryz.prog (Tryz.f3.params.toList ++ (OpenSpec.ofChange Rows.planTellsSpec).bare.plain.varTypes Tryz.prog) (ds ++ gs)).all (· ≤ reachBytes) = true) (hL : laidMetH Tryz.prog Rows.planTellsRow.laid W) :
    Calls Tryz.prog 3 args W fun e W' => ∃ v, e = .returned v ∧ Rows.planTellsSpec.post enc Tryz.prog Tryz.f3 false true false false W args v W' := by
  have hW' := hW
  obtain ⟨p, q, hA0, hV, rfl, hfz, hnd⟩ := hW
  have hA : DataW.TrodAll enc Tryz.prog W 0 (fun _ => true) true Tryz.f3.params.toList args.toList ds p := hA0
  rw [Tryz.params3] at hA hval hz
  obtain ⟨v0, vs0, d0, ds0, p0, q0, hargs, rfl, rfl, h0, r0⟩ := trodAll_cons hA
  obtain ⟨v1, vs1, d1, ds1, p1, q1, rfl, rfl, rfl, h1, r1⟩ := trodAll_cons r0
  obtain ⟨v2, vs2, d2, ds2, p2, q2, rfl, rfl, rfl, h2, r2⟩ := trodAll_cons r1
  obtain ⟨rfl, rfl, rfl⟩ := trodAll_nil r2
  obtain rfl : args = #[v0, v1, v2] := by cases args; simp_all
  obtain ⟨rfl, rfl⟩ := trodVars_none hV
  have hG : Glob W := glob hL
  obtain ⟨a0, c0, xs0, rfl, hc0, hw0, hm0, hsz0, hnil0, hcap0⟩ := open_intsC Tryz.underlying22 Tryz.underlying3 (by kernel_rfl) (hval 0 22 v0 rfl rfl) h0
  obtain ⟨a1, c1, xs1, rfl, hc1, hw1, hm1, hsz1, hnil1, hcap1⟩ := open_intsC Tryz.underlying22 Tryz.underlying3 (by kernel_rfl) (hval 1 22 v1 rfl rfl) h1
  obtain ⟨s2, rfl, rfl, rfl, hs2⟩ := open_string Tryz.underlying9 (hval 2 9 v2 rfl rfl) h2
  have hlen0 : xs0.length ≤ 140737488351232 := weight_slice 0 hz rfl rfl Tryz.underlying22 (by kernel_rfl) hsz0 hnil0 (trod_slice_form Tryz.underlying22 h0)
  have hlen1 : xs1.length ≤ 140737488351232 := weight_slice 1 hz rfl rfl Tryz.underlying22 (by kernel_rfl) hsz1 hnil1 (trod_slice_form Tryz.underlying22 h1)
  have hlen2 : s2.data.toList.length ≤ 140737488351232 := weight_string 2 hz rfl rfl
  have walk : Does Tryz.prog 3 [.slice a0 xs0.length c0, .slice a1 xs1.length c1, .string (bs s2.data.toList)] W fun v w' => v = .bool true ∧ Ext W w' := PlanTells_any xs0 xs1 a0 a1 c0 c1 s2.data.toList W hG hc0 hc1 hw0 hw1 hcap0 hcap1 hlen2
  refine Calls.mono walk ?_
  rintro e W1 ⟨_, rfl, rfl, hE⟩
  exact ⟨_, rfl, post_true laidOut reads_ok (by kernel_rfl) Tryz.underlying4 rfl rfl hW' hE⟩
theorem laid_met (os : Os) : laidMet Tryz.prog Rows.planTellsRow.laid ((World.laidAll Tryz.prog os Rows.planTellsRow.laid).forCall (fun _ _ => 0) ⟨#[], #[Value.slice none 0 0, Value.slice none 0 0, Value.string (bs [])], []⟩).memory :=
  laidMet_laidAll #[Value.slice none 0 0, Value.slice none 0 0, Value.string (bs [])] (by kernel_rfl) (by kernel_rfl)
theorem reads (os : Os) {H : Type} (enc : TypeId × Value → H) : ∃ places, DataW.whole enc Tryz.prog ((World.laidAll Tryz.prog os Rows.planTellsRow.laid).forCall (fun _ _ => 0) ⟨#[], #[Value.slice none 0 0, Value.slice none 0 0, Value.string (bs [])], []⟩).memory Tryz.f3.params.toList Rows.planTellsSpec.vars false [Value.slice none 0 0, Value.slice none 0 0, Value.string (bs [])] 8 = some ([.nil, .nil, .lit (.string [])], [], places) :=
  ⟨[], by kernel_rfl⟩
set_option maxRecDepth 100000 in
theorem lifted (os : Os) (started : os.Started) (H : Type) (enc : TypeId × Value → H) (F : Stop.Interp) :
    ReturnsInHanded {} Tryz.checked os 3 .any ((OpenSpec.ofChange Rows.planTellsSpec).preRow enc Tryz.prog Tryz.f3 Rows.planTellsRow.domain false Rows.planTellsRow.laid) (((OpenSpec.ofChange Rows.planTellsSpec).at F).post enc Tryz.prog Tryz.f3 false true false false) := by
  obtain ⟨places, hx⟩ := reads os enc
  refine returnsInHanded_of_row (C := Tryz.checked) (s := OpenSpec.ofChange Rows.planTellsSpec) own started (by kernel_rfl) Tryz.func3
    (witness_row_atRef (enc := enc) (C := Tryz.checked) false (World.laidAll Tryz.prog os Rows.planTellsRow.laid) #[Value.slice none 0 0, Value.slice none 0 0, Value.string (bs [])] (World.laidAll_os _ _ _) (by kernel_rfl) (by kernel_rfl) (by kernel_rfl)
      (OpenSpec.preRow_of_cond 8 hx (by kernel_rfl) (fun k hk => by cases hk) (by kernel_rfl) (laid_met os))) ?_
  intro W base args ds gs before hval hW _ _ hz hL _ _
  exact contract H enc W base args ds gs before hval hW hz hL
theorem said : Rows.PlanTellsSaid :=
  OpenClaim.holds_of_cond 3 Tryz.f3 rfl rfl rfl rfl rfl rfl rfl ⟨rfl, rfl, rfl, rfl, rfl⟩ rfl rfl rfl rfl rfl (by kernel_rfl) Tryz.func3 (by kernel_rfl)
    (of_decide_eq_true (by kernel_rfl)) (by unfold Func.isWrapper; first | (rw [if_pos (by decide +kernel)]; kernel_rfl) | (rw [if_neg (by decide +kernel)]; exact ⟨rfl, rfl⟩))
    (fun os started H enc _ F => by rw [OpenClaim.pre_eq_preRow]; exact lifted os started H enc F)
theorem plain (f : FuncId) (fn : Func) (hf : Tryz.pinned.checked.prog.funcNamed "backstay/backstaylaw03.PlanTells" = some f) (hfn : Tryz.pinned.checked.prog.funcs[f]? = some fn) :
    false = Tryz.pinned.checked.prog.looks [] ∧ ∀ (j : Nat) t, fn.params[j]? = some t → Tryz.pinned.checked.prog.wantsStandIn t = false := by
  obtain rfl : f = 3 := Option.some.inj ((show Tryz.prog.funcNamed "backstay/backstaylaw03.PlanTells" = some 3 by kernel_rfl).symm.trans hf) |>.symm
  obtain rfl : fn = Tryz.f3 := (Option.some.inj (Tryz.func3.symm.trans hfn)).symm
  refine ⟨by kernel_rfl, fun j t ht => ?_⟩
  rw [Tryz.params3] at ht
  have hm := Array.mem_of_getElem? ht
  simp only [List.mem_toArray, List.mem_cons, List.not_mem_nil, or_false] at hm
  rcases hm with rfl | rfl | rfl
  · exact (show Tryz.prog.wantsStandIn 22 = false by kernel_rfl)
  · exact (show Tryz.prog.wantsStandIn 22 = false by kernel_rfl)
  · exact (show Tryz.prog.wantsStandIn 9 = false by kernel_rfl)
theorem card : Rows.PlanTellsCardSaid :=
  Claim7.holds_tied_plain_at .later [] _ _ _ _ said (fun _ h => by cases h) (by kernel_rfl) (fun _ h => by cases h) planTells_row_tie rfl ⟨rfl, rfl⟩ (by kernel_rfl) rfl plain (by kernel_rfl)
end Go.Proofs.YtcbclephakfemaaGreatRRRDoor.planTells
