/-
  ParseBlanks: FOR EVERY INPUT THE CALL RETURNS true; EACH ARGUMENT READS AS BEFORE: the tied card of the law, out of its walk. Conditions: none beyond the given card's own (the listed variables start as the program's text lays them).
-/
import Derived.Test.YtjhgghpeapmgdaaGreatDoorCards
import Derived.Test.YtjhgghpeapmgdaaGreatDoorTie
import Derived.Test.YtjhgghpeapmgdaaGreatDoorCard
import Derived.Test.YtjhgghpeapmgdaaGreatDoorParBl
import Derived.Lay
import Derived.Deep.DeepWitnessRowRef
namespace Go.Proofs.YtjhgghpeapmgdaaGreatDoor.parseBlanks
open Go Go.Bk Go.ChangeShapes Go.WideShapes Go.ChangeAt Go.RowKit Go.ChangeMaps
set_option maxRecDepth 100000
theorem own : ownKnob Tryz.prog.godebug = none := by kernel_rfl
theorem laidOut : laidOutB Tryz.prog = true := by kernel_rfl
theorem reads_ok : readsB Tryz.prog Tryz.f11.params.toList = true := by kernel_rfl
theorem glob {W : World} (h : laidMetH Tryz.prog Rows.parseBlanksRow.laid W) : Glob W := by
  have h' : laidMet Tryz.prog Rows.parseBlanksRow.laid W := h
  exact ⟨laid_iface (g := 2) 4 h' rfl (by kernel_rfl) (by kernel_rfl) Tryz.underlying107, laid_iface (g := 3) 3 h' rfl (by kernel_rfl) (by kernel_rfl) Tryz.underlying107,
    laid_table (g := 1) 2 h' (by kernel_rfl) (by kernel_rfl) (by kernel_rfl) Tryz.underlying184 Tryz.underlying157 (by kernel_rfl) (by kernel_rfl)⟩
theorem contract (H : Type) (enc : TypeId × Value → H) (W : World) (base : Nat) (args : Array Value) (ds gs : List (DataW H)) (before : List MemPlace)
    (hval : ∀ (j : Nat) t v, Tryz.f11.params[j]? = some t → args[j]? = some v → Value.okWide Tryz.prog W .any base t v)
    (hW : DataW.Whole enc Tryz.prog Tryz.f11.params.toList Rows.parseBlanksSpec.vars false W args.toList ds gs before)
    (hz : (DataW.weightsEach Tryz.prog (Tryz.f11.params.toList ++ (OpenSpec.ofChange Rows.parseBlanksSpec).bare.plain.varTypes Tryz.prog) (ds ++ gs)).all (· ≤ reachBytes) = true) (hL : laidMetH Tryz.prog Rows.parseBlanksRow.laid W) :
    Calls Tryz.prog 11 args W fun e W' => ∃ v, e = .returned v ∧ Rows.parseBlanksSpec.post enc Tryz.prog Tryz.f11 false true false false W args v W' := by
  have hW' := hW
  obtain ⟨p, q, hA0, hV, rfl, hfz, hnd⟩ := hW
  have hA : DataW.TrodAll enc Tryz.prog W 0 (fun _ => true) true Tryz.f11.params.toList args.toList ds p := hA0
  rw [Tryz.params11] at hA hval hz
  obtain ⟨v0, vs0, d0, ds0, p0, q0, hargs, rfl, rfl, h0, r0⟩ := trodAll_cons hA
  obtain ⟨v1, vs1, d1, ds1, p1, q1, rfl, rfl, rfl, h1, r1⟩ := trodAll_cons r0
  obtain ⟨rfl, rfl, rfl⟩ := trodAll_nil r1
  obtain rfl : args = #[v0, v1] := by cases args; simp_all
  obtain ⟨rfl, rfl⟩ := trodVars_none hV
  have hG : Glob W := glob hL
  obtain ⟨a0, c0, xs0, rfl, hc0, hw0, hm0, hsz0, hnil0, hcap0⟩ := open_intsC Tryz.underlying22 Tryz.underlying3 (by kernel_rfl) (hval 0 22 v0 rfl rfl) h0
  obtain ⟨a1, c1, xs1, rfl, hc1, hw1, hm1, hsz1, hnil1, hcap1⟩ := open_intsC Tryz.underlying22 Tryz.underlying3 (by kernel_rfl) (hval 1 22 v1 rfl rfl) h1
  have hlen0 : xs0.length ≤ 140737488351232 := weight_slice 0 hz rfl rfl Tryz.underlying22 (by kernel_rfl) hsz0 hnil0 (trod_slice_form Tryz.underlying22 h0)
  have hlen1 : xs1.length ≤ 140737488351232 := weight_slice 1 hz rfl rfl Tryz.underlying22 (by kernel_rfl) hsz1 hnil1 (trod_slice_form Tryz.underlying22 h1)
  have walk : Does Tryz.prog 11 [.slice a0 xs0.length c0, .slice a1 xs1.length c1] W fun v w' => v = .bool true ∧ Ext W w' := ParseBlanks_any xs0 xs1 a0 a1 c0 c1 W hG hc0 hc1 hw0 hw1 hcap0 hcap1
  refine Calls.mono walk ?_
  rintro e W1 ⟨_, rfl, rfl, hE⟩
  exact ⟨_, rfl, post_true laidOut reads_ok (by kernel_rfl) Tryz.underlying4 rfl rfl hW' hE⟩
theorem laid_met (os : Os) : laidMet Tryz.prog Rows.parseBlanksRow.laid ((World.laidAll Tryz.prog os Rows.parseBlanksRow.laid).forCall (fun _ _ => 0) ⟨#[], #[Value.slice none 0 0, Value.slice none 0 0], []⟩).memory :=
  laidMet_laidAll #[Value.slice none 0 0, Value.slice none 0 0] (by kernel_rfl) (by kernel_rfl)
theorem reads (os : Os) {H : Type} (enc : TypeId × Value → H) : ∃ places, DataW.whole enc Tryz.prog ((World.laidAll Tryz.prog os Rows.parseBlanksRow.laid).forCall (fun _ _ => 0) ⟨#[], #[Value.slice none 0 0, Value.slice none 0 0], []⟩).memory Tryz.f11.params.toList Rows.parseBlanksSpec.vars false [Value.slice none 0 0, Value.slice none 0 0] 8 = some ([.nil, .nil], [], places) :=
  ⟨[], by kernel_rfl⟩
set_option maxRecDepth 100000 in
theorem lifted (os : Os) (started : os.Started) (H : Type) (enc : TypeId × Value → H) (F : Stop.Interp) :
    ReturnsInHanded {} Tryz.checked os 11 .any ((OpenSpec.ofChange Rows.parseBlanksSpec).preRow enc Tryz.prog Tryz.f11 Rows.parseBlanksRow.domain false Rows.parseBlanksRow.laid) (((OpenSpec.ofChange Rows.parseBlanksSpec).at F).post enc Tryz.prog Tryz.f11 false true false false) := by
  obtain ⟨places, hx⟩ := reads os enc
  refine returnsInHanded_of_row (C := Tryz.checked) (s := OpenSpec.ofChange Rows.parseBlanksSpec) own started (by kernel_rfl) Tryz.func11
    (witness_row_atRef (enc := enc) (C := Tryz.checked) false (World.laidAll Tryz.prog os Rows.parseBlanksRow.laid) #[Value.slice none 0 0, Value.slice none 0 0] (World.laidAll_os _ _ _) (by kernel_rfl) (by kernel_rfl) (by kernel_rfl)
      (OpenSpec.preRow_of_cond 8 hx (by kernel_rfl) (fun k hk => by cases hk) (by kernel_rfl) (laid_met os))) ?_
  intro W base args ds gs before hval hW _ _ hz hL _ _
  exact contract H enc W base args ds gs before hval hW hz hL
theorem said : Rows.ParseBlanksSaid :=
  OpenClaim.holds_of_cond 11 Tryz.f11 rfl rfl rfl rfl rfl rfl rfl ⟨rfl, rfl, rfl, rfl, rfl⟩ rfl rfl rfl rfl rfl (by kernel_rfl) Tryz.func11 (by kernel_rfl)
    (of_decide_eq_true (by kernel_rfl)) (by unfold Func.isWrapper; first | (rw [if_pos (by decide +kernel)]; kernel_rfl) | (rw [if_neg (by decide +kernel)]; exact ⟨rfl, rfl⟩))
    (fun os started H enc _ F => by rw [OpenClaim.pre_eq_preRow]; exact lifted os started H enc F)
theorem plain (f : FuncId) (fn : Func) (hf : Tryz.pinned.checked.prog.funcNamed "backstay/backstaylaw04.ParseBlanks" = some f) (hfn : Tryz.pinned.checked.prog.funcs[f]? = some fn) :
    true = Tryz.pinned.checked.prog.looks [] ∧ ∀ (j : Nat) t, fn.params[j]? = some t → Tryz.pinned.checked.prog.wantsStandIn t = false := by
  obtain rfl : f = 11 := Option.some.inj ((show Tryz.prog.funcNamed "backstay/backstaylaw04.ParseBlanks" = some 11 by kernel_rfl).symm.trans hf) |>.symm
  obtain rfl : fn = Tryz.f11 := (Option.some.inj (Tryz.func11.symm.trans hfn)).symm
  refine ⟨by kernel_rfl, fun j t ht => ?_⟩
  rw [Tryz.params11] at ht
  have hm := Array.mem_of_getElem? ht
  simp only [List.mem_toArray, List.mem_cons, List.not_mem_nil, or_false] at hm
  rcases hm with rfl | rfl
  · exact (show Tryz.prog.wantsStandIn 22 = false by kernel_rfl)
  · exact (show Tryz.prog.wantsStandIn 22 = false by kernel_rfl)
theorem card : Rows.ParseBlanksCardSaid :=
  Claim7.holds_tied_plain_at .later [] _ _ _ _ said (fun _ h => by cases h) (by kernel_rfl) (fun _ h => by cases h) parseBlanks_row_tie rfl ⟨rfl, rfl⟩ (by kernel_rfl) rfl plain (by kernel_rfl)
end Go.Proofs.YtjhgghpeapmgdaaGreatDoor.parseBlanks
