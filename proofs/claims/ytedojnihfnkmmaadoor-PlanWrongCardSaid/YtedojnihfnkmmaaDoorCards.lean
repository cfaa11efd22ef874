/-
  DERIVED. GIVEN WITH THE SEED: THE CARDS: each row of YtedojnihfnkmmaaDoorRows.lean that lists a variable, with what it lists TIED to the program's text (the seventh form; the later family's looks); each row that meets fmt, with fmt's text TOLD by the authors' own Lean function (tested against real Go, not proved from fmt's source: count such statements apart). THE CARD IS WHAT COUNTS. Prove the row's statement (the work); the ties are given (YtedojnihfnkmmaaDoorTie.lean); close each card by the builder's one call (the guide's Derived/Test/ToyasCard.lean, 'card_holds'). Laid BY PROGRAM, IN A SANDBOX (cutbox-door.mjs). By AI agents, Wed Nov 11 2026. No macro, syntax, notation, axiom, sorry.
-/
import Derived.Test.YtedojnihfnkmmaaDoorRows
import GoSem.ClaimSeven
namespace Go.Proofs.YtedojnihfnkmmaaDoor
namespace Rows

/-- THE TIED CARD OF 'backstaylaw03.PlanUnlike'. -/
def planUnlikeCard : Claim7 := { stood := { row := planUnlikeRow, standIns := [], harness := (true, "f8dd4c4ddba233ae8b4845d3951ef276ae55c37be55df30efe50fe70a981e002"), looks := false }, kinds := [], alts := [], laidByText := true, laidKinds := [.data, .data, .data], laidTests := true, laidLooks := .later }
def PlanUnlikeCardSaid : Prop := Claim7.holds Tryd.pinned (.plain (OpenSpec.ofChange planUnlikeSpec)) planUnlikeCard

/-- THE TIED CARD OF 'backstaylaw03.PlanMade'. -/
def planMadeCard : Claim7 := { stood := { row := planMadeRow, standIns := [], harness := (true, "f8dd4c4ddba233ae8b4845d3951ef276ae55c37be55df30efe50fe70a981e002"), looks := false }, kinds := [], alts := [], laidByText := true, laidKinds := [.data, .data, .data], laidTests := true, laidLooks := .later }
def PlanMadeCardSaid : Prop := Claim7.holds Tryd.pinned (.plain (OpenSpec.ofChange planMadeSpec)) planMadeCard

/-- THE TIED CARD OF 'backstaylaw03.PlanWrong'. -/
def planWrongCard : Claim7 := { stood := { row := planWrongRow, standIns := [], harness := (true, "f8dd4c4ddba233ae8b4845d3951ef276ae55c37be55df30efe50fe70a981e002"), looks := false }, kinds := [], alts := [], laidByText := true, laidKinds := [.data, .data, .data], laidTests := true, laidLooks := .later }
def PlanWrongCardSaid : Prop := Claim7.holds Tryd.pinned (.plain (OpenSpec.ofChange planWrongSpec)) planWrongCard

/-- THE TIED CARD OF 'backstaylaw03.PlanSame'. -/
def planSameCard : Claim7 := { stood := { row := planSameRow, standIns := [], harness := (true, "f8dd4c4ddba233ae8b4845d3951ef276ae55c37be55df30efe50fe70a981e002"), looks := false }, kinds := [], alts := [], laidByText := true, laidKinds := [.data, .data, .data], laidTests := true, laidLooks := .later }
def PlanSameCardSaid : Prop := Claim7.holds Tryd.pinned (.plain (OpenSpec.ofChange planSameSpec)) planSameCard

/-- THE TIED CARD OF 'backstaylaw03.PlanGrows'. -/
def planGrowsCard : Claim7 := { stood := { row := planGrowsRow, standIns := [], harness := (true, "f8dd4c4ddba233ae8b4845d3951ef276ae55c37be55df30efe50fe70a981e002"), looks := false }, kinds := [], alts := [], laidByText := true, laidKinds := [.data, .data, .data], laidTests := true, laidLooks := .later }
def PlanGrowsCardSaid : Prop := Claim7.holds Tryd.pinned (.plain (OpenSpec.ofChange planGrowsSpec)) planGrowsCard

/-- THE TIED CARD OF 'backstaylaw03.PlanTurned'. -/
def planTurnedCard : Claim7 := { stood := { row := planTurnedRow, standIns := [], harness := (true, "f8dd4c4ddba233ae8b4845d3951ef276ae55c37be55df30efe50fe70a981e002"), looks := false }, kinds := [], alts := [], laidByText := true, laidKinds := [.data, .data, .data], laidTests := true, laidLooks := .later }
def PlanTurnedCardSaid : Prop := Claim7.holds Tryd.pinned (.plain (OpenSpec.ofChange planTurnedSpec)) planTurnedCard

/-- THE SECOND FORM's CARD OF 'backstaylaw03.PlanUnlike'. -/
def planUnlikeUptoCard : Claim7 := { stood := { row := planUnlikeUptoRow, standIns := [], harness := (true, "f8dd4c4ddba233ae8b4845d3951ef276ae55c37be55df30efe50fe70a981e002"), looks := false }, kinds := [], alts := [], laidByText := true, laidKinds := [.data, .data, .data], laidTests := true, laidLooks := .later }
def PlanUnlikeUptoCardSaid : Prop := Claim7.holds Tryd.pinned (.plain (OpenSpec.upto planUnlikeSpec)) planUnlikeUptoCard

/-- THE SECOND FORM's CARD OF 'backstaylaw03.PlanMade'. -/
def planMadeUptoCard : Claim7 := { stood := { row := planMadeUptoRow, standIns := [], harness := (true, "f8dd4c4ddba233ae8b4845d3951ef276ae55c37be55df30efe50fe70a981e002"), looks := false }, kinds := [], alts := [], laidByText := true, laidKinds := [.data, .data, .data], laidTests := true, laidLooks := .later }
def PlanMadeUptoCardSaid : Prop := Claim7.holds Tryd.pinned (.plain (OpenSpec.upto planMadeSpec)) planMadeUptoCard

/-- THE SECOND FORM's CARD OF 'backstaylaw03.PlanWrong'. -/
def planWrongUptoCard : Claim7 := { stood := { row := planWrongUptoRow, standIns := [], harness := (true, "f8dd4c4ddba233ae8b4845d3951ef276ae55c37be55df30efe50fe70a981e002"), looks := false }, kinds := [], alts := [], laidByText := true, laidKinds := [.data, .data, .data], laidTests := true, laidLooks := .later }
def PlanWrongUptoCardSaid : Prop := Claim7.holds Tryd.pinned (.plain (OpenSpec.upto planWrongSpec)) planWrongUptoCard

/-- THE SECOND FORM's CARD OF 'backstaylaw03.PlanSame'. -/
def planSameUptoCard : Claim7 := { stood := { row := planSameUptoRow, standIns := [], harness := (true, "f8dd4c4ddba233ae8b4845d3951ef276ae55c37be55df30efe50fe70a981e002"), looks := false }, kinds := [], alts := [], laidByText := true, laidKinds := [.data, .data, .data], laidTests := true, laidLooks := .later }
def PlanSameUptoCardSaid : Prop := Claim7.holds Tryd.pinned (.plain (OpenSpec.upto planSameSpec)) planSameUptoCard

/-- THE SECOND FORM's CARD OF 'backstaylaw03.PlanGrows'. -/
def planGrowsUptoCard : Claim7 := { stood := { row := planGrowsUptoRow, standIns := [], harness := (true, "f8dd4c4ddba233ae8b4845d3951ef276ae55c37be55df30efe50fe70a981e002"), looks := false }, kinds := [], alts := [], laidByText := true, laidKinds := [.data, .data, .data], laidTests := true, laidLooks := .later }
def PlanGrowsUptoCardSaid : Prop := Claim7.holds Tryd.pinned (.plain (OpenSpec.upto planGrowsSpec)) planGrowsUptoCard

/-- THE SECOND FORM's CARD OF 'backstaylaw03.PlanTurned'. -/
def planTurnedUptoCard : Claim7 := { stood := { row := planTurnedUptoRow, standIns := [], harness := (true, "f8dd4c4ddba233ae8b4845d3951ef276ae55c37be55df30efe50fe70a981e002"), looks := false }, kinds := [], alts := [], laidByText := true, laidKinds := [.data, .data, .data], laidTests := true, laidLooks := .later }
def PlanTurnedUptoCardSaid : Prop := Claim7.holds Tryd.pinned (.plain (OpenSpec.upto planTurnedSpec)) planTurnedUptoCard
end Rows
end Go.Proofs.YtedojnihfnkmmaaDoor
