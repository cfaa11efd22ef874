/-
  DERIVED. GIVEN WITH THE SEED: THE CARDS: each row of YtcbecbkongomfaaDoorRows.lean that lists a variable, with what it lists TIED to the program's text (the seventh form; the later family's looks); each row that meets fmt, with fmt's text TOLD by the authors' own Lean function (tested against real Go, not proved from fmt's source: count such statements apart). THE CARD IS WHAT COUNTS. Prove the row's statement (the work); the ties are given (YtcbecbkongomfaaDoorTie.lean); close each card by the builder's one call (the guide's Derived/Test/ToyasCard.lean, 'card_holds'). Laid BY PROGRAM, IN A SANDBOX (cutbox-door.mjs). By AI agents, Wed Nov 11 2026. No macro, syntax, notation, axiom, sorry.
-/
import Derived.Test.YtcbecbkongomfaaDoorRows
import GoSem.ClaimSeven
namespace Go.Proofs.YtcbecbkongomfaaDoor
namespace Rows

/-- THE TIED CARD OF 'backstaylaw02.LexTells'. -/
def lexTellsCard : Claim7 := { stood := { row := lexTellsRow, standIns := [], harness := (true, "3b45159650e20200151435a1d0b5451f45a0fa0a2e6c909792a82f4383aaf233"), looks := true }, kinds := [], alts := [], laidByText := true, laidKinds := [.data, .data, .data, .sentinel, .sentinel], laidTests := true, laidLooks := .later }
def LexTellsCardSaid : Prop := Claim7.holds Tryd.pinned (.plain (OpenSpec.ofChange lexTellsSpec)) lexTellsCard

/-- THE TIED CARD OF 'backstaylaw02.LexWords'. -/
def lexWordsCard : Claim7 := { stood := { row := lexWordsRow, standIns := [], harness := (true, "3b45159650e20200151435a1d0b5451f45a0fa0a2e6c909792a82f4383aaf233"), looks := true }, kinds := [], alts := [], laidByText := true, laidKinds := [.data, .data, .data, .sentinel, .sentinel], laidTests := true, laidLooks := .later }
def LexWordsCardSaid : Prop := Claim7.holds Tryd.pinned (.plain (OpenSpec.ofChange lexWordsSpec)) lexWordsCard

/-- THE TIED CARD OF 'backstaylaw02.LexJoin'. -/
def lexJoinCard : Claim7 := { stood := { row := lexJoinRow, standIns := [], harness := (true, "3b45159650e20200151435a1d0b5451f45a0fa0a2e6c909792a82f4383aaf233"), looks := true }, kinds := [], alts := [], laidByText := true, laidKinds := [.data, .data, .data, .sentinel, .sentinel], laidTests := true, laidLooks := .later }
def LexJoinCardSaid : Prop := Claim7.holds Tryd.pinned (.plain (OpenSpec.ofChange lexJoinSpec)) lexJoinCard

/-- THE TIED CARD OF 'backstaylaw02.LexWrong'. -/
def lexWrongCard : Claim7 := { stood := { row := lexWrongRow, standIns := [], harness := (true, "3b45159650e20200151435a1d0b5451f45a0fa0a2e6c909792a82f4383aaf233"), looks := true }, kinds := [], alts := [], laidByText := true, laidKinds := [.data, .data, .data, .sentinel, .sentinel], laidTests := true, laidLooks := .later }
def LexWrongCardSaid : Prop := Claim7.holds Tryd.pinned (.plain (OpenSpec.ofChange lexWrongSpec)) lexWrongCard

/-- THE TIED CARD OF 'backstaylaw02.LexShift'. -/
def lexShiftCard : Claim7 := { stood := { row := lexShiftRow, standIns := [], harness := (true, "3b45159650e20200151435a1d0b5451f45a0fa0a2e6c909792a82f4383aaf233"), looks := true }, kinds := [], alts := [], laidByText := true, laidKinds := [.data, .data, .data, .sentinel, .sentinel], laidTests := true, laidLooks := .later }
def LexShiftCardSaid : Prop := Claim7.holds Tryd.pinned (.plain (OpenSpec.ofChange lexShiftSpec)) lexShiftCard

/-- THE TIED CARD OF 'backstaylaw02.LexKinds'. -/
def lexKindsCard : Claim7 := { stood := { row := lexKindsRow, standIns := [], harness := (true, "3b45159650e20200151435a1d0b5451f45a0fa0a2e6c909792a82f4383aaf233"), looks := true }, kinds := [], alts := [], laidByText := true, laidKinds := [.data, .data, .data, .sentinel, .sentinel], laidTests := true, laidLooks := .later }
def LexKindsCardSaid : Prop := Claim7.holds Tryd.pinned (.plain (OpenSpec.ofChange lexKindsSpec)) lexKindsCard

/-- THE SECOND FORM's CARD OF 'backstaylaw02.LexTells'. -/
def lexTellsUptoCard : Claim7 := { stood := { row := lexTellsUptoRow, standIns := [], harness := (true, "3b45159650e20200151435a1d0b5451f45a0fa0a2e6c909792a82f4383aaf233"), looks := true }, kinds := [], alts := [], laidByText := true, laidKinds := [.data, .data, .data, .sentinel, .sentinel], laidTests := true, laidLooks := .later }
def LexTellsUptoCardSaid : Prop := Claim7.holds Tryd.pinned (.plain (OpenSpec.upto lexTellsSpec)) lexTellsUptoCard

/-- THE SECOND FORM's CARD OF 'backstaylaw02.LexWords'. -/
def lexWordsUptoCard : Claim7 := { stood := { row := lexWordsUptoRow, standIns := [], harness := (true, "3b45159650e20200151435a1d0b5451f45a0fa0a2e6c909792a82f4383aaf233"), looks := true }, kinds := [], alts := [], laidByText := true, laidKinds := [.data, .data, .data, .sentinel, .sentinel], laidTests := true, laidLooks := .later }
def LexWordsUptoCardSaid : Prop := Claim7.holds Tryd.pinned (.plain (OpenSpec.upto lexWordsSpec)) lexWordsUptoCard

/-- THE SECOND FORM's CARD OF 'backstaylaw02.LexJoin'. -/
def lexJoinUptoCard : Claim7 := { stood := { row := lexJoinUptoRow, standIns := [], harness := (true, "3b45159650e20200151435a1d0b5451f45a0fa0a2e6c909792a82f4383aaf233"), looks := true }, kinds := [], alts := [], laidByText := true, laidKinds := [.data, .data, .data, .sentinel, .sentinel], laidTests := true, laidLooks := .later }
def LexJoinUptoCardSaid : Prop := Claim7.holds Tryd.pinned (.plain (OpenSpec.upto lexJoinSpec)) lexJoinUptoCard

/-- THE SECOND FORM's CARD OF 'backstaylaw02.LexWrong'. -/
def lexWrongUptoCard : Claim7 := { stood := { row := lexWrongUptoRow, standIns := [], harness := (true, "3b45159650e20200151435a1d0b5451f45a0fa0a2e6c909792a82f4383aaf233"), looks := true }, kinds := [], alts := [], laidByText := true, laidKinds := [.data, .data, .data, .sentinel, .sentinel], laidTests := true, laidLooks := .later }
def LexWrongUptoCardSaid : Prop := Claim7.holds Tryd.pinned (.plain (OpenSpec.upto lexWrongSpec)) lexWrongUptoCard

/-- THE SECOND FORM's CARD OF 'backstaylaw02.LexShift'. -/
def lexShiftUptoCard : Claim7 := { stood := { row := lexShiftUptoRow, standIns := [], harness := (true, "3b45159650e20200151435a1d0b5451f45a0fa0a2e6c909792a82f4383aaf233"), looks := true }, kinds := [], alts := [], laidByText := true, laidKinds := [.data, .data, .data, .sentinel, .sentinel], laidTests := true, laidLooks := .later }
def LexShiftUptoCardSaid : Prop := Claim7.holds Tryd.pinned (.plain (OpenSpec.upto lexShiftSpec)) lexShiftUptoCard

/-- THE SECOND FORM's CARD OF 'backstaylaw02.LexKinds'. -/
def lexKindsUptoCard : Claim7 := { stood := { row := lexKindsUptoRow, standIns := [], harness := (true, "3b45159650e20200151435a1d0b5451f45a0fa0a2e6c909792a82f4383aaf233"), looks := true }, kinds := [], alts := [], laidByText := true, laidKinds := [.data, .data, .data, .sentinel, .sentinel], laidTests := true, laidLooks := .later }
def LexKindsUptoCardSaid : Prop := Claim7.holds Tryd.pinned (.plain (OpenSpec.upto lexKindsSpec)) lexKindsUptoCard
end Rows
end Go.Proofs.YtcbecbkongomfaaDoor
