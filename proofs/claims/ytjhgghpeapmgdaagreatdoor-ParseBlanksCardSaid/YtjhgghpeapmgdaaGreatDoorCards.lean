/-
  DERIVED. GIVEN WITH THE SEED: THE CARDS: each row of YtjhgghpeapmgdaaGreatDoorRows.lean that lists a variable, with what it lists TIED to the program's text (the seventh form; the later family's looks); each row that meets fmt, with fmt's text TOLD by the authors' own Lean function (tested against real Go, not proved from fmt's source: count such statements apart). THE CARD IS WHAT COUNTS. Prove the row's statement (the work); the ties are given (YtjhgghpeapmgdaaGreatDoorTie.lean); close each card by the builder's one call (the guide's Derived/Test/ToyasCard.lean, 'card_holds'). Laid BY PROGRAM, IN A SANDBOX (cutbox-door.mjs). By AI agents, Wed Nov 11 2026. No macro, syntax, notation, axiom, sorry.
-/
import Derived.Test.YtjhgghpeapmgdaaGreatDoorRows
import GoSem.ClaimSeven
namespace Go.Proofs.YtjhgghpeapmgdaaGreatDoor
namespace Rows

/-- THE TIED CARD OF 'backstaylaw03.PlanTells'. -/
def planTellsCard : Claim7 := { stood := { row := planTellsRow, standIns := [], harness := (true, "60a6f29e25ffe022a7558aa4ae26bdd93268465f22ad2b788fa8d71a669869b3"), looks := true }, kinds := [], alts := [], laidByText := true, laidKinds := [.data, .data, .data], laidTests := true, laidLooks := .later }
def PlanTellsCardSaid : Prop := Claim7.holds Tryz.pinned (.plain (OpenSpec.ofChange planTellsSpec)) planTellsCard

/-- THE TIED CARD OF 'backstaylaw04.ParseMany'. -/
def parseManyCard : Claim7 := { stood := { row := parseManyRow, standIns := [], harness := (true, "60a6f29e25ffe022a7558aa4ae26bdd93268465f22ad2b788fa8d71a669869b3"), looks := true }, kinds := [], alts := [], laidByText := true, laidKinds := [.data, .data, .data, .sentinel, .sentinel], laidTests := true, laidLooks := .later }
def ParseManyCardSaid : Prop := Claim7.holds Tryz.pinned (.plain (OpenSpec.ofChange parseManySpec)) parseManyCard

/-- THE TIED CARD OF 'backstaylaw03.PlanScans'. -/
def planScansCard : Claim7 := { stood := { row := planScansRow, standIns := [], harness := (true, "60a6f29e25ffe022a7558aa4ae26bdd93268465f22ad2b788fa8d71a669869b3"), looks := true }, kinds := [], alts := [], laidByText := true, laidKinds := [.data, .data, .data, .sentinel, .sentinel], laidTests := true, laidLooks := .later }
def PlanScansCardSaid : Prop := Claim7.holds Tryz.pinned (.plain (OpenSpec.ofChange planScansSpec)) planScansCard

/-- THE TIED CARD OF 'backstaylaw04.ParseNames'. -/
def parseNamesCard : Claim7 := { stood := { row := parseNamesRow, standIns := [], harness := (true, "60a6f29e25ffe022a7558aa4ae26bdd93268465f22ad2b788fa8d71a669869b3"), looks := true }, kinds := [], alts := [], laidByText := true, laidKinds := [.data, .data, .data, .sentinel, .sentinel], laidTests := true, laidLooks := .later }
def ParseNamesCardSaid : Prop := Claim7.holds Tryz.pinned (.plain (OpenSpec.ofChange parseNamesSpec)) parseNamesCard

/-- THE TIED CARD OF 'backstaylaw04.ParseCuts'. -/
def parseCutsCard : Claim7 := { stood := { row := parseCutsRow, standIns := [], harness := (true, "60a6f29e25ffe022a7558aa4ae26bdd93268465f22ad2b788fa8d71a669869b3"), looks := true }, kinds := [], alts := [], laidByText := true, laidKinds := [.data, .data, .data, .sentinel, .sentinel], laidTests := true, laidLooks := .later }
def ParseCutsCardSaid : Prop := Claim7.holds Tryz.pinned (.plain (OpenSpec.ofChange parseCutsSpec)) parseCutsCard

/-- THE TIED CARD OF 'backstaylaw04.ParseNumbers'. -/
def parseNumbersCard : Claim7 := { stood := { row := parseNumbersRow, standIns := [], harness := (true, "60a6f29e25ffe022a7558aa4ae26bdd93268465f22ad2b788fa8d71a669869b3"), looks := true }, kinds := [], alts := [], laidByText := true, laidKinds := [.data, .data, .data, .sentinel, .sentinel], laidTests := true, laidLooks := .later }
def ParseNumbersCardSaid : Prop := Claim7.holds Tryz.pinned (.plain (OpenSpec.ofChange parseNumbersSpec)) parseNumbersCard

/-- THE TIED CARD OF 'backstaylaw04.ParseBack'. -/
def parseBackCard : Claim7 := { stood := { row := parseBackRow, standIns := [], harness := (true, "60a6f29e25ffe022a7558aa4ae26bdd93268465f22ad2b788fa8d71a669869b3"), looks := true }, kinds := [], alts := [], laidByText := true, laidKinds := [.data, .data, .data, .sentinel, .sentinel], laidTests := true, laidLooks := .later }
def ParseBackCardSaid : Prop := Claim7.holds Tryz.pinned (.plain (OpenSpec.ofChange parseBackSpec)) parseBackCard

/-- THE TIED CARD OF 'backstaylaw04.ParseForth'. -/
def parseForthCard : Claim7 := { stood := { row := parseForthRow, standIns := [], harness := (true, "60a6f29e25ffe022a7558aa4ae26bdd93268465f22ad2b788fa8d71a669869b3"), looks := true }, kinds := [], alts := [], laidByText := true, laidKinds := [.data, .data, .data, .sentinel, .sentinel], laidTests := true, laidLooks := .later }
def ParseForthCardSaid : Prop := Claim7.holds Tryz.pinned (.plain (OpenSpec.ofChange parseForthSpec)) parseForthCard

/-- THE TIED CARD OF 'backstaylaw04.ParseBlanks'. -/
def parseBlanksCard : Claim7 := { stood := { row := parseBlanksRow, standIns := [], harness := (true, "60a6f29e25ffe022a7558aa4ae26bdd93268465f22ad2b788fa8d71a669869b3"), looks := true }, kinds := [], alts := [], laidByText := true, laidKinds := [.data, .data, .data, .sentinel, .sentinel], laidTests := true, laidLooks := .later }
def ParseBlanksCardSaid : Prop := Claim7.holds Tryz.pinned (.plain (OpenSpec.ofChange parseBlanksSpec)) parseBlanksCard

/-- THE SECOND FORM's CARD OF 'backstaylaw03.PlanTells'. -/
def planTellsUptoCard : Claim7 := { stood := { row := planTellsUptoRow, standIns := [], harness := (true, "60a6f29e25ffe022a7558aa4ae26bdd93268465f22ad2b788fa8d71a669869b3"), looks := true }, kinds := [], alts := [], laidByText := true, laidKinds := [.data, .data, .data], laidTests := true, laidLooks := .later }
def PlanTellsUptoCardSaid : Prop := Claim7.holds Tryz.pinned (.plain (OpenSpec.upto planTellsSpec)) planTellsUptoCard

/-- THE SECOND FORM's CARD OF 'backstaylaw04.ParseMany'. -/
def parseManyUptoCard : Claim7 := { stood := { row := parseManyUptoRow, standIns := [], harness := (true, "60a6f29e25ffe022a7558aa4ae26bdd93268465f22ad2b788fa8d71a669869b3"), looks := true }, kinds := [], alts := [], laidByText := true, laidKinds := [.data, .data, .data, .sentinel, .sentinel], laidTests := true, laidLooks := .later }
def ParseManyUptoCardSaid : Prop := Claim7.holds Tryz.pinned (.plain (OpenSpec.upto parseManySpec)) parseManyUptoCard

/-- THE SECOND FORM's CARD OF 'backstaylaw03.PlanScans'. -/
def planScansUptoCard : Claim7 := { stood := { row := planScansUptoRow, standIns := [], harness := (true, "60a6f29e25ffe022a7558aa4ae26bdd93268465f22ad2b788fa8d71a669869b3"), looks := true }, kinds := [], alts := [], laidByText := true, laidKinds := [.data, .data, .data, .sentinel, .sentinel], laidTests := true, laidLooks := .later }
def PlanScansUptoCardSaid : Prop := Claim7.holds Tryz.pinned (.plain (OpenSpec.upto planScansSpec)) planScansUptoCard

/-- THE SECOND FORM's CARD OF 'backstaylaw04.ParseNames'. -/
def parseNamesUptoCard : Claim7 := { stood := { row := parseNamesUptoRow, standIns := [], harness := (true, "60a6f29e25ffe022a7558aa4ae26bdd93268465f22ad2b788fa8d71a669869b3"), looks := true }, kinds := [], alts := [], laidByText := true, laidKinds := [.data, .data, .data, .sentinel, .sentinel], laidTests := true, laidLooks := .later }
def ParseNamesUptoCardSaid : Prop := Claim7.holds Tryz.pinned (.plain (OpenSpec.upto parseNamesSpec)) parseNamesUptoCard

/-- THE SECOND FORM's CARD OF 'backstaylaw04.ParseCuts'. -/
def parseCutsUptoCard : Claim7 := { stood := { row := parseCutsUptoRow, standIns := [], harness := (true, "60a6f29e25ffe022a7558aa4ae26bdd93268465f22ad2b788fa8d71a669869b3"), looks := true }, kinds := [], alts := [], laidByText := true, laidKinds := [.data, .data, .data, .sentinel, .sentinel], laidTests := true, laidLooks := .later }
def ParseCutsUptoCardSaid : Prop := Claim7.holds Tryz.pinned (.plain (OpenSpec.upto parseCutsSpec)) parseCutsUptoCard

/-- THE SECOND FORM's CARD OF 'backstaylaw04.ParseNumbers'. -/
def parseNumbersUptoCard : Claim7 := { stood := { row := parseNumbersUptoRow, standIns := [], harness := (true, "60a6f29e25ffe022a7558aa4ae26bdd93268465f22ad2b788fa8d71a669869b3"), looks := true }, kinds := [], alts := [], laidByText := true, laidKinds := [.data, .data, .data, .sentinel, .sentinel], laidTests := true, laidLooks := .later }
def ParseNumbersUptoCardSaid : Prop := Claim7.holds Tryz.pinned (.plain (OpenSpec.upto parseNumbersSpec)) parseNumbersUptoCard

/-- THE SECOND FORM's CARD OF 'backstaylaw04.ParseBack'. -/
def parseBackUptoCard : Claim7 := { stood := { row := parseBackUptoRow, standIns := [], harness := (true, "60a6f29e25ffe022a7558aa4ae26bdd93268465f22ad2b788fa8d71a669869b3"), looks := true }, kinds := [], alts := [], laidByText := true, laidKinds := [.data, .data, .data, .sentinel, .sentinel], laidTests := true, laidLooks := .later }
def ParseBackUptoCardSaid : Prop := Claim7.holds Tryz.pinned (.plain (OpenSpec.upto parseBackSpec)) parseBackUptoCard

/-- THE SECOND FORM's CARD OF 'backstaylaw04.ParseForth'. -/
def parseForthUptoCard : Claim7 := { stood := { row := parseForthUptoRow, standIns := [], harness := (true, "60a6f29e25ffe022a7558aa4ae26bdd93268465f22ad2b788fa8d71a669869b3"), looks := true }, kinds := [], alts := [], laidByText := true, laidKinds := [.data, .data, .data, .sentinel, .sentinel], laidTests := true, laidLooks := .later }
def ParseForthUptoCardSaid : Prop := Claim7.holds Tryz.pinned (.plain (OpenSpec.upto parseForthSpec)) parseForthUptoCard

/-- THE SECOND FORM's CARD OF 'backstaylaw04.ParseBlanks'. -/
def parseBlanksUptoCard : Claim7 := { stood := { row := parseBlanksUptoRow, standIns := [], harness := (true, "60a6f29e25ffe022a7558aa4ae26bdd93268465f22ad2b788fa8d71a669869b3"), looks := true }, kinds := [], alts := [], laidByText := true, laidKinds := [.data, .data, .data, .sentinel, .sentinel], laidTests := true, laidLooks := .later }
def ParseBlanksUptoCardSaid : Prop := Claim7.holds Tryz.pinned (.plain (OpenSpec.upto parseBlanksSpec)) parseBlanksUptoCard
end Rows
end Go.Proofs.YtjhgghpeapmgdaaGreatDoor
