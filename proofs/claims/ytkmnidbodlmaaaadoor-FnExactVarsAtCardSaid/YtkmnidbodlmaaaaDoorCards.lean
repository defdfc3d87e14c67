/-
  DERIVED. GIVEN WITH THE SEED: THE CARDS: each row of YtkmnidbodlmaaaaDoorRows.lean that lists a variable, with what it lists TIED to the program's text (the seventh form; the later family's looks); each row that meets fmt, with fmt's text TOLD by the authors' own Lean function (tested against real Go, not proved from fmt's source: count such statements apart). THE CARD IS WHAT COUNTS. Prove the row's statement (the work); the ties are given (YtkmnidbodlmaaaaDoorTie.lean); close each card by the builder's one call (the guide's Derived/Test/ToyasCard.lean, 'card_holds'). Laid BY PROGRAM, IN A SANDBOX (cutbox-door.mjs). By AI agents, Wed Nov 11 2026. No macro, syntax, notation, axiom, sorry.
-/
import Derived.Test.YtkmnidbodlmaaaaDoorRows
import GoSem.ClaimSeven
namespace Go.Proofs.YtkmnidbodlmaaaaDoor
namespace Rows

/-- THE TIED CARD OF 'laws.FnExactTermOf'. -/
def fnExactTermOfCard : Claim7 := { stood := { row := fnExactTermOfRow, standIns := [], harness := (true, "c0a50427271826727e810a05fd711aa2e7d3fb4ef7d8e7f0f1bb07f2ec94fd83"), looks := true }, kinds := [], alts := [], laidByText := true, laidKinds := [.data, .pinned], laidTests := true, laidLooks := .later }
def FnExactTermOfCardSaid : Prop := Claim7.holds Tryd.pinned (.plain (OpenSpec.ofChange fnExactTermOfSpec)) fnExactTermOfCard

/-- THE TIED CARD OF 'laws.FnExactCodeValid'. -/
def fnExactCodeValidCard : Claim7 := { stood := { row := fnExactCodeValidRow, standIns := [], harness := (true, "c0a50427271826727e810a05fd711aa2e7d3fb4ef7d8e7f0f1bb07f2ec94fd83"), looks := true }, kinds := [], alts := [], laidByText := true, laidKinds := [.data, .pinned], laidTests := true, laidLooks := .later }
def FnExactCodeValidCardSaid : Prop := Claim7.holds Tryd.pinned (.plain (OpenSpec.ofChange fnExactCodeValidSpec)) fnExactCodeValidCard

/-- THE TIED CARD OF 'laws.FnExactHeightsOf'. -/
def fnExactHeightsOfCard : Claim7 := { stood := { row := fnExactHeightsOfRow, standIns := [], harness := (true, "c0a50427271826727e810a05fd711aa2e7d3fb4ef7d8e7f0f1bb07f2ec94fd83"), looks := true }, kinds := [], alts := [], laidByText := true, laidKinds := [.data, .pinned], laidTests := true, laidLooks := .later }
def FnExactHeightsOfCardSaid : Prop := Claim7.holds Tryd.pinned (.plain (OpenSpec.ofChange fnExactHeightsOfSpec)) fnExactHeightsOfCard

/-- THE TIED CARD OF 'laws.FnExactLevelsAt'. -/
def fnExactLevelsAtCard : Claim7 := { stood := { row := fnExactLevelsAtRow, standIns := [], harness := (true, "c0a50427271826727e810a05fd711aa2e7d3fb4ef7d8e7f0f1bb07f2ec94fd83"), looks := true }, kinds := [], alts := [], laidByText := true, laidKinds := [.data, .pinned], laidTests := true, laidLooks := .later }
def FnExactLevelsAtCardSaid : Prop := Claim7.holds Tryd.pinned (.plain (OpenSpec.ofChange fnExactLevelsAtSpec)) fnExactLevelsAtCard

/-- THE TIED CARD OF 'laws.FnExactInstructionsOf'. -/
def fnExactInstructionsOfCard : Claim7 := { stood := { row := fnExactInstructionsOfRow, standIns := [], harness := (true, "c0a50427271826727e810a05fd711aa2e7d3fb4ef7d8e7f0f1bb07f2ec94fd83"), looks := true }, kinds := [], alts := [], laidByText := true, laidKinds := [.data, .pinned], laidTests := true, laidLooks := .later }
def FnExactInstructionsOfCardSaid : Prop := Claim7.holds Tryd.pinned (.plain (OpenSpec.ofChange fnExactInstructionsOfSpec)) fnExactInstructionsOfCard

/-- THE TIED CARD OF 'laws.FnExactDepthOfCode'. -/
def fnExactDepthOfCodeCard : Claim7 := { stood := { row := fnExactDepthOfCodeRow, standIns := [], harness := (true, "c0a50427271826727e810a05fd711aa2e7d3fb4ef7d8e7f0f1bb07f2ec94fd83"), looks := true }, kinds := [], alts := [], laidByText := true, laidKinds := [.data, .pinned], laidTests := true, laidLooks := .later }
def FnExactDepthOfCodeCardSaid : Prop := Claim7.holds Tryd.pinned (.plain (OpenSpec.ofChange fnExactDepthOfCodeSpec)) fnExactDepthOfCodeCard

/-- THE TIED CARD OF 'laws.FnExactVarsAt'. -/
def fnExactVarsAtCard : Claim7 := { stood := { row := fnExactVarsAtRow, standIns := [], harness := (true, "c0a50427271826727e810a05fd711aa2e7d3fb4ef7d8e7f0f1bb07f2ec94fd83"), looks := true }, kinds := [], alts := [], laidByText := true, laidKinds := [.data, .pinned], laidTests := true, laidLooks := .later }
def FnExactVarsAtCardSaid : Prop := Claim7.holds Tryd.pinned (.plain (OpenSpec.ofChange fnExactVarsAtSpec)) fnExactVarsAtCard

/-- THE TIED CARD OF 'laws.FnCodeOf'. -/
def fnCodeOfCard : Claim7 := { stood := { row := fnCodeOfRow, standIns := [], harness := (true, "c0a50427271826727e810a05fd711aa2e7d3fb4ef7d8e7f0f1bb07f2ec94fd83"), looks := true }, kinds := [], alts := [], laidByText := true, laidKinds := [.data, .pinned], laidTests := true, laidLooks := .later }
def FnCodeOfCardSaid : Prop := Claim7.holds Tryd.pinned (.plain (OpenSpec.ofChange fnCodeOfSpec)) fnCodeOfCard

/-- THE TIED CARD OF 'laws.FnHeights'. -/
def fnHeightsCard : Claim7 := { stood := { row := fnHeightsRow, standIns := [], harness := (true, "c0a50427271826727e810a05fd711aa2e7d3fb4ef7d8e7f0f1bb07f2ec94fd83"), looks := true }, kinds := [], alts := [], laidByText := true, laidKinds := [.data, .pinned], laidTests := true, laidLooks := .later }
def FnHeightsCardSaid : Prop := Claim7.holds Tryd.pinned (.plain (OpenSpec.ofChange fnHeightsSpec)) fnHeightsCard

/-- THE TIED CARD OF 'laws.FnTermOf'. -/
def fnTermOfCard : Claim7 := { stood := { row := fnTermOfRow, standIns := [], harness := (true, "c0a50427271826727e810a05fd711aa2e7d3fb4ef7d8e7f0f1bb07f2ec94fd83"), looks := true }, kinds := [], alts := [], laidByText := true, laidKinds := [.data, .pinned], laidTests := true, laidLooks := .later }
def FnTermOfCardSaid : Prop := Claim7.holds Tryd.pinned (.plain (OpenSpec.ofChange fnTermOfSpec)) fnTermOfCard

/-- THE SECOND FORM's CARD OF 'laws.FnExactTermOf'. -/
def fnExactTermOfUptoCard : Claim7 := { stood := { row := fnExactTermOfUptoRow, standIns := [], harness := (true, "c0a50427271826727e810a05fd711aa2e7d3fb4ef7d8e7f0f1bb07f2ec94fd83"), looks := true }, kinds := [], alts := [], laidByText := true, laidKinds := [.data, .pinned], laidTests := true, laidLooks := .later }
def FnExactTermOfUptoCardSaid : Prop := Claim7.holds Tryd.pinned (.plain (OpenSpec.upto fnExactTermOfSpec)) fnExactTermOfUptoCard

/-- THE SECOND FORM's CARD OF 'laws.FnExactCodeValid'. -/
def fnExactCodeValidUptoCard : Claim7 := { stood := { row := fnExactCodeValidUptoRow, standIns := [], harness := (true, "c0a50427271826727e810a05fd711aa2e7d3fb4ef7d8e7f0f1bb07f2ec94fd83"), looks := true }, kinds := [], alts := [], laidByText := true, laidKinds := [.data, .pinned], laidTests := true, laidLooks := .later }
def FnExactCodeValidUptoCardSaid : Prop := Claim7.holds Tryd.pinned (.plain (OpenSpec.upto fnExactCodeValidSpec)) fnExactCodeValidUptoCard

/-- THE SECOND FORM's CARD OF 'laws.FnExactHeightsOf'. -/
def fnExactHeightsOfUptoCard : Claim7 := { stood := { row := fnExactHeightsOfUptoRow, standIns := [], harness := (true, "c0a50427271826727e810a05fd711aa2e7d3fb4ef7d8e7f0f1bb07f2ec94fd83"), looks := true }, kinds := [], alts := [], laidByText := true, laidKinds := [.data, .pinned], laidTests := true, laidLooks := .later }
def FnExactHeightsOfUptoCardSaid : Prop := Claim7.holds Tryd.pinned (.plain (OpenSpec.upto fnExactHeightsOfSpec)) fnExactHeightsOfUptoCard

/-- THE SECOND FORM's CARD OF 'laws.FnExactLevelsAt'. -/
def fnExactLevelsAtUptoCard : Claim7 := { stood := { row := fnExactLevelsAtUptoRow, standIns := [], harness := (true, "c0a50427271826727e810a05fd711aa2e7d3fb4ef7d8e7f0f1bb07f2ec94fd83"), looks := true }, kinds := [], alts := [], laidByText := true, laidKinds := [.data, .pinned], laidTests := true, laidLooks := .later }
def FnExactLevelsAtUptoCardSaid : Prop := Claim7.holds Tryd.pinned (.plain (OpenSpec.upto fnExactLevelsAtSpec)) fnExactLevelsAtUptoCard

/-- THE SECOND FORM's CARD OF 'laws.FnExactInstructionsOf'. -/
def fnExactInstructionsOfUptoCard : Claim7 := { stood := { row := fnExactInstructionsOfUptoRow, standIns := [], harness := (true, "c0a50427271826727e810a05fd711aa2e7d3fb4ef7d8e7f0f1bb07f2ec94fd83"), looks := true }, kinds := [], alts := [], laidByText := true, laidKinds := [.data, .pinned], laidTests := true, laidLooks := .later }
def FnExactInstructionsOfUptoCardSaid : Prop := Claim7.holds Tryd.pinned (.plain (OpenSpec.upto fnExactInstructionsOfSpec)) fnExactInstructionsOfUptoCard

/-- THE SECOND FORM's CARD OF 'laws.FnExactDepthOfCode'. -/
def fnExactDepthOfCodeUptoCard : Claim7 := { stood := { row := fnExactDepthOfCodeUptoRow, standIns := [], harness := (true, "c0a50427271826727e810a05fd711aa2e7d3fb4ef7d8e7f0f1bb07f2ec94fd83"), looks := true }, kinds := [], alts := [], laidByText := true, laidKinds := [.data, .pinned], laidTests := true, laidLooks := .later }
def FnExactDepthOfCodeUptoCardSaid : Prop := Claim7.holds Tryd.pinned (.plain (OpenSpec.upto fnExactDepthOfCodeSpec)) fnExactDepthOfCodeUptoCard

/-- THE SECOND FORM's CARD OF 'laws.FnExactVarsAt'. -/
def fnExactVarsAtUptoCard : Claim7 := { stood := { row := fnExactVarsAtUptoRow, standIns := [], harness := (true, "c0a50427271826727e810a05fd711aa2e7d3fb4ef7d8e7f0f1bb07f2ec94fd83"), looks := true }, kinds := [], alts := [], laidByText := true, laidKinds := [.data, .pinned], laidTests := true, laidLooks := .later }
def FnExactVarsAtUptoCardSaid : Prop := Claim7.holds Tryd.pinned (.plain (OpenSpec.upto fnExactVarsAtSpec)) fnExactVarsAtUptoCard

/-- THE SECOND FORM's CARD OF 'laws.FnCodeOf'. -/
def fnCodeOfUptoCard : Claim7 := { stood := { row := fnCodeOfUptoRow, standIns := [], harness := (true, "c0a50427271826727e810a05fd711aa2e7d3fb4ef7d8e7f0f1bb07f2ec94fd83"), looks := true }, kinds := [], alts := [], laidByText := true, laidKinds := [.data, .pinned], laidTests := true, laidLooks := .later }
def FnCodeOfUptoCardSaid : Prop := Claim7.holds Tryd.pinned (.plain (OpenSpec.upto fnCodeOfSpec)) fnCodeOfUptoCard

/-- THE SECOND FORM's CARD OF 'laws.FnHeights'. -/
def fnHeightsUptoCard : Claim7 := { stood := { row := fnHeightsUptoRow, standIns := [], harness := (true, "c0a50427271826727e810a05fd711aa2e7d3fb4ef7d8e7f0f1bb07f2ec94fd83"), looks := true }, kinds := [], alts := [], laidByText := true, laidKinds := [.data, .pinned], laidTests := true, laidLooks := .later }
def FnHeightsUptoCardSaid : Prop := Claim7.holds Tryd.pinned (.plain (OpenSpec.upto fnHeightsSpec)) fnHeightsUptoCard

/-- THE SECOND FORM's CARD OF 'laws.FnTermOf'. -/
def fnTermOfUptoCard : Claim7 := { stood := { row := fnTermOfUptoRow, standIns := [], harness := (true, "c0a50427271826727e810a05fd711aa2e7d3fb4ef7d8e7f0f1bb07f2ec94fd83"), looks := true }, kinds := [], alts := [], laidByText := true, laidKinds := [.data, .pinned], laidTests := true, laidLooks := .later }
def FnTermOfUptoCardSaid : Prop := Claim7.holds Tryd.pinned (.plain (OpenSpec.upto fnTermOfSpec)) fnTermOfUptoCard
end Rows
end Go.Proofs.YtkmnidbodlmaaaaDoor
