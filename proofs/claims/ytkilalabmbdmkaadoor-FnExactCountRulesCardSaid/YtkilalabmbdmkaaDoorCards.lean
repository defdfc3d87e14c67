/-
  DERIVED. GIVEN WITH THE SEED: THE CARDS: each row of YtkilalabmbdmkaaDoorRows.lean that lists a variable, with what it lists TIED to the program's text (the seventh form; the later family's looks); each row that meets fmt, with fmt's text TOLD by the authors' own Lean function (tested against real Go, not proved from fmt's source: count such statements apart). THE CARD IS WHAT COUNTS. Prove the row's statement (the work); the ties are given (YtkilalabmbdmkaaDoorTie.lean); close each card by the builder's one call (the guide's Derived/Test/ToyasCard.lean, 'card_holds'). Laid BY PROGRAM, IN A SANDBOX (cutbox-door.mjs). By AI agents, Wed Nov 11 2026. No macro, syntax, notation, axiom, sorry.
-/
import Derived.Test.YtkilalabmbdmkaaDoorRows
import GoSem.ClaimSeven
namespace Go.Proofs.YtkilalabmbdmkaaDoor
namespace Rows

/-- THE TIED CARD OF 'laws.FnExactDepthOfCode'. -/
def fnExactDepthOfCodeCard : Claim7 := { stood := { row := fnExactDepthOfCodeRow, standIns := [], harness := (true, "ad374adb632e293e95fe485c734e82a3f4710cd999be5327476cf7466bd5925e"), looks := true }, kinds := [], alts := [], laidByText := true, laidKinds := [.data, .pinned], laidTests := true, laidLooks := .later }
def FnExactDepthOfCodeCardSaid : Prop := Claim7.holds Tryd.pinned (.plain (OpenSpec.ofChange fnExactDepthOfCodeSpec)) fnExactDepthOfCodeCard

/-- THE TIED CARD OF 'laws.FnExactRuleFor'. -/
def fnExactRuleForCard : Claim7 := { stood := { row := fnExactRuleForRow, standIns := [], harness := (true, "ad374adb632e293e95fe485c734e82a3f4710cd999be5327476cf7466bd5925e"), looks := true }, kinds := [], alts := [], laidByText := true, laidKinds := [.data, .data, .data], laidTests := true, laidLooks := .later }
def FnExactRuleForCardSaid : Prop := Claim7.holds Tryd.pinned (.plain (OpenSpec.ofChange fnExactRuleForSpec)) fnExactRuleForCard

/-- THE TIED CARD OF 'laws.FnExactSimplifyOnce'. -/
def fnExactSimplifyOnceCard : Claim7 := { stood := { row := fnExactSimplifyOnceRow, standIns := [], harness := (true, "ad374adb632e293e95fe485c734e82a3f4710cd999be5327476cf7466bd5925e"), looks := true }, kinds := [], alts := [], laidByText := true, laidKinds := [.data, .data, .data], laidTests := true, laidLooks := .later }
def FnExactSimplifyOnceCardSaid : Prop := Claim7.holds Tryd.pinned (.plain (OpenSpec.ofChange fnExactSimplifyOnceSpec)) fnExactSimplifyOnceCard

/-- THE TIED CARD OF 'laws.FnExactSimplifyTerm'. -/
def fnExactSimplifyTermCard : Claim7 := { stood := { row := fnExactSimplifyTermRow, standIns := [], harness := (true, "ad374adb632e293e95fe485c734e82a3f4710cd999be5327476cf7466bd5925e"), looks := true }, kinds := [], alts := [], laidByText := true, laidKinds := [.data, .data, .data], laidTests := true, laidLooks := .later }
def FnExactSimplifyTermCardSaid : Prop := Claim7.holds Tryd.pinned (.plain (OpenSpec.ofChange fnExactSimplifyTermSpec)) fnExactSimplifyTermCard

/-- THE TIED CARD OF 'laws.FnExactIsSimple'. -/
def fnExactIsSimpleCard : Claim7 := { stood := { row := fnExactIsSimpleRow, standIns := [], harness := (true, "ad374adb632e293e95fe485c734e82a3f4710cd999be5327476cf7466bd5925e"), looks := true }, kinds := [], alts := [], laidByText := true, laidKinds := [.data, .data, .data], laidTests := true, laidLooks := .later }
def FnExactIsSimpleCardSaid : Prop := Claim7.holds Tryd.pinned (.plain (OpenSpec.ofChange fnExactIsSimpleSpec)) fnExactIsSimpleCard

/-- THE TIED CARD OF 'laws.FnExactCountRules'. -/
def fnExactCountRulesCard : Claim7 := { stood := { row := fnExactCountRulesRow, standIns := [], harness := (true, "ad374adb632e293e95fe485c734e82a3f4710cd999be5327476cf7466bd5925e"), looks := true }, kinds := [], alts := [], laidByText := true, laidKinds := [.data, .data, .data], laidTests := true, laidLooks := .later }
def FnExactCountRulesCardSaid : Prop := Claim7.holds Tryd.pinned (.plain (OpenSpec.ofChange fnExactCountRulesSpec)) fnExactCountRulesCard

/-- THE SECOND FORM's CARD OF 'laws.FnExactDepthOfCode'. -/
def fnExactDepthOfCodeUptoCard : Claim7 := { stood := { row := fnExactDepthOfCodeUptoRow, standIns := [], harness := (true, "ad374adb632e293e95fe485c734e82a3f4710cd999be5327476cf7466bd5925e"), looks := true }, kinds := [], alts := [], laidByText := true, laidKinds := [.data, .pinned], laidTests := true, laidLooks := .later }
def FnExactDepthOfCodeUptoCardSaid : Prop := Claim7.holds Tryd.pinned (.plain (OpenSpec.upto fnExactDepthOfCodeSpec)) fnExactDepthOfCodeUptoCard

/-- THE SECOND FORM's CARD OF 'laws.FnExactRuleFor'. -/
def fnExactRuleForUptoCard : Claim7 := { stood := { row := fnExactRuleForUptoRow, standIns := [], harness := (true, "ad374adb632e293e95fe485c734e82a3f4710cd999be5327476cf7466bd5925e"), looks := true }, kinds := [], alts := [], laidByText := true, laidKinds := [.data, .data, .data], laidTests := true, laidLooks := .later }
def FnExactRuleForUptoCardSaid : Prop := Claim7.holds Tryd.pinned (.plain (OpenSpec.upto fnExactRuleForSpec)) fnExactRuleForUptoCard

/-- THE SECOND FORM's CARD OF 'laws.FnExactSimplifyOnce'. -/
def fnExactSimplifyOnceUptoCard : Claim7 := { stood := { row := fnExactSimplifyOnceUptoRow, standIns := [], harness := (true, "ad374adb632e293e95fe485c734e82a3f4710cd999be5327476cf7466bd5925e"), looks := true }, kinds := [], alts := [], laidByText := true, laidKinds := [.data, .data, .data], laidTests := true, laidLooks := .later }
def FnExactSimplifyOnceUptoCardSaid : Prop := Claim7.holds Tryd.pinned (.plain (OpenSpec.upto fnExactSimplifyOnceSpec)) fnExactSimplifyOnceUptoCard

/-- THE SECOND FORM's CARD OF 'laws.FnExactSimplifyTerm'. -/
def fnExactSimplifyTermUptoCard : Claim7 := { stood := { row := fnExactSimplifyTermUptoRow, standIns := [], harness := (true, "ad374adb632e293e95fe485c734e82a3f4710cd999be5327476cf7466bd5925e"), looks := true }, kinds := [], alts := [], laidByText := true, laidKinds := [.data, .data, .data], laidTests := true, laidLooks := .later }
def FnExactSimplifyTermUptoCardSaid : Prop := Claim7.holds Tryd.pinned (.plain (OpenSpec.upto fnExactSimplifyTermSpec)) fnExactSimplifyTermUptoCard

/-- THE SECOND FORM's CARD OF 'laws.FnExactIsSimple'. -/
def fnExactIsSimpleUptoCard : Claim7 := { stood := { row := fnExactIsSimpleUptoRow, standIns := [], harness := (true, "ad374adb632e293e95fe485c734e82a3f4710cd999be5327476cf7466bd5925e"), looks := true }, kinds := [], alts := [], laidByText := true, laidKinds := [.data, .data, .data], laidTests := true, laidLooks := .later }
def FnExactIsSimpleUptoCardSaid : Prop := Claim7.holds Tryd.pinned (.plain (OpenSpec.upto fnExactIsSimpleSpec)) fnExactIsSimpleUptoCard

/-- THE SECOND FORM's CARD OF 'laws.FnExactCountRules'. -/
def fnExactCountRulesUptoCard : Claim7 := { stood := { row := fnExactCountRulesUptoRow, standIns := [], harness := (true, "ad374adb632e293e95fe485c734e82a3f4710cd999be5327476cf7466bd5925e"), looks := true }, kinds := [], alts := [], laidByText := true, laidKinds := [.data, .data, .data], laidTests := true, laidLooks := .later }
def FnExactCountRulesUptoCardSaid : Prop := Claim7.holds Tryd.pinned (.plain (OpenSpec.upto fnExactCountRulesSpec)) fnExactCountRulesUptoCard
end Rows
end Go.Proofs.YtkilalabmbdmkaaDoor
