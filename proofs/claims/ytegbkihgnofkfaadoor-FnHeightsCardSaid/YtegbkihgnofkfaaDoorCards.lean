/-
  DERIVED. GIVEN WITH THE SEED: THE CARDS: each row of YtegbkihgnofkfaaDoorRows.lean that lists a variable, with what it lists TIED to the program's text (the seventh form; the later family's looks); each row that meets fmt, with fmt's text TOLD by the authors' own Lean function (tested against real Go, not proved from fmt's source: count such statements apart). THE CARD IS WHAT COUNTS. Prove the row's statement (the work); the ties are given (YtegbkihgnofkfaaDoorTie.lean); close each card by the builder's one call (the guide's Derived/Test/ToyasCard.lean, 'card_holds'). Laid BY PROGRAM, IN A SANDBOX (cutbox-door.mjs). By AI agents, Wed Nov 11 2026. No macro, syntax, notation, axiom, sorry.
-/
import Derived.Test.YtegbkihgnofkfaaDoorRows
import GoSem.ClaimSeven
namespace Go.Proofs.YtegbkihgnofkfaaDoor
namespace Rows

/-- THE TIED CARD OF 'laws.FnCodeOf'. -/
def fnCodeOfCard : Claim7 := { stood := { row := fnCodeOfRow, standIns := [], harness := (true, "3af7dd1300bf7365e15fd501b0096e495b2c7a6b310345fe852865b5cfc4d8bd"), looks := true }, kinds := [], alts := [], laidByText := true, laidKinds := [.data, .pinned], laidTests := true, laidLooks := .later }
def FnCodeOfCardSaid : Prop := Claim7.holds Tryd.pinned (.plain (OpenSpec.ofChange fnCodeOfSpec)) fnCodeOfCard

/-- THE TIED CARD OF 'laws.FnHeights'. -/
def fnHeightsCard : Claim7 := { stood := { row := fnHeightsRow, standIns := [], harness := (true, "3af7dd1300bf7365e15fd501b0096e495b2c7a6b310345fe852865b5cfc4d8bd"), looks := true }, kinds := [], alts := [], laidByText := true, laidKinds := [.data, .pinned], laidTests := true, laidLooks := .later }
def FnHeightsCardSaid : Prop := Claim7.holds Tryd.pinned (.plain (OpenSpec.ofChange fnHeightsSpec)) fnHeightsCard

/-- THE TIED CARD OF 'laws.FnTermOf'. -/
def fnTermOfCard : Claim7 := { stood := { row := fnTermOfRow, standIns := [], harness := (true, "3af7dd1300bf7365e15fd501b0096e495b2c7a6b310345fe852865b5cfc4d8bd"), looks := true }, kinds := [], alts := [], laidByText := true, laidKinds := [.data, .pinned], laidTests := true, laidLooks := .later }
def FnTermOfCardSaid : Prop := Claim7.holds Tryd.pinned (.plain (OpenSpec.ofChange fnTermOfSpec)) fnTermOfCard

/-- THE TIED CARD OF 'laws.FnCountRules'. -/
def fnCountRulesCard : Claim7 := { stood := { row := fnCountRulesRow, standIns := [], harness := (true, "3af7dd1300bf7365e15fd501b0096e495b2c7a6b310345fe852865b5cfc4d8bd"), looks := true }, kinds := [], alts := [], laidByText := true, laidKinds := [.data, .data, .data], laidTests := true, laidLooks := .later }
def FnCountRulesCardSaid : Prop := Claim7.holds Tryd.pinned (.plain (OpenSpec.ofChange fnCountRulesSpec)) fnCountRulesCard

/-- THE TIED CARD OF 'laws.FnIsSimple'. -/
def fnIsSimpleCard : Claim7 := { stood := { row := fnIsSimpleRow, standIns := [], harness := (true, "3af7dd1300bf7365e15fd501b0096e495b2c7a6b310345fe852865b5cfc4d8bd"), looks := true }, kinds := [], alts := [], laidByText := true, laidKinds := [.data, .data, .data], laidTests := true, laidLooks := .later }
def FnIsSimpleCardSaid : Prop := Claim7.holds Tryd.pinned (.plain (OpenSpec.ofChange fnIsSimpleSpec)) fnIsSimpleCard

/-- THE SECOND FORM's CARD OF 'laws.FnCodeOf'. -/
def fnCodeOfUptoCard : Claim7 := { stood := { row := fnCodeOfUptoRow, standIns := [], harness := (true, "3af7dd1300bf7365e15fd501b0096e495b2c7a6b310345fe852865b5cfc4d8bd"), looks := true }, kinds := [], alts := [], laidByText := true, laidKinds := [.data, .pinned], laidTests := true, laidLooks := .later }
def FnCodeOfUptoCardSaid : Prop := Claim7.holds Tryd.pinned (.plain (OpenSpec.upto fnCodeOfSpec)) fnCodeOfUptoCard

/-- THE SECOND FORM's CARD OF 'laws.FnHeights'. -/
def fnHeightsUptoCard : Claim7 := { stood := { row := fnHeightsUptoRow, standIns := [], harness := (true, "3af7dd1300bf7365e15fd501b0096e495b2c7a6b310345fe852865b5cfc4d8bd"), looks := true }, kinds := [], alts := [], laidByText := true, laidKinds := [.data, .pinned], laidTests := true, laidLooks := .later }
def FnHeightsUptoCardSaid : Prop := Claim7.holds Tryd.pinned (.plain (OpenSpec.upto fnHeightsSpec)) fnHeightsUptoCard

/-- THE SECOND FORM's CARD OF 'laws.FnTermOf'. -/
def fnTermOfUptoCard : Claim7 := { stood := { row := fnTermOfUptoRow, standIns := [], harness := (true, "3af7dd1300bf7365e15fd501b0096e495b2c7a6b310345fe852865b5cfc4d8bd"), looks := true }, kinds := [], alts := [], laidByText := true, laidKinds := [.data, .pinned], laidTests := true, laidLooks := .later }
def FnTermOfUptoCardSaid : Prop := Claim7.holds Tryd.pinned (.plain (OpenSpec.upto fnTermOfSpec)) fnTermOfUptoCard

/-- THE SECOND FORM's CARD OF 'laws.FnCountRules'. -/
def fnCountRulesUptoCard : Claim7 := { stood := { row := fnCountRulesUptoRow, standIns := [], harness := (true, "3af7dd1300bf7365e15fd501b0096e495b2c7a6b310345fe852865b5cfc4d8bd"), looks := true }, kinds := [], alts := [], laidByText := true, laidKinds := [.data, .data, .data], laidTests := true, laidLooks := .later }
def FnCountRulesUptoCardSaid : Prop := Claim7.holds Tryd.pinned (.plain (OpenSpec.upto fnCountRulesSpec)) fnCountRulesUptoCard

/-- THE SECOND FORM's CARD OF 'laws.FnIsSimple'. -/
def fnIsSimpleUptoCard : Claim7 := { stood := { row := fnIsSimpleUptoRow, standIns := [], harness := (true, "3af7dd1300bf7365e15fd501b0096e495b2c7a6b310345fe852865b5cfc4d8bd"), looks := true }, kinds := [], alts := [], laidByText := true, laidKinds := [.data, .data, .data], laidTests := true, laidLooks := .later }
def FnIsSimpleUptoCardSaid : Prop := Claim7.holds Tryd.pinned (.plain (OpenSpec.upto fnIsSimpleSpec)) fnIsSimpleUptoCard
end Rows
end Go.Proofs.YtegbkihgnofkfaaDoor
