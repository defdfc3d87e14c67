/-
  DERIVED. GIVEN WITH THE SEED: THE CARDS: each row of YtdhfdepnleioiaaDoorRows.lean that lists a variable, with what it lists TIED to the program's text (the seventh form; the later family's looks); each row that meets fmt, with fmt's text TOLD by the authors' own Lean function (tested against real Go, not proved from fmt's source: count such statements apart). THE CARD IS WHAT COUNTS. Prove the row's statement (the work); the ties are given (YtdhfdepnleioiaaDoorTie.lean); close each card by the builder's one call (the guide's Derived/Test/ToyasCard.lean, 'card_holds'). Laid BY PROGRAM, IN A SANDBOX (cutbox-door.mjs). By AI agents, Wed Nov 11 2026. No macro, syntax, notation, axiom, sorry.
-/
import Derived.Test.YtdhfdepnleioiaaDoorRows
import GoSem.ClaimSeven
namespace Go.Proofs.YtdhfdepnleioiaaDoor
namespace Rows

/-- THE TIED CARD OF 'laws.FnExactArrayValid'. -/
def fnExactArrayValidCard : Claim7 := { stood := { row := fnExactArrayValidRow, standIns := [], harness := (true, "41d3150f88d8ed534ab1d38466cbe6a5633e62a17a65ef44fbf66516c6177c59"), looks := true }, kinds := [], alts := [], laidByText := true, laidKinds := [.data, .data, .data, .sentinel, .sentinel], laidTests := true, laidLooks := .later }
def FnExactArrayValidCardSaid : Prop := Claim7.holds Tryd.pinned (.plain (OpenSpec.ofChange fnExactArrayValidSpec)) fnExactArrayValidCard

/-- THE TIED CARD OF 'laws.FnExactInputsValid'. -/
def fnExactInputsValidCard : Claim7 := { stood := { row := fnExactInputsValidRow, standIns := [], harness := (true, "41d3150f88d8ed534ab1d38466cbe6a5633e62a17a65ef44fbf66516c6177c59"), looks := true }, kinds := [], alts := [], laidByText := true, laidKinds := [.data, .data, .data, .sentinel, .sentinel], laidTests := true, laidLooks := .later }
def FnExactInputsValidCardSaid : Prop := Claim7.holds Tryd.pinned (.plain (OpenSpec.ofChange fnExactInputsValidSpec)) fnExactInputsValidCard

/-- THE TIED CARD OF 'laws.FnExactLeastDepth'. -/
def fnExactLeastDepthCard : Claim7 := { stood := { row := fnExactLeastDepthRow, standIns := [], harness := (true, "41d3150f88d8ed534ab1d38466cbe6a5633e62a17a65ef44fbf66516c6177c59"), looks := true }, kinds := [], alts := [], laidByText := true, laidKinds := [.data, .data, .data, .sentinel, .sentinel], laidTests := true, laidLooks := .later }
def FnExactLeastDepthCardSaid : Prop := Claim7.holds Tryd.pinned (.plain (OpenSpec.ofChange fnExactLeastDepthSpec)) fnExactLeastDepthCard

/-- THE TIED CARD OF 'laws.FnExactNumbersOf'. -/
def fnExactNumbersOfCard : Claim7 := { stood := { row := fnExactNumbersOfRow, standIns := [], harness := (true, "41d3150f88d8ed534ab1d38466cbe6a5633e62a17a65ef44fbf66516c6177c59"), looks := true }, kinds := [], alts := [], laidByText := true, laidKinds := [.data, .data, .data, .sentinel, .sentinel], laidTests := true, laidLooks := .later }
def FnExactNumbersOfCardSaid : Prop := Claim7.holds Tryd.pinned (.plain (OpenSpec.ofChange fnExactNumbersOfSpec)) fnExactNumbersOfCard

/-- THE TIED CARD OF 'laws.FnExactLengthOf'. -/
def fnExactLengthOfCard : Claim7 := { stood := { row := fnExactLengthOfRow, standIns := [], harness := (true, "41d3150f88d8ed534ab1d38466cbe6a5633e62a17a65ef44fbf66516c6177c59"), looks := true }, kinds := [], alts := [], laidByText := true, laidKinds := [.data, .data, .data, .sentinel, .sentinel], laidTests := true, laidLooks := .later }
def FnExactLengthOfCardSaid : Prop := Claim7.holds Tryd.pinned (.plain (OpenSpec.ofChange fnExactLengthOfSpec)) fnExactLengthOfCard

/-- THE TIED CARD OF 'laws.FnExactJoinArrays'. -/
def fnExactJoinArraysCard : Claim7 := { stood := { row := fnExactJoinArraysRow, standIns := [], harness := (true, "41d3150f88d8ed534ab1d38466cbe6a5633e62a17a65ef44fbf66516c6177c59"), looks := true }, kinds := [], alts := [], laidByText := true, laidKinds := [.data, .data, .data, .sentinel, .sentinel], laidTests := true, laidLooks := .later }
def FnExactJoinArraysCardSaid : Prop := Claim7.holds Tryd.pinned (.plain (OpenSpec.ofChange fnExactJoinArraysSpec)) fnExactJoinArraysCard

/-- THE TIED CARD OF 'laws.FnExactTurnArray'. -/
def fnExactTurnArrayCard : Claim7 := { stood := { row := fnExactTurnArrayRow, standIns := [], harness := (true, "41d3150f88d8ed534ab1d38466cbe6a5633e62a17a65ef44fbf66516c6177c59"), looks := true }, kinds := [], alts := [], laidByText := true, laidKinds := [.data, .data, .data, .sentinel, .sentinel], laidTests := true, laidLooks := .later }
def FnExactTurnArrayCardSaid : Prop := Claim7.holds Tryd.pinned (.plain (OpenSpec.ofChange fnExactTurnArraySpec)) fnExactTurnArrayCard

/-- THE TIED CARD OF 'laws.FnExactPartsOf'. -/
def fnExactPartsOfCard : Claim7 := { stood := { row := fnExactPartsOfRow, standIns := [], harness := (true, "41d3150f88d8ed534ab1d38466cbe6a5633e62a17a65ef44fbf66516c6177c59"), looks := true }, kinds := [], alts := [], laidByText := true, laidKinds := [.data, .data, .data, .sentinel, .sentinel], laidTests := true, laidLooks := .later }
def FnExactPartsOfCardSaid : Prop := Claim7.holds Tryd.pinned (.plain (OpenSpec.ofChange fnExactPartsOfSpec)) fnExactPartsOfCard

/-- THE TIED CARD OF 'laws.FnExactMakeArray'. -/
def fnExactMakeArrayCard : Claim7 := { stood := { row := fnExactMakeArrayRow, standIns := [], harness := (true, "41d3150f88d8ed534ab1d38466cbe6a5633e62a17a65ef44fbf66516c6177c59"), looks := true }, kinds := [], alts := [], laidByText := true, laidKinds := [.data, .data, .data, .sentinel, .sentinel], laidTests := true, laidLooks := .later }
def FnExactMakeArrayCardSaid : Prop := Claim7.holds Tryd.pinned (.plain (OpenSpec.ofChange fnExactMakeArraySpec)) fnExactMakeArrayCard

/-- THE TIED CARD OF 'laws.FnExactFlattenOnce'. -/
def fnExactFlattenOnceCard : Claim7 := { stood := { row := fnExactFlattenOnceRow, standIns := [], harness := (true, "41d3150f88d8ed534ab1d38466cbe6a5633e62a17a65ef44fbf66516c6177c59"), looks := true }, kinds := [], alts := [], laidByText := true, laidKinds := [.data, .data, .data, .sentinel, .sentinel], laidTests := true, laidLooks := .later }
def FnExactFlattenOnceCardSaid : Prop := Claim7.holds Tryd.pinned (.plain (OpenSpec.ofChange fnExactFlattenOnceSpec)) fnExactFlattenOnceCard

/-- THE TIED CARD OF 'laws.FnExactLayOut'. -/
def fnExactLayOutCard : Claim7 := { stood := { row := fnExactLayOutRow, standIns := [], harness := (true, "41d3150f88d8ed534ab1d38466cbe6a5633e62a17a65ef44fbf66516c6177c59"), looks := true }, kinds := [], alts := [], laidByText := true, laidKinds := [.data, .data, .data, .sentinel, .sentinel], laidTests := true, laidLooks := .later }
def FnExactLayOutCardSaid : Prop := Claim7.holds Tryd.pinned (.plain (OpenSpec.ofChange fnExactLayOutSpec)) fnExactLayOutCard

/-- THE TIED CARD OF 'laws.FnNumbersOf'. -/
def fnNumbersOfCard : Claim7 := { stood := { row := fnNumbersOfRow, standIns := [], harness := (true, "41d3150f88d8ed534ab1d38466cbe6a5633e62a17a65ef44fbf66516c6177c59"), looks := true }, kinds := [], alts := [], laidByText := true, laidKinds := [.data, .data, .data, .sentinel, .sentinel], laidTests := true, laidLooks := .later }
def FnNumbersOfCardSaid : Prop := Claim7.holds Tryd.pinned (.plain (OpenSpec.ofChange fnNumbersOfSpec)) fnNumbersOfCard

/-- THE SECOND FORM's CARD OF 'laws.FnExactArrayValid'. -/
def fnExactArrayValidUptoCard : Claim7 := { stood := { row := fnExactArrayValidUptoRow, standIns := [], harness := (true, "41d3150f88d8ed534ab1d38466cbe6a5633e62a17a65ef44fbf66516c6177c59"), looks := true }, kinds := [], alts := [], laidByText := true, laidKinds := [.data, .data, .data, .sentinel, .sentinel], laidTests := true, laidLooks := .later }
def FnExactArrayValidUptoCardSaid : Prop := Claim7.holds Tryd.pinned (.plain (OpenSpec.upto fnExactArrayValidSpec)) fnExactArrayValidUptoCard

/-- THE SECOND FORM's CARD OF 'laws.FnExactInputsValid'. -/
def fnExactInputsValidUptoCard : Claim7 := { stood := { row := fnExactInputsValidUptoRow, standIns := [], harness := (true, "41d3150f88d8ed534ab1d38466cbe6a5633e62a17a65ef44fbf66516c6177c59"), looks := true }, kinds := [], alts := [], laidByText := true, laidKinds := [.data, .data, .data, .sentinel, .sentinel], laidTests := true, laidLooks := .later }
def FnExactInputsValidUptoCardSaid : Prop := Claim7.holds Tryd.pinned (.plain (OpenSpec.upto fnExactInputsValidSpec)) fnExactInputsValidUptoCard

/-- THE SECOND FORM's CARD OF 'laws.FnExactLeastDepth'. -/
def fnExactLeastDepthUptoCard : Claim7 := { stood := { row := fnExactLeastDepthUptoRow, standIns := [], harness := (true, "41d3150f88d8ed534ab1d38466cbe6a5633e62a17a65ef44fbf66516c6177c59"), looks := true }, kinds := [], alts := [], laidByText := true, laidKinds := [.data, .data, .data, .sentinel, .sentinel], laidTests := true, laidLooks := .later }
def FnExactLeastDepthUptoCardSaid : Prop := Claim7.holds Tryd.pinned (.plain (OpenSpec.upto fnExactLeastDepthSpec)) fnExactLeastDepthUptoCard

/-- THE SECOND FORM's CARD OF 'laws.FnExactNumbersOf'. -/
def fnExactNumbersOfUptoCard : Claim7 := { stood := { row := fnExactNumbersOfUptoRow, standIns := [], harness := (true, "41d3150f88d8ed534ab1d38466cbe6a5633e62a17a65ef44fbf66516c6177c59"), looks := true }, kinds := [], alts := [], laidByText := true, laidKinds := [.data, .data, .data, .sentinel, .sentinel], laidTests := true, laidLooks := .later }
def FnExactNumbersOfUptoCardSaid : Prop := Claim7.holds Tryd.pinned (.plain (OpenSpec.upto fnExactNumbersOfSpec)) fnExactNumbersOfUptoCard

/-- THE SECOND FORM's CARD OF 'laws.FnExactLengthOf'. -/
def fnExactLengthOfUptoCard : Claim7 := { stood := { row := fnExactLengthOfUptoRow, standIns := [], harness := (true, "41d3150f88d8ed534ab1d38466cbe6a5633e62a17a65ef44fbf66516c6177c59"), looks := true }, kinds := [], alts := [], laidByText := true, laidKinds := [.data, .data, .data, .sentinel, .sentinel], laidTests := true, laidLooks := .later }
def FnExactLengthOfUptoCardSaid : Prop := Claim7.holds Tryd.pinned (.plain (OpenSpec.upto fnExactLengthOfSpec)) fnExactLengthOfUptoCard

/-- THE SECOND FORM's CARD OF 'laws.FnExactJoinArrays'. -/
def fnExactJoinArraysUptoCard : Claim7 := { stood := { row := fnExactJoinArraysUptoRow, standIns := [], harness := (true, "41d3150f88d8ed534ab1d38466cbe6a5633e62a17a65ef44fbf66516c6177c59"), looks := true }, kinds := [], alts := [], laidByText := true, laidKinds := [.data, .data, .data, .sentinel, .sentinel], laidTests := true, laidLooks := .later }
def FnExactJoinArraysUptoCardSaid : Prop := Claim7.holds Tryd.pinned (.plain (OpenSpec.upto fnExactJoinArraysSpec)) fnExactJoinArraysUptoCard

/-- THE SECOND FORM's CARD OF 'laws.FnExactTurnArray'. -/
def fnExactTurnArrayUptoCard : Claim7 := { stood := { row := fnExactTurnArrayUptoRow, standIns := [], harness := (true, "41d3150f88d8ed534ab1d38466cbe6a5633e62a17a65ef44fbf66516c6177c59"), looks := true }, kinds := [], alts := [], laidByText := true, laidKinds := [.data, .data, .data, .sentinel, .sentinel], laidTests := true, laidLooks := .later }
def FnExactTurnArrayUptoCardSaid : Prop := Claim7.holds Tryd.pinned (.plain (OpenSpec.upto fnExactTurnArraySpec)) fnExactTurnArrayUptoCard

/-- THE SECOND FORM's CARD OF 'laws.FnExactPartsOf'. -/
def fnExactPartsOfUptoCard : Claim7 := { stood := { row := fnExactPartsOfUptoRow, standIns := [], harness := (true, "41d3150f88d8ed534ab1d38466cbe6a5633e62a17a65ef44fbf66516c6177c59"), looks := true }, kinds := [], alts := [], laidByText := true, laidKinds := [.data, .data, .data, .sentinel, .sentinel], laidTests := true, laidLooks := .later }
def FnExactPartsOfUptoCardSaid : Prop := Claim7.holds Tryd.pinned (.plain (OpenSpec.upto fnExactPartsOfSpec)) fnExactPartsOfUptoCard

/-- THE SECOND FORM's CARD OF 'laws.FnExactMakeArray'. -/
def fnExactMakeArrayUptoCard : Claim7 := { stood := { row := fnExactMakeArrayUptoRow, standIns := [], harness := (true, "41d3150f88d8ed534ab1d38466cbe6a5633e62a17a65ef44fbf66516c6177c59"), looks := true }, kinds := [], alts := [], laidByText := true, laidKinds := [.data, .data, .data, .sentinel, .sentinel], laidTests := true, laidLooks := .later }
def FnExactMakeArrayUptoCardSaid : Prop := Claim7.holds Tryd.pinned (.plain (OpenSpec.upto fnExactMakeArraySpec)) fnExactMakeArrayUptoCard

/-- THE SECOND FORM's CARD OF 'laws.FnExactFlattenOnce'. -/
def fnExactFlattenOnceUptoCard : Claim7 := { stood := { row := fnExactFlattenOnceUptoRow, standIns := [], harness := (true, "41d3150f88d8ed534ab1d38466cbe6a5633e62a17a65ef44fbf66516c6177c59"), looks := true }, kinds := [], alts := [], laidByText := true, laidKinds := [.data, .data, .data, .sentinel, .sentinel], laidTests := true, laidLooks := .later }
def FnExactFlattenOnceUptoCardSaid : Prop := Claim7.holds Tryd.pinned (.plain (OpenSpec.upto fnExactFlattenOnceSpec)) fnExactFlattenOnceUptoCard

/-- THE SECOND FORM's CARD OF 'laws.FnExactLayOut'. -/
def fnExactLayOutUptoCard : Claim7 := { stood := { row := fnExactLayOutUptoRow, standIns := [], harness := (true, "41d3150f88d8ed534ab1d38466cbe6a5633e62a17a65ef44fbf66516c6177c59"), looks := true }, kinds := [], alts := [], laidByText := true, laidKinds := [.data, .data, .data, .sentinel, .sentinel], laidTests := true, laidLooks := .later }
def FnExactLayOutUptoCardSaid : Prop := Claim7.holds Tryd.pinned (.plain (OpenSpec.upto fnExactLayOutSpec)) fnExactLayOutUptoCard

/-- THE SECOND FORM's CARD OF 'laws.FnNumbersOf'. -/
def fnNumbersOfUptoCard : Claim7 := { stood := { row := fnNumbersOfUptoRow, standIns := [], harness := (true, "41d3150f88d8ed534ab1d38466cbe6a5633e62a17a65ef44fbf66516c6177c59"), looks := true }, kinds := [], alts := [], laidByText := true, laidKinds := [.data, .data, .data, .sentinel, .sentinel], laidTests := true, laidLooks := .later }
def FnNumbersOfUptoCardSaid : Prop := Claim7.holds Tryd.pinned (.plain (OpenSpec.upto fnNumbersOfSpec)) fnNumbersOfUptoCard
end Rows
end Go.Proofs.YtdhfdepnleioiaaDoor
