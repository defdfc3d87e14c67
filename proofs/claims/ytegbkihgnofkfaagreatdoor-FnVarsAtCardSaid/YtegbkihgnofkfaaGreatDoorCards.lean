/-
  DERIVED. GIVEN WITH THE SEED: THE CARDS: each row of YtegbkihgnofkfaaGreatDoorRows.lean that lists a variable, with what it lists TIED to the program's text (the seventh form; the later family's looks); each row that meets fmt, with fmt's text TOLD by the authors' own Lean function (tested against real Go, not proved from fmt's source: count such statements apart). THE CARD IS WHAT COUNTS. Prove the row's statement (the work); the ties are given (YtegbkihgnofkfaaGreatDoorTie.lean); close each card by the builder's one call (the guide's Derived/Test/ToyasCard.lean, 'card_holds'). Laid BY PROGRAM, IN A SANDBOX (cutbox-door.mjs). By AI agents, Wed Nov 11 2026. No macro, syntax, notation, axiom, sorry.
-/
import Derived.Test.YtegbkihgnofkfaaGreatDoorRows
import GoSem.ClaimSeven
namespace Go.Proofs.YtegbkihgnofkfaaGreatDoor
namespace Rows

/-- THE TIED CARD OF 'laws.FnVarsAt'. -/
def fnVarsAtCard : Claim7 := { stood := { row := fnVarsAtRow, standIns := [], harness := (true, "454ba2df799dca13ac23e76edee73a6dd4fa59c971dd9be9b223cc8b7a06e9c5"), looks := false }, kinds := [], alts := [], laidByText := true, laidKinds := [.data, .pinned], laidTests := true, laidLooks := .later }
def FnVarsAtCardSaid : Prop := Claim7.holds Tryz.pinned (.plain (OpenSpec.ofChange fnVarsAtSpec)) fnVarsAtCard

/-- THE SECOND FORM's CARD OF 'laws.FnVarsAt'. -/
def fnVarsAtUptoCard : Claim7 := { stood := { row := fnVarsAtUptoRow, standIns := [], harness := (true, "454ba2df799dca13ac23e76edee73a6dd4fa59c971dd9be9b223cc8b7a06e9c5"), looks := false }, kinds := [], alts := [], laidByText := true, laidKinds := [.data, .pinned], laidTests := true, laidLooks := .later }
def FnVarsAtUptoCardSaid : Prop := Claim7.holds Tryz.pinned (.plain (OpenSpec.upto fnVarsAtSpec)) fnVarsAtUptoCard
end Rows
end Go.Proofs.YtegbkihgnofkfaaGreatDoor
