/-
  NARROWER THAN 'FOR EVERY INPUT', by the rows' own cells (each row's printed sentence says how): FnExactTermOf: laid · FnExactCodeValid: laid · FnExactHeightsOf: laid · FnExactLevelsAt: laid · FnExactInstructionsOf: laid · FnExactDepthOfCode: laid · FnExactVarsAt: laid · FnCodeOf: laid · FnHeights: laid · FnTermOf: laid.
  DERIVED. THE GIVEN ROWS OF THIS SEAT. 10 by the template 'for every input the law returns true; each argument reads behind the call as it read before'; 0 by the template 'total and deterministic' (their statements: YtkmnidbodlmaaaaDoorTotals.lean).
  GIVEN WITH THE SEED: the statements are not yours to turn. If you find one false, say at which input.
  Laid BY PROGRAM, IN A SANDBOX (cutbox-rows.mjs): the forced cells as the released guide's own fill.sh prints them over the translation 774647780191094c… (all of the seat's roots in one cut). By AI agents, Wed Nov 11 2026. No macro, syntax, notation, axiom, sorry.
-/
import Derived.Test.YtkmnidbodlmaaaaDoorChecked
import GoSem.PinnedTables
import GoSem.Claim
import GoSem.ClaimJoined
import GoSem.ClaimMapViews
import Derived.JoinedTies
import Derived.KernelRfl
namespace Go.Proofs.YtkmnidbodlmaaaaDoor
/- THE CELL 'sum', in the pinned program and in every row, IS THE sha256 OF THE DUMP (.gsa) THAT YtkmnidbodlmaaaaDoorProg.lean LOADS. Nothing in Lean hashes anything: it is a label: what it is worth is what the hold of that sum in a sandbox is worth. -/
noncomputable def Tryd.pinned : Pinned := { name := "ytkmnidbodlmaaaadoor", sum := "774647780191094cdae32fe04f5a17be55656df4c6b7de6beb765c5f96a2447a", checked := Tryd.checked }
namespace Rows
def none {H : Type} : Left H := { results := [], args := [] }

/- WHAT THE LISTED PACKAGE-LEVEL VARIABLES READ AS WHEN THE CALL BEGINS. Each datum BY PROGRAM (the guide's laid-datum.mjs) off the statement by which the dump's own 'gosem.cut.vars' lays the variable. In a bare row this is a premise. The card (YtkmnidbodlmaaaaDoorCards.lean) ties it to the program's text. -/
def laid_unicode_utf8_acceptRanges {H : Type} : DataW H := .agg [.agg [.lit (.int .u8 128), .lit (.int .u8 191)], .agg [.lit (.int .u8 160), .lit (.int .u8 191)], .agg [.lit (.int .u8 128), .lit (.int .u8 159)], .agg [.lit (.int .u8 144), .lit (.int .u8 191)], .agg [.lit (.int .u8 128), .lit (.int .u8 143)], .agg [.lit (.int .u8 0), .lit (.int .u8 0)], .agg [.lit (.int .u8 0), .lit (.int .u8 0)], .agg [.lit (.int .u8 0), .lit (.int .u8 0)], .agg [.lit (.int .u8 0), .lit (.int .u8 0)], .agg [.lit (.int .u8 0), .lit (.int .u8 0)], .agg [.lit (.int .u8 0), .lit (.int .u8 0)], .agg [.lit (.int .u8 0), .lit (.int .u8 0)], .agg [.lit (.int .u8 0), .lit (.int .u8 0)], .agg [.lit (.int .u8 0), .lit (.int .u8 0)], .agg [.lit (.int .u8 0), .lit (.int .u8 0)], .agg [.lit (.int .u8 0), .lit (.int .u8 0)]]
/-- One of Go's own tables, pinned by name: the form's constant. -/
def laid_unicode_utf8_first : DataW Unit := Go.Pinned.utf8First

/-- 'laws.FnExactTermOf': WHATEVER THE INPUT: true; the input reads as it did. -/
def fnExactTermOfSpec : ChangeSpec := { name := "fnExactTermOf", fn := fun _ => fun
  | [d] => { results := [.lit (.bool true)], args := [d] }
  | _ => none }
def fnExactTermOfRow : OpenClaim := { program := "ytkmnidbodlmaaaadoor", sum := "774647780191094cdae32fe04f5a17be55656df4c6b7de6beb765c5f96a2447a", func := "loop.example/flatarrays/laws.FnExactTermOf", spec := "fnExactTermOf", inPlace := ["internal/bytealg.CountString", "internal/bytealg.IndexByteString", "internal/bytealg.IndexString", "internal/abi.NoEscape", "internal/bytealg.MakeNoZero"], recurses := true, named := ["unicode/utf8.first", "unicode/utf8.acceptRanges", "internal/bytealg.MaxLen"], apart := false, laid := [("unicode/utf8.acceptRanges", laid_unicode_utf8_acceptRanges), ("unicode/utf8.first", laid_unicode_utf8_first)] }
def FnExactTermOfSaid : Prop := fnExactTermOfRow.holds Tryd.pinned (OpenSpec.ofChange fnExactTermOfSpec)

/-- ITS FALSE NEIGHBOUR: 'it returns false'. Refute it at one input. -/
def fnExactTermOfWrong : ChangeSpec := { name := "fnExactTermOf", fn := fun _ => fun
  | [d] => { results := [.lit (.bool false)], args := [d] }
  | _ => none }
def FnExactTermOfWrongFalsely : Prop := fnExactTermOfRow.holds Tryd.pinned (OpenSpec.ofChange fnExactTermOfWrong)

/-- 'laws.FnExactCodeValid': WHATEVER THE INPUT: true; the input reads as it did. -/
def fnExactCodeValidSpec : ChangeSpec := { name := "fnExactCodeValid", fn := fun _ => fun
  | [d] => { results := [.lit (.bool true)], args := [d] }
  | _ => none }
def fnExactCodeValidRow : OpenClaim := { program := "ytkmnidbodlmaaaadoor", sum := "774647780191094cdae32fe04f5a17be55656df4c6b7de6beb765c5f96a2447a", func := "loop.example/flatarrays/laws.FnExactCodeValid", spec := "fnExactCodeValid", inPlace := ["internal/bytealg.CountString", "internal/bytealg.IndexByteString", "internal/bytealg.IndexString", "internal/abi.NoEscape", "internal/bytealg.MakeNoZero"], recurses := true, named := ["unicode/utf8.first", "unicode/utf8.acceptRanges", "internal/bytealg.MaxLen"], apart := false, laid := [("unicode/utf8.acceptRanges", laid_unicode_utf8_acceptRanges), ("unicode/utf8.first", laid_unicode_utf8_first)] }
def FnExactCodeValidSaid : Prop := fnExactCodeValidRow.holds Tryd.pinned (OpenSpec.ofChange fnExactCodeValidSpec)

/-- ITS FALSE NEIGHBOUR: 'it returns false'. Refute it at one input. -/
def fnExactCodeValidWrong : ChangeSpec := { name := "fnExactCodeValid", fn := fun _ => fun
  | [d] => { results := [.lit (.bool false)], args := [d] }
  | _ => none }
def FnExactCodeValidWrongFalsely : Prop := fnExactCodeValidRow.holds Tryd.pinned (OpenSpec.ofChange fnExactCodeValidWrong)

/-- 'laws.FnExactHeightsOf': WHATEVER THE INPUT: true; the input reads as it did. -/
def fnExactHeightsOfSpec : ChangeSpec := { name := "fnExactHeightsOf", fn := fun _ => fun
  | [d] => { results := [.lit (.bool true)], args := [d] }
  | _ => none }
def fnExactHeightsOfRow : OpenClaim := { program := "ytkmnidbodlmaaaadoor", sum := "774647780191094cdae32fe04f5a17be55656df4c6b7de6beb765c5f96a2447a", func := "loop.example/flatarrays/laws.FnExactHeightsOf", spec := "fnExactHeightsOf", inPlace := ["internal/bytealg.CountString", "internal/bytealg.IndexByteString", "internal/bytealg.IndexString", "internal/abi.NoEscape", "internal/bytealg.MakeNoZero"], recurses := true, named := ["unicode/utf8.first", "unicode/utf8.acceptRanges", "internal/bytealg.MaxLen"], apart := false, laid := [("unicode/utf8.acceptRanges", laid_unicode_utf8_acceptRanges), ("unicode/utf8.first", laid_unicode_utf8_first)] }
def FnExactHeightsOfSaid : Prop := fnExactHeightsOfRow.holds Tryd.pinned (OpenSpec.ofChange fnExactHeightsOfSpec)

/-- ITS FALSE NEIGHBOUR: 'it returns false'. Refute it at one input. -/
def fnExactHeightsOfWrong : ChangeSpec := { name := "fnExactHeightsOf", fn := fun _ => fun
  | [d] => { results := [.lit (.bool false)], args := [d] }
  | _ => none }
def FnExactHeightsOfWrongFalsely : Prop := fnExactHeightsOfRow.holds Tryd.pinned (OpenSpec.ofChange fnExactHeightsOfWrong)

/-- 'laws.FnExactLevelsAt': WHATEVER THE INPUT: true; the input reads as it did. -/
def fnExactLevelsAtSpec : ChangeSpec := { name := "fnExactLevelsAt", fn := fun _ => fun
  | [d] => { results := [.lit (.bool true)], args := [d] }
  | _ => none }
def fnExactLevelsAtRow : OpenClaim := { program := "ytkmnidbodlmaaaadoor", sum := "774647780191094cdae32fe04f5a17be55656df4c6b7de6beb765c5f96a2447a", func := "loop.example/flatarrays/laws.FnExactLevelsAt", spec := "fnExactLevelsAt", inPlace := ["internal/bytealg.CountString", "internal/bytealg.IndexByteString", "internal/bytealg.IndexString", "internal/abi.NoEscape", "internal/bytealg.MakeNoZero"], recurses := true, named := ["unicode/utf8.first", "unicode/utf8.acceptRanges", "internal/bytealg.MaxLen"], apart := false, laid := [("unicode/utf8.acceptRanges", laid_unicode_utf8_acceptRanges), ("unicode/utf8.first", laid_unicode_utf8_first)] }
def FnExactLevelsAtSaid : Prop := fnExactLevelsAtRow.holds Tryd.pinned (OpenSpec.ofChange fnExactLevelsAtSpec)

/-- ITS FALSE NEIGHBOUR: 'it returns false'. Refute it at one input. -/
def fnExactLevelsAtWrong : ChangeSpec := { name := "fnExactLevelsAt", fn := fun _ => fun
  | [d] => { results := [.lit (.bool false)], args := [d] }
  | _ => none }
def FnExactLevelsAtWrongFalsely : Prop := fnExactLevelsAtRow.holds Tryd.pinned (OpenSpec.ofChange fnExactLevelsAtWrong)

/-- 'laws.FnExactInstructionsOf': WHATEVER THE INPUT: true; the input reads as it did. -/
def fnExactInstructionsOfSpec : ChangeSpec := { name := "fnExactInstructionsOf", fn := fun _ => fun
  | [d] => { results := [.lit (.bool true)], args := [d] }
  | _ => none }
def fnExactInstructionsOfRow : OpenClaim := { program := "ytkmnidbodlmaaaadoor", sum := "774647780191094cdae32fe04f5a17be55656df4c6b7de6beb765c5f96a2447a", func := "loop.example/flatarrays/laws.FnExactInstructionsOf", spec := "fnExactInstructionsOf", inPlace := ["internal/bytealg.CountString", "internal/bytealg.IndexByteString", "internal/bytealg.IndexString", "internal/abi.NoEscape", "internal/bytealg.MakeNoZero"], recurses := true, named := ["unicode/utf8.first", "unicode/utf8.acceptRanges", "internal/bytealg.MaxLen"], apart := false, laid := [("unicode/utf8.acceptRanges", laid_unicode_utf8_acceptRanges), ("unicode/utf8.first", laid_unicode_utf8_first)] }
def FnExactInstructionsOfSaid : Prop := fnExactInstructionsOfRow.holds Tryd.pinned (OpenSpec.ofChange fnExactInstructionsOfSpec)

/-- ITS FALSE NEIGHBOUR: 'it returns false'. Refute it at one input. -/
def fnExactInstructionsOfWrong : ChangeSpec := { name := "fnExactInstructionsOf", fn := fun _ => fun
  | [d] => { results := [.lit (.bool false)], args := [d] }
  | _ => none }
def FnExactInstructionsOfWrongFalsely : Prop := fnExactInstructionsOfRow.holds Tryd.pinned (OpenSpec.ofChange fnExactInstructionsOfWrong)

/-- 'laws.FnExactDepthOfCode': WHATEVER THE INPUT: true; the input reads as it did. -/
def fnExactDepthOfCodeSpec : ChangeSpec := { name := "fnExactDepthOfCode", fn := fun _ => fun
  | [d] => { results := [.lit (.bool true)], args := [d] }
  | _ => none }
def fnExactDepthOfCodeRow : OpenClaim := { program := "ytkmnidbodlmaaaadoor", sum := "774647780191094cdae32fe04f5a17be55656df4c6b7de6beb765c5f96a2447a", func := "loop.example/flatarrays/laws.FnExactDepthOfCode", spec := "fnExactDepthOfCode", inPlace := ["internal/bytealg.CountString", "internal/bytealg.IndexByteString", "internal/bytealg.IndexString", "internal/abi.NoEscape", "internal/bytealg.MakeNoZero", "maps.clone"], recurses := true, named := ["unicode/utf8.first", "unicode/utf8.acceptRanges", "internal/bytealg.MaxLen"], apart := false, laid := [("unicode/utf8.acceptRanges", laid_unicode_utf8_acceptRanges), ("unicode/utf8.first", laid_unicode_utf8_first)] }
def FnExactDepthOfCodeSaid : Prop := fnExactDepthOfCodeRow.holds Tryd.pinned (OpenSpec.ofChange fnExactDepthOfCodeSpec)

/-- ITS FALSE NEIGHBOUR: 'it returns false'. Refute it at one input. -/
def fnExactDepthOfCodeWrong : ChangeSpec := { name := "fnExactDepthOfCode", fn := fun _ => fun
  | [d] => { results := [.lit (.bool false)], args := [d] }
  | _ => none }
def FnExactDepthOfCodeWrongFalsely : Prop := fnExactDepthOfCodeRow.holds Tryd.pinned (OpenSpec.ofChange fnExactDepthOfCodeWrong)

/-- 'laws.FnExactVarsAt': WHATEVER THE INPUT: true; the input reads as it did. -/
def fnExactVarsAtSpec : ChangeSpec := { name := "fnExactVarsAt", fn := fun _ => fun
  | [d1, d2] => { results := [.lit (.bool true)], args := [d1, d2] }
  | _ => none }
def fnExactVarsAtRow : OpenClaim := { program := "ytkmnidbodlmaaaadoor", sum := "774647780191094cdae32fe04f5a17be55656df4c6b7de6beb765c5f96a2447a", func := "loop.example/flatarrays/laws.FnExactVarsAt", spec := "fnExactVarsAt", inPlace := ["internal/bytealg.CountString", "internal/bytealg.IndexByteString", "internal/bytealg.IndexString", "internal/abi.NoEscape", "internal/bytealg.MakeNoZero"], recurses := true, named := ["unicode/utf8.first", "unicode/utf8.acceptRanges", "internal/bytealg.MaxLen"], apart := false, laid := [("unicode/utf8.acceptRanges", laid_unicode_utf8_acceptRanges), ("unicode/utf8.first", laid_unicode_utf8_first)] }
def FnExactVarsAtSaid : Prop := fnExactVarsAtRow.holds Tryd.pinned (OpenSpec.ofChange fnExactVarsAtSpec)

/-- ITS FALSE NEIGHBOUR: 'it returns false'. Refute it at one input. -/
def fnExactVarsAtWrong : ChangeSpec := { name := "fnExactVarsAt", fn := fun _ => fun
  | [d1, d2] => { results := [.lit (.bool false)], args := [d1, d2] }
  | _ => none }
def FnExactVarsAtWrongFalsely : Prop := fnExactVarsAtRow.holds Tryd.pinned (OpenSpec.ofChange fnExactVarsAtWrong)

/-- 'laws.FnCodeOf': WHATEVER THE INPUT: true; the input reads as it did. -/
def fnCodeOfSpec : ChangeSpec := { name := "fnCodeOf", fn := fun _ => fun
  | [d] => { results := [.lit (.bool true)], args := [d] }
  | _ => none }
def fnCodeOfRow : OpenClaim := { program := "ytkmnidbodlmaaaadoor", sum := "774647780191094cdae32fe04f5a17be55656df4c6b7de6beb765c5f96a2447a", func := "loop.example/flatarrays/laws.FnCodeOf", spec := "fnCodeOf", inPlace := ["internal/bytealg.IndexByteString", "internal/bytealg.IndexString", "internal/abi.NoEscape", "internal/bytealg.MakeNoZero", "internal/bytealg.CountString", "maps.clone"], recurses := true, named := ["internal/bytealg.MaxLen", "unicode/utf8.first", "unicode/utf8.acceptRanges"], apart := false, laid := [("unicode/utf8.acceptRanges", laid_unicode_utf8_acceptRanges), ("unicode/utf8.first", laid_unicode_utf8_first)] }
def FnCodeOfSaid : Prop := fnCodeOfRow.holds Tryd.pinned (OpenSpec.ofChange fnCodeOfSpec)

/-- ITS FALSE NEIGHBOUR: 'it returns false'. Refute it at one input. -/
def fnCodeOfWrong : ChangeSpec := { name := "fnCodeOf", fn := fun _ => fun
  | [d] => { results := [.lit (.bool false)], args := [d] }
  | _ => none }
def FnCodeOfWrongFalsely : Prop := fnCodeOfRow.holds Tryd.pinned (OpenSpec.ofChange fnCodeOfWrong)

/-- 'laws.FnHeights': WHATEVER THE INPUT: true; the input reads as it did. -/
def fnHeightsSpec : ChangeSpec := { name := "fnHeights", fn := fun _ => fun
  | [d] => { results := [.lit (.bool true)], args := [d] }
  | _ => none }
def fnHeightsRow : OpenClaim := { program := "ytkmnidbodlmaaaadoor", sum := "774647780191094cdae32fe04f5a17be55656df4c6b7de6beb765c5f96a2447a", func := "loop.example/flatarrays/laws.FnHeights", spec := "fnHeights", inPlace := ["internal/bytealg.CountString", "internal/bytealg.IndexByteString", "internal/bytealg.IndexString", "internal/abi.NoEscape", "internal/bytealg.MakeNoZero"], recurses := true, named := ["unicode/utf8.first", "unicode/utf8.acceptRanges", "internal/bytealg.MaxLen"], apart := false, laid := [("unicode/utf8.acceptRanges", laid_unicode_utf8_acceptRanges), ("unicode/utf8.first", laid_unicode_utf8_first)] }
def FnHeightsSaid : Prop := fnHeightsRow.holds Tryd.pinned (OpenSpec.ofChange fnHeightsSpec)

/-- ITS FALSE NEIGHBOUR: 'it returns false'. Refute it at one input. -/
def fnHeightsWrong : ChangeSpec := { name := "fnHeights", fn := fun _ => fun
  | [d] => { results := [.lit (.bool false)], args := [d] }
  | _ => none }
def FnHeightsWrongFalsely : Prop := fnHeightsRow.holds Tryd.pinned (OpenSpec.ofChange fnHeightsWrong)

/-- 'laws.FnTermOf': WHATEVER THE INPUT: true; the input reads as it did. -/
def fnTermOfSpec : ChangeSpec := { name := "fnTermOf", fn := fun _ => fun
  | [d] => { results := [.lit (.bool true)], args := [d] }
  | _ => none }
def fnTermOfRow : OpenClaim := { program := "ytkmnidbodlmaaaadoor", sum := "774647780191094cdae32fe04f5a17be55656df4c6b7de6beb765c5f96a2447a", func := "loop.example/flatarrays/laws.FnTermOf", spec := "fnTermOf", inPlace := ["internal/bytealg.CountString", "internal/bytealg.IndexByteString", "internal/bytealg.IndexString", "internal/abi.NoEscape", "internal/bytealg.MakeNoZero", "maps.clone"], recurses := true, named := ["unicode/utf8.first", "unicode/utf8.acceptRanges", "internal/bytealg.MaxLen"], apart := false, laid := [("unicode/utf8.acceptRanges", laid_unicode_utf8_acceptRanges), ("unicode/utf8.first", laid_unicode_utf8_first)] }
def FnTermOfSaid : Prop := fnTermOfRow.holds Tryd.pinned (OpenSpec.ofChange fnTermOfSpec)

/-- ITS FALSE NEIGHBOUR: 'it returns false'. Refute it at one input. -/
def fnTermOfWrong : ChangeSpec := { name := "fnTermOf", fn := fun _ => fun
  | [d] => { results := [.lit (.bool false)], args := [d] }
  | _ => none }
def FnTermOfWrongFalsely : Prop := fnTermOfRow.holds Tryd.pinned (OpenSpec.ofChange fnTermOfWrong)

/- THE SECOND FORM. 'bulk': how many values and letters a reading holds, each counted each time it is reached (what is shared counts as often as it is met; a slice's spare places count too). A statement '..UptoSaid' is the law's where the arguments, and the package variables that the reading takes, are together of bulk at most 1048576: NARROWER than '..Said'. Prove '..Said' where nothing that the law and all that it calls make is longer than what came in: it says more and counts as full. Else prove '..UptoSaid'. A law counts once. -/
mutual
def uptoBulk {H : Type} : DataW H → Nat
  | .lit (.string bytes) => bytes.length + 1
  | .lit _ => 1
  | .nil => 1
  | .ptr d => uptoBulk d + 1
  | .slice elems spare => uptoBulkAll elems + uptoBulkAll spare + 1
  | .agg parts => uptoBulkAll parts + 1
  | .iface _ d => uptoBulk d + 1
  | .map entries => uptoBulkEntries entries + 1
  | .held _ => 1
def uptoBulkAll {H : Type} : List (DataW H) → Nat
  | [] => 0
  | d :: r => uptoBulk d + uptoBulkAll r
def uptoBulkEntries {H : Type} : List (Lit × DataW H) → Nat
  | [] => 0
  | x :: r => uptoBulkEntry x + uptoBulkEntries r
def uptoBulkEntry {H : Type} : Lit × DataW H → Nat
  | (.string bytes, d) => bytes.length + uptoBulk d + 1
  | (_, d) => uptoBulk d + 1
 end
def uptoSmall : (H : Type) → List (DataW H) → Bool := fun _ ds => decide (uptoBulkAll ds ≤ 1048576)
def OpenSpec.upto (s : _root_.Go.ChangeSpec) : _root_.Go.OpenSpec := { _root_.Go.OpenSpec.ofChange s with cond := some uptoSmall }

/-- 'laws.FnExactTermOf', WHERE WHAT IT READS IS OF BULK AT MOST 1048576: true; the input reads as it did. -/
def fnExactTermOfUptoRow : OpenClaim := { program := "ytkmnidbodlmaaaadoor", sum := "774647780191094cdae32fe04f5a17be55656df4c6b7de6beb765c5f96a2447a", func := "loop.example/flatarrays/laws.FnExactTermOf", spec := "fnExactTermOf", inPlace := ["internal/bytealg.CountString", "internal/bytealg.IndexByteString", "internal/bytealg.IndexString", "internal/abi.NoEscape", "internal/bytealg.MakeNoZero"], recurses := true, named := ["unicode/utf8.first", "unicode/utf8.acceptRanges", "internal/bytealg.MaxLen"], apart := false, laid := [("unicode/utf8.acceptRanges", laid_unicode_utf8_acceptRanges), ("unicode/utf8.first", laid_unicode_utf8_first)], narrowed := true }
def FnExactTermOfUptoSaid : Prop := fnExactTermOfUptoRow.holds Tryd.pinned (OpenSpec.upto fnExactTermOfSpec)

/-- 'laws.FnExactCodeValid', WHERE WHAT IT READS IS OF BULK AT MOST 1048576: true; the input reads as it did. -/
def fnExactCodeValidUptoRow : OpenClaim := { program := "ytkmnidbodlmaaaadoor", sum := "774647780191094cdae32fe04f5a17be55656df4c6b7de6beb765c5f96a2447a", func := "loop.example/flatarrays/laws.FnExactCodeValid", spec := "fnExactCodeValid", inPlace := ["internal/bytealg.CountString", "internal/bytealg.IndexByteString", "internal/bytealg.IndexString", "internal/abi.NoEscape", "internal/bytealg.MakeNoZero"], recurses := true, named := ["unicode/utf8.first", "unicode/utf8.acceptRanges", "internal/bytealg.MaxLen"], apart := false, laid := [("unicode/utf8.acceptRanges", laid_unicode_utf8_acceptRanges), ("unicode/utf8.first", laid_unicode_utf8_first)], narrowed := true }
def FnExactCodeValidUptoSaid : Prop := fnExactCodeValidUptoRow.holds Tryd.pinned (OpenSpec.upto fnExactCodeValidSpec)

/-- 'laws.FnExactHeightsOf', WHERE WHAT IT READS IS OF BULK AT MOST 1048576: true; the input reads as it did. -/
def fnExactHeightsOfUptoRow : OpenClaim := { program := "ytkmnidbodlmaaaadoor", sum := "774647780191094cdae32fe04f5a17be55656df4c6b7de6beb765c5f96a2447a", func := "loop.example/flatarrays/laws.FnExactHeightsOf", spec := "fnExactHeightsOf", inPlace := ["internal/bytealg.CountString", "internal/bytealg.IndexByteString", "internal/bytealg.IndexString", "internal/abi.NoEscape", "internal/bytealg.MakeNoZero"], recurses := true, named := ["unicode/utf8.first", "unicode/utf8.acceptRanges", "internal/bytealg.MaxLen"], apart := false, laid := [("unicode/utf8.acceptRanges", laid_unicode_utf8_acceptRanges), ("unicode/utf8.first", laid_unicode_utf8_first)], narrowed := true }
def FnExactHeightsOfUptoSaid : Prop := fnExactHeightsOfUptoRow.holds Tryd.pinned (OpenSpec.upto fnExactHeightsOfSpec)

/-- 'laws.FnExactLevelsAt', WHERE WHAT IT READS IS OF BULK AT MOST 1048576: true; the input reads as it did. -/
def fnExactLevelsAtUptoRow : OpenClaim := { program := "ytkmnidbodlmaaaadoor", sum := "774647780191094cdae32fe04f5a17be55656df4c6b7de6beb765c5f96a2447a", func := "loop.example/flatarrays/laws.FnExactLevelsAt", spec := "fnExactLevelsAt", inPlace := ["internal/bytealg.CountString", "internal/bytealg.IndexByteString", "internal/bytealg.IndexString", "internal/abi.NoEscape", "internal/bytealg.MakeNoZero"], recurses := true, named := ["unicode/utf8.first", "unicode/utf8.acceptRanges", "internal/bytealg.MaxLen"], apart := false, laid := [("unicode/utf8.acceptRanges", laid_unicode_utf8_acceptRanges), ("unicode/utf8.first", laid_unicode_utf8_first)], narrowed := true }
def FnExactLevelsAtUptoSaid : Prop := fnExactLevelsAtUptoRow.holds Tryd.pinned (OpenSpec.upto fnExactLevelsAtSpec)

/-- 'laws.FnExactInstructionsOf', WHERE WHAT IT READS IS OF BULK AT MOST 1048576: true; the input reads as it did. -/
def fnExactInstructionsOfUptoRow : OpenClaim := { program := "ytkmnidbodlmaaaadoor", sum := "774647780191094cdae32fe04f5a17be55656df4c6b7de6beb765c5f96a2447a", func := "loop.example/flatarrays/laws.FnExactInstructionsOf", spec := "fnExactInstructionsOf", inPlace := ["internal/bytealg.CountString", "internal/bytealg.IndexByteString", "internal/bytealg.IndexString", "internal/abi.NoEscape", "internal/bytealg.MakeNoZero"], recurses := true, named := ["unicode/utf8.first", "unicode/utf8.acceptRanges", "internal/bytealg.MaxLen"], apart := false, laid := [("unicode/utf8.acceptRanges", laid_unicode_utf8_acceptRanges), ("unicode/utf8.first", laid_unicode_utf8_first)], narrowed := true }
def FnExactInstructionsOfUptoSaid : Prop := fnExactInstructionsOfUptoRow.holds Tryd.pinned (OpenSpec.upto fnExactInstructionsOfSpec)

/-- 'laws.FnExactDepthOfCode', WHERE WHAT IT READS IS OF BULK AT MOST 1048576: true; the input reads as it did. -/
def fnExactDepthOfCodeUptoRow : OpenClaim := { program := "ytkmnidbodlmaaaadoor", sum := "774647780191094cdae32fe04f5a17be55656df4c6b7de6beb765c5f96a2447a", func := "loop.example/flatarrays/laws.FnExactDepthOfCode", spec := "fnExactDepthOfCode", inPlace := ["internal/bytealg.CountString", "internal/bytealg.IndexByteString", "internal/bytealg.IndexString", "internal/abi.NoEscape", "internal/bytealg.MakeNoZero", "maps.clone"], recurses := true, named := ["unicode/utf8.first", "unicode/utf8.acceptRanges", "internal/bytealg.MaxLen"], apart := false, laid := [("unicode/utf8.acceptRanges", laid_unicode_utf8_acceptRanges), ("unicode/utf8.first", laid_unicode_utf8_first)], narrowed := true }
def FnExactDepthOfCodeUptoSaid : Prop := fnExactDepthOfCodeUptoRow.holds Tryd.pinned (OpenSpec.upto fnExactDepthOfCodeSpec)

/-- 'laws.FnExactVarsAt', WHERE WHAT IT READS IS OF BULK AT MOST 1048576: true; the input reads as it did. -/
def fnExactVarsAtUptoRow : OpenClaim := { program := "ytkmnidbodlmaaaadoor", sum := "774647780191094cdae32fe04f5a17be55656df4c6b7de6beb765c5f96a2447a", func := "loop.example/flatarrays/laws.FnExactVarsAt", spec := "fnExactVarsAt", inPlace := ["internal/bytealg.CountString", "internal/bytealg.IndexByteString", "internal/bytealg.IndexString", "internal/abi.NoEscape", "internal/bytealg.MakeNoZero"], recurses := true, named := ["unicode/utf8.first", "unicode/utf8.acceptRanges", "internal/bytealg.MaxLen"], apart := false, laid := [("unicode/utf8.acceptRanges", laid_unicode_utf8_acceptRanges), ("unicode/utf8.first", laid_unicode_utf8_first)], narrowed := true }
def FnExactVarsAtUptoSaid : Prop := fnExactVarsAtUptoRow.holds Tryd.pinned (OpenSpec.upto fnExactVarsAtSpec)

/-- 'laws.FnCodeOf', WHERE WHAT IT READS IS OF BULK AT MOST 1048576: true; the input reads as it did. -/
def fnCodeOfUptoRow : OpenClaim := { program := "ytkmnidbodlmaaaadoor", sum := "774647780191094cdae32fe04f5a17be55656df4c6b7de6beb765c5f96a2447a", func := "loop.example/flatarrays/laws.FnCodeOf", spec := "fnCodeOf", inPlace := ["internal/bytealg.IndexByteString", "internal/bytealg.IndexString", "internal/abi.NoEscape", "internal/bytealg.MakeNoZero", "internal/bytealg.CountString", "maps.clone"], recurses := true, named := ["internal/bytealg.MaxLen", "unicode/utf8.first", "unicode/utf8.acceptRanges"], apart := false, laid := [("unicode/utf8.acceptRanges", laid_unicode_utf8_acceptRanges), ("unicode/utf8.first", laid_unicode_utf8_first)], narrowed := true }
def FnCodeOfUptoSaid : Prop := fnCodeOfUptoRow.holds Tryd.pinned (OpenSpec.upto fnCodeOfSpec)

/-- 'laws.FnHeights', WHERE WHAT IT READS IS OF BULK AT MOST 1048576: true; the input reads as it did. -/
def fnHeightsUptoRow : OpenClaim := { program := "ytkmnidbodlmaaaadoor", sum := "774647780191094cdae32fe04f5a17be55656df4c6b7de6beb765c5f96a2447a", func := "loop.example/flatarrays/laws.FnHeights", spec := "fnHeights", inPlace := ["internal/bytealg.CountString", "internal/bytealg.IndexByteString", "internal/bytealg.IndexString", "internal/abi.NoEscape", "internal/bytealg.MakeNoZero"], recurses := true, named := ["unicode/utf8.first", "unicode/utf8.acceptRanges", "internal/bytealg.MaxLen"], apart := false, laid := [("unicode/utf8.acceptRanges", laid_unicode_utf8_acceptRanges), ("unicode/utf8.first", laid_unicode_utf8_first)], narrowed := true }
def FnHeightsUptoSaid : Prop := fnHeightsUptoRow.holds Tryd.pinned (OpenSpec.upto fnHeightsSpec)

/-- 'laws.FnTermOf', WHERE WHAT IT READS IS OF BULK AT MOST 1048576: true; the input reads as it did. -/
def fnTermOfUptoRow : OpenClaim := { program := "ytkmnidbodlmaaaadoor", sum := "774647780191094cdae32fe04f5a17be55656df4c6b7de6beb765c5f96a2447a", func := "loop.example/flatarrays/laws.FnTermOf", spec := "fnTermOf", inPlace := ["internal/bytealg.CountString", "internal/bytealg.IndexByteString", "internal/bytealg.IndexString", "internal/abi.NoEscape", "internal/bytealg.MakeNoZero", "maps.clone"], recurses := true, named := ["unicode/utf8.first", "unicode/utf8.acceptRanges", "internal/bytealg.MaxLen"], apart := false, laid := [("unicode/utf8.acceptRanges", laid_unicode_utf8_acceptRanges), ("unicode/utf8.first", laid_unicode_utf8_first)], narrowed := true }
def FnTermOfUptoSaid : Prop := fnTermOfUptoRow.holds Tryd.pinned (OpenSpec.upto fnTermOfSpec)

end Rows
end Go.Proofs.YtkmnidbodlmaaaaDoor
