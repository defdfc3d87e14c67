/-
  NARROWER THAN 'FOR EVERY INPUT', by the rows' own cells (each row's printed sentence says how): FnExactArrayValid: laid · FnExactInputsValid: laid · FnExactLeastDepth: laid · FnExactNumbersOf: laid · FnExactLengthOf: laid · FnExactJoinArrays: laid · FnExactTurnArray: laid · FnExactPartsOf: laid · FnExactMakeArray: laid · FnExactFlattenOnce: laid · FnExactLayOut: laid · FnNumbersOf: laid.
  DERIVED. THE GIVEN ROWS OF THIS SEAT. 12 by the template 'for every input the law returns true; each argument reads behind the call as it read before'; 0 by the template 'total and deterministic' (their statements: YtdhfdepnleioiaaDoorTotals.lean).
  GIVEN WITH THE SEED: the statements are not yours to turn. If you find one false, say at which input.
  Laid BY PROGRAM, IN A SANDBOX (cutbox-rows.mjs): the forced cells as the released guide's own fill.sh prints them over the translation ad2fb53f6cad0e79… (all of the seat's roots in one cut). By AI agents, Wed Nov 11 2026. No macro, syntax, notation, axiom, sorry.
-/
import Derived.Test.YtdhfdepnleioiaaDoorChecked
import GoSem.Claim
import GoSem.ClaimJoined
import GoSem.ClaimMapViews
import Derived.JoinedTies
import Derived.KernelRfl
namespace Go.Proofs.YtdhfdepnleioiaaDoor
/- THE CELL 'sum', in the pinned program and in every row, IS THE sha256 OF THE DUMP (.gsa) THAT YtdhfdepnleioiaaDoorProg.lean LOADS. Nothing in Lean hashes anything: it is a label: what it is worth is what the hold of that sum in a sandbox is worth. -/
noncomputable def Tryd.pinned : Pinned := { name := "ytdhfdepnleioiaadoor", sum := "ad2fb53f6cad0e79c3b46c4b82ded92b3423187857ae17062d862a7e05b6a2ae", checked := Tryd.checked }
namespace Rows
def none {H : Type} : Left H := { results := [], args := [] }

/- WHAT THE LISTED PACKAGE-LEVEL VARIABLES READ AS WHEN THE CALL BEGINS. Each datum BY PROGRAM (the guide's laid-datum.mjs) off the statement by which the dump's own 'gosem.cut.vars' lays the variable. In a bare row this is a premise. The card (YtdhfdepnleioiaaDoorCards.lean) ties it to the program's text. -/
def laid_math_bits_deBruijn32tab {H : Type} : DataW H := .agg [.lit (.int .u8 0), .lit (.int .u8 1), .lit (.int .u8 28), .lit (.int .u8 2), .lit (.int .u8 29), .lit (.int .u8 14), .lit (.int .u8 24), .lit (.int .u8 3), .lit (.int .u8 30), .lit (.int .u8 22), .lit (.int .u8 20), .lit (.int .u8 15), .lit (.int .u8 25), .lit (.int .u8 17), .lit (.int .u8 4), .lit (.int .u8 8), .lit (.int .u8 31), .lit (.int .u8 27), .lit (.int .u8 13), .lit (.int .u8 23), .lit (.int .u8 21), .lit (.int .u8 19), .lit (.int .u8 16), .lit (.int .u8 7), .lit (.int .u8 26), .lit (.int .u8 12), .lit (.int .u8 18), .lit (.int .u8 6), .lit (.int .u8 11), .lit (.int .u8 5), .lit (.int .u8 10), .lit (.int .u8 9)]
def laid_math_bits_deBruijn64tab {H : Type} : DataW H := .agg [.lit (.int .u8 0), .lit (.int .u8 1), .lit (.int .u8 56), .lit (.int .u8 2), .lit (.int .u8 57), .lit (.int .u8 49), .lit (.int .u8 28), .lit (.int .u8 3), .lit (.int .u8 61), .lit (.int .u8 58), .lit (.int .u8 42), .lit (.int .u8 50), .lit (.int .u8 38), .lit (.int .u8 29), .lit (.int .u8 17), .lit (.int .u8 4), .lit (.int .u8 62), .lit (.int .u8 47), .lit (.int .u8 59), .lit (.int .u8 36), .lit (.int .u8 45), .lit (.int .u8 43), .lit (.int .u8 51), .lit (.int .u8 22), .lit (.int .u8 53), .lit (.int .u8 39), .lit (.int .u8 33), .lit (.int .u8 30), .lit (.int .u8 24), .lit (.int .u8 18), .lit (.int .u8 12), .lit (.int .u8 5), .lit (.int .u8 63), .lit (.int .u8 55), .lit (.int .u8 48), .lit (.int .u8 27), .lit (.int .u8 60), .lit (.int .u8 41), .lit (.int .u8 37), .lit (.int .u8 16), .lit (.int .u8 46), .lit (.int .u8 35), .lit (.int .u8 44), .lit (.int .u8 21), .lit (.int .u8 52), .lit (.int .u8 32), .lit (.int .u8 23), .lit (.int .u8 11), .lit (.int .u8 54), .lit (.int .u8 26), .lit (.int .u8 40), .lit (.int .u8 15), .lit (.int .u8 34), .lit (.int .u8 20), .lit (.int .u8 31), .lit (.int .u8 10), .lit (.int .u8 25), .lit (.int .u8 14), .lit (.int .u8 19), .lit (.int .u8 9), .lit (.int .u8 13), .lit (.int .u8 8), .lit (.int .u8 7), .lit (.int .u8 6)]
def laid_internal_strconv_uint64pow10 {H : Type} : DataW H := .agg [.lit (.int .u64 1), .lit (.int .u64 10), .lit (.int .u64 100), .lit (.int .u64 1000), .lit (.int .u64 10000), .lit (.int .u64 100000), .lit (.int .u64 1000000), .lit (.int .u64 10000000), .lit (.int .u64 100000000), .lit (.int .u64 1000000000), .lit (.int .u64 10000000000), .lit (.int .u64 100000000000), .lit (.int .u64 1000000000000), .lit (.int .u64 10000000000000), .lit (.int .u64 100000000000000), .lit (.int .u64 1000000000000000), .lit (.int .u64 10000000000000000), .lit (.int .u64 100000000000000000), .lit (.int .u64 1000000000000000000), .lit (.int .u64 10000000000000000000)]
def laid_strconv_ErrRange {H : Type} : DataW H := .iface "*errors.errorString" (.ptr (.agg [.lit (.string [118, 97, 108, 117, 101, 32, 111, 117, 116, 32, 111, 102, 32, 114, 97, 110, 103, 101])]))
def laid_strconv_ErrSyntax {H : Type} : DataW H := .iface "*errors.errorString" (.ptr (.agg [.lit (.string [105, 110, 118, 97, 108, 105, 100, 32, 115, 121, 110, 116, 97, 120])]))

/-- 'laws.FnExactArrayValid': WHATEVER THE INPUT: true; the input reads as it did. -/
def fnExactArrayValidSpec : ChangeSpec := { name := "fnExactArrayValid", fn := fun _ => fun
  | [d1, d2] => { results := [.lit (.bool true)], args := [d1, d2] }
  | _ => none }
def fnExactArrayValidRow : OpenClaim := { program := "ytdhfdepnleioiaadoor", sum := "ad2fb53f6cad0e79c3b46c4b82ded92b3423187857ae17062d862a7e05b6a2ae", func := "loop.example/flatarrays/laws.FnExactArrayValid", spec := "fnExactArrayValid", recurses := true, named := ["strconv.ErrSyntax", "strconv.ErrRange", "internal/strconv.uint64pow10", "math/bits.deBruijn32tab", "math/bits.deBruijn64tab"], apart := false, laid := [("math/bits.deBruijn32tab", laid_math_bits_deBruijn32tab), ("math/bits.deBruijn64tab", laid_math_bits_deBruijn64tab), ("internal/strconv.uint64pow10", laid_internal_strconv_uint64pow10), ("strconv.ErrRange", laid_strconv_ErrRange), ("strconv.ErrSyntax", laid_strconv_ErrSyntax)] }
def FnExactArrayValidSaid : Prop := fnExactArrayValidRow.holds Tryd.pinned (OpenSpec.ofChange fnExactArrayValidSpec)

/-- ITS FALSE NEIGHBOUR: 'it returns false'. Refute it at one input. -/
def fnExactArrayValidWrong : ChangeSpec := { name := "fnExactArrayValid", fn := fun _ => fun
  | [d1, d2] => { results := [.lit (.bool false)], args := [d1, d2] }
  | _ => none }
def FnExactArrayValidWrongFalsely : Prop := fnExactArrayValidRow.holds Tryd.pinned (OpenSpec.ofChange fnExactArrayValidWrong)

/-- 'laws.FnExactInputsValid': WHATEVER THE INPUT: true; the input reads as it did. -/
def fnExactInputsValidSpec : ChangeSpec := { name := "fnExactInputsValid", fn := fun _ => fun
  | [d1, d2] => { results := [.lit (.bool true)], args := [d1, d2] }
  | _ => none }
def fnExactInputsValidRow : OpenClaim := { program := "ytdhfdepnleioiaadoor", sum := "ad2fb53f6cad0e79c3b46c4b82ded92b3423187857ae17062d862a7e05b6a2ae", func := "loop.example/flatarrays/laws.FnExactInputsValid", spec := "fnExactInputsValid", recurses := true, named := ["strconv.ErrSyntax", "strconv.ErrRange", "internal/strconv.uint64pow10", "math/bits.deBruijn32tab", "math/bits.deBruijn64tab"], apart := false, laid := [("math/bits.deBruijn32tab", laid_math_bits_deBruijn32tab), ("math/bits.deBruijn64tab", laid_math_bits_deBruijn64tab), ("internal/strconv.uint64pow10", laid_internal_strconv_uint64pow10), ("strconv.ErrRange", laid_strconv_ErrRange), ("strconv.ErrSyntax", laid_strconv_ErrSyntax)] }
def FnExactInputsValidSaid : Prop := fnExactInputsValidRow.holds Tryd.pinned (OpenSpec.ofChange fnExactInputsValidSpec)

/-- ITS FALSE NEIGHBOUR: 'it returns false'. Refute it at one input. -/
def fnExactInputsValidWrong : ChangeSpec := { name := "fnExactInputsValid", fn := fun _ => fun
  | [d1, d2] => { results := [.lit (.bool false)], args := [d1, d2] }
  | _ => none }
def FnExactInputsValidWrongFalsely : Prop := fnExactInputsValidRow.holds Tryd.pinned (OpenSpec.ofChange fnExactInputsValidWrong)

/-- 'laws.FnExactLeastDepth': WHATEVER THE INPUT: true; the input reads as it did. -/
def fnExactLeastDepthSpec : ChangeSpec := { name := "fnExactLeastDepth", fn := fun _ => fun
  | [d] => { results := [.lit (.bool true)], args := [d] }
  | _ => none }
def fnExactLeastDepthRow : OpenClaim := { program := "ytdhfdepnleioiaadoor", sum := "ad2fb53f6cad0e79c3b46c4b82ded92b3423187857ae17062d862a7e05b6a2ae", func := "loop.example/flatarrays/laws.FnExactLeastDepth", spec := "fnExactLeastDepth", recurses := true, named := ["strconv.ErrSyntax", "strconv.ErrRange", "internal/strconv.uint64pow10", "math/bits.deBruijn32tab", "math/bits.deBruijn64tab"], apart := false, laid := [("math/bits.deBruijn32tab", laid_math_bits_deBruijn32tab), ("math/bits.deBruijn64tab", laid_math_bits_deBruijn64tab), ("internal/strconv.uint64pow10", laid_internal_strconv_uint64pow10), ("strconv.ErrRange", laid_strconv_ErrRange), ("strconv.ErrSyntax", laid_strconv_ErrSyntax)] }
def FnExactLeastDepthSaid : Prop := fnExactLeastDepthRow.holds Tryd.pinned (OpenSpec.ofChange fnExactLeastDepthSpec)

/-- ITS FALSE NEIGHBOUR: 'it returns false'. Refute it at one input. -/
def fnExactLeastDepthWrong : ChangeSpec := { name := "fnExactLeastDepth", fn := fun _ => fun
  | [d] => { results := [.lit (.bool false)], args := [d] }
  | _ => none }
def FnExactLeastDepthWrongFalsely : Prop := fnExactLeastDepthRow.holds Tryd.pinned (OpenSpec.ofChange fnExactLeastDepthWrong)

/-- 'laws.FnExactNumbersOf': WHATEVER THE INPUT: true; the input reads as it did. -/
def fnExactNumbersOfSpec : ChangeSpec := { name := "fnExactNumbersOf", fn := fun _ => fun
  | [d1, d2] => { results := [.lit (.bool true)], args := [d1, d2] }
  | _ => none }
def fnExactNumbersOfRow : OpenClaim := { program := "ytdhfdepnleioiaadoor", sum := "ad2fb53f6cad0e79c3b46c4b82ded92b3423187857ae17062d862a7e05b6a2ae", func := "loop.example/flatarrays/laws.FnExactNumbersOf", spec := "fnExactNumbersOf", recurses := true, named := ["strconv.ErrSyntax", "strconv.ErrRange", "internal/strconv.uint64pow10", "math/bits.deBruijn32tab", "math/bits.deBruijn64tab"], apart := false, laid := [("math/bits.deBruijn32tab", laid_math_bits_deBruijn32tab), ("math/bits.deBruijn64tab", laid_math_bits_deBruijn64tab), ("internal/strconv.uint64pow10", laid_internal_strconv_uint64pow10), ("strconv.ErrRange", laid_strconv_ErrRange), ("strconv.ErrSyntax", laid_strconv_ErrSyntax)] }
def FnExactNumbersOfSaid : Prop := fnExactNumbersOfRow.holds Tryd.pinned (OpenSpec.ofChange fnExactNumbersOfSpec)

/-- ITS FALSE NEIGHBOUR: 'it returns false'. Refute it at one input. -/
def fnExactNumbersOfWrong : ChangeSpec := { name := "fnExactNumbersOf", fn := fun _ => fun
  | [d1, d2] => { results := [.lit (.bool false)], args := [d1, d2] }
  | _ => none }
def FnExactNumbersOfWrongFalsely : Prop := fnExactNumbersOfRow.holds Tryd.pinned (OpenSpec.ofChange fnExactNumbersOfWrong)

/-- 'laws.FnExactLengthOf': WHATEVER THE INPUT: true; the input reads as it did. -/
def fnExactLengthOfSpec : ChangeSpec := { name := "fnExactLengthOf", fn := fun _ => fun
  | [d1, d2] => { results := [.lit (.bool true)], args := [d1, d2] }
  | _ => none }
def fnExactLengthOfRow : OpenClaim := { program := "ytdhfdepnleioiaadoor", sum := "ad2fb53f6cad0e79c3b46c4b82ded92b3423187857ae17062d862a7e05b6a2ae", func := "loop.example/flatarrays/laws.FnExactLengthOf", spec := "fnExactLengthOf", inPlace := ["internal/abi.NoEscape", "internal/bytealg.MakeNoZero"], recurses := true, named := ["strconv.ErrSyntax", "strconv.ErrRange", "internal/strconv.uint64pow10", "math/bits.deBruijn32tab", "math/bits.deBruijn64tab"], apart := false, laid := [("math/bits.deBruijn32tab", laid_math_bits_deBruijn32tab), ("math/bits.deBruijn64tab", laid_math_bits_deBruijn64tab), ("internal/strconv.uint64pow10", laid_internal_strconv_uint64pow10), ("strconv.ErrRange", laid_strconv_ErrRange), ("strconv.ErrSyntax", laid_strconv_ErrSyntax)] }
def FnExactLengthOfSaid : Prop := fnExactLengthOfRow.holds Tryd.pinned (OpenSpec.ofChange fnExactLengthOfSpec)

/-- ITS FALSE NEIGHBOUR: 'it returns false'. Refute it at one input. -/
def fnExactLengthOfWrong : ChangeSpec := { name := "fnExactLengthOf", fn := fun _ => fun
  | [d1, d2] => { results := [.lit (.bool false)], args := [d1, d2] }
  | _ => none }
def FnExactLengthOfWrongFalsely : Prop := fnExactLengthOfRow.holds Tryd.pinned (OpenSpec.ofChange fnExactLengthOfWrong)

/-- 'laws.FnExactJoinArrays': WHATEVER THE INPUT: true; the input reads as it did. -/
def fnExactJoinArraysSpec : ChangeSpec := { name := "fnExactJoinArrays", fn := fun _ => fun
  | [d1, d2, d3] => { results := [.lit (.bool true)], args := [d1, d2, d3] }
  | _ => none }
def fnExactJoinArraysRow : OpenClaim := { program := "ytdhfdepnleioiaadoor", sum := "ad2fb53f6cad0e79c3b46c4b82ded92b3423187857ae17062d862a7e05b6a2ae", func := "loop.example/flatarrays/laws.FnExactJoinArrays", spec := "fnExactJoinArrays", inPlace := ["internal/abi.NoEscape", "internal/bytealg.MakeNoZero"], recurses := true, named := ["strconv.ErrSyntax", "strconv.ErrRange", "internal/strconv.uint64pow10", "math/bits.deBruijn32tab", "math/bits.deBruijn64tab"], apart := false, laid := [("math/bits.deBruijn32tab", laid_math_bits_deBruijn32tab), ("math/bits.deBruijn64tab", laid_math_bits_deBruijn64tab), ("internal/strconv.uint64pow10", laid_internal_strconv_uint64pow10), ("strconv.ErrRange", laid_strconv_ErrRange), ("strconv.ErrSyntax", laid_strconv_ErrSyntax)] }
def FnExactJoinArraysSaid : Prop := fnExactJoinArraysRow.holds Tryd.pinned (OpenSpec.ofChange fnExactJoinArraysSpec)

/-- ITS FALSE NEIGHBOUR: 'it returns false'. Refute it at one input. -/
def fnExactJoinArraysWrong : ChangeSpec := { name := "fnExactJoinArrays", fn := fun _ => fun
  | [d1, d2, d3] => { results := [.lit (.bool false)], args := [d1, d2, d3] }
  | _ => none }
def FnExactJoinArraysWrongFalsely : Prop := fnExactJoinArraysRow.holds Tryd.pinned (OpenSpec.ofChange fnExactJoinArraysWrong)

/-- 'laws.FnExactTurnArray': WHATEVER THE INPUT: true; the input reads as it did. -/
def fnExactTurnArraySpec : ChangeSpec := { name := "fnExactTurnArray", fn := fun _ => fun
  | [d1, d2] => { results := [.lit (.bool true)], args := [d1, d2] }
  | _ => none }
def fnExactTurnArrayRow : OpenClaim := { program := "ytdhfdepnleioiaadoor", sum := "ad2fb53f6cad0e79c3b46c4b82ded92b3423187857ae17062d862a7e05b6a2ae", func := "loop.example/flatarrays/laws.FnExactTurnArray", spec := "fnExactTurnArray", inPlace := ["internal/abi.NoEscape", "internal/bytealg.MakeNoZero"], recurses := true, named := ["strconv.ErrSyntax", "strconv.ErrRange", "internal/strconv.uint64pow10", "math/bits.deBruijn32tab", "math/bits.deBruijn64tab"], apart := false, laid := [("math/bits.deBruijn32tab", laid_math_bits_deBruijn32tab), ("math/bits.deBruijn64tab", laid_math_bits_deBruijn64tab), ("internal/strconv.uint64pow10", laid_internal_strconv_uint64pow10), ("strconv.ErrRange", laid_strconv_ErrRange), ("strconv.ErrSyntax", laid_strconv_ErrSyntax)] }
def FnExactTurnArraySaid : Prop := fnExactTurnArrayRow.holds Tryd.pinned (OpenSpec.ofChange fnExactTurnArraySpec)

/-- ITS FALSE NEIGHBOUR: 'it returns false'. Refute it at one input. -/
def fnExactTurnArrayWrong : ChangeSpec := { name := "fnExactTurnArray", fn := fun _ => fun
  | [d1, d2] => { results := [.lit (.bool false)], args := [d1, d2] }
  | _ => none }
def FnExactTurnArrayWrongFalsely : Prop := fnExactTurnArrayRow.holds Tryd.pinned (OpenSpec.ofChange fnExactTurnArrayWrong)

/-- 'laws.FnExactPartsOf': WHATEVER THE INPUT: true; the input reads as it did. -/
def fnExactPartsOfSpec : ChangeSpec := { name := "fnExactPartsOf", fn := fun _ => fun
  | [d1, d2] => { results := [.lit (.bool true)], args := [d1, d2] }
  | _ => none }
def fnExactPartsOfRow : OpenClaim := { program := "ytdhfdepnleioiaadoor", sum := "ad2fb53f6cad0e79c3b46c4b82ded92b3423187857ae17062d862a7e05b6a2ae", func := "loop.example/flatarrays/laws.FnExactPartsOf", spec := "fnExactPartsOf", inPlace := ["internal/abi.NoEscape", "internal/bytealg.MakeNoZero"], recurses := true, named := ["strconv.ErrSyntax", "strconv.ErrRange", "internal/strconv.uint64pow10", "math/bits.deBruijn32tab", "math/bits.deBruijn64tab"], apart := false, laid := [("math/bits.deBruijn32tab", laid_math_bits_deBruijn32tab), ("math/bits.deBruijn64tab", laid_math_bits_deBruijn64tab), ("internal/strconv.uint64pow10", laid_internal_strconv_uint64pow10), ("strconv.ErrRange", laid_strconv_ErrRange), ("strconv.ErrSyntax", laid_strconv_ErrSyntax)] }
def FnExactPartsOfSaid : Prop := fnExactPartsOfRow.holds Tryd.pinned (OpenSpec.ofChange fnExactPartsOfSpec)

/-- ITS FALSE NEIGHBOUR: 'it returns false'. Refute it at one input. -/
def fnExactPartsOfWrong : ChangeSpec := { name := "fnExactPartsOf", fn := fun _ => fun
  | [d1, d2] => { results := [.lit (.bool false)], args := [d1, d2] }
  | _ => none }
def FnExactPartsOfWrongFalsely : Prop := fnExactPartsOfRow.holds Tryd.pinned (OpenSpec.ofChange fnExactPartsOfWrong)

/-- 'laws.FnExactMakeArray': WHATEVER THE INPUT: true; the input reads as it did. -/
def fnExactMakeArraySpec : ChangeSpec := { name := "fnExactMakeArray", fn := fun _ => fun
  | [d1, d2] => { results := [.lit (.bool true)], args := [d1, d2] }
  | _ => none }
def fnExactMakeArrayRow : OpenClaim := { program := "ytdhfdepnleioiaadoor", sum := "ad2fb53f6cad0e79c3b46c4b82ded92b3423187857ae17062d862a7e05b6a2ae", func := "loop.example/flatarrays/laws.FnExactMakeArray", spec := "fnExactMakeArray", inPlace := ["internal/abi.NoEscape", "internal/bytealg.MakeNoZero"], recurses := true, named := ["strconv.ErrSyntax", "strconv.ErrRange", "internal/strconv.uint64pow10", "math/bits.deBruijn32tab", "math/bits.deBruijn64tab"], apart := false, laid := [("math/bits.deBruijn32tab", laid_math_bits_deBruijn32tab), ("math/bits.deBruijn64tab", laid_math_bits_deBruijn64tab), ("internal/strconv.uint64pow10", laid_internal_strconv_uint64pow10), ("strconv.ErrRange", laid_strconv_ErrRange), ("strconv.ErrSyntax", laid_strconv_ErrSyntax)] }
def FnExactMakeArraySaid : Prop := fnExactMakeArrayRow.holds Tryd.pinned (OpenSpec.ofChange fnExactMakeArraySpec)

/-- ITS FALSE NEIGHBOUR: 'it returns false'. Refute it at one input. -/
def fnExactMakeArrayWrong : ChangeSpec := { name := "fnExactMakeArray", fn := fun _ => fun
  | [d1, d2] => { results := [.lit (.bool false)], args := [d1, d2] }
  | _ => none }
def FnExactMakeArrayWrongFalsely : Prop := fnExactMakeArrayRow.holds Tryd.pinned (OpenSpec.ofChange fnExactMakeArrayWrong)

/-- 'laws.FnExactFlattenOnce': WHATEVER THE INPUT: true; the input reads as it did. -/
def fnExactFlattenOnceSpec : ChangeSpec := { name := "fnExactFlattenOnce", fn := fun _ => fun
  | [d1, d2] => { results := [.lit (.bool true)], args := [d1, d2] }
  | _ => none }
def fnExactFlattenOnceRow : OpenClaim := { program := "ytdhfdepnleioiaadoor", sum := "ad2fb53f6cad0e79c3b46c4b82ded92b3423187857ae17062d862a7e05b6a2ae", func := "loop.example/flatarrays/laws.FnExactFlattenOnce", spec := "fnExactFlattenOnce", inPlace := ["internal/abi.NoEscape", "internal/bytealg.MakeNoZero"], recurses := true, named := ["strconv.ErrSyntax", "strconv.ErrRange", "internal/strconv.uint64pow10", "math/bits.deBruijn32tab", "math/bits.deBruijn64tab"], apart := false, laid := [("math/bits.deBruijn32tab", laid_math_bits_deBruijn32tab), ("math/bits.deBruijn64tab", laid_math_bits_deBruijn64tab), ("internal/strconv.uint64pow10", laid_internal_strconv_uint64pow10), ("strconv.ErrRange", laid_strconv_ErrRange), ("strconv.ErrSyntax", laid_strconv_ErrSyntax)] }
def FnExactFlattenOnceSaid : Prop := fnExactFlattenOnceRow.holds Tryd.pinned (OpenSpec.ofChange fnExactFlattenOnceSpec)

/-- ITS FALSE NEIGHBOUR: 'it returns false'. Refute it at one input. -/
def fnExactFlattenOnceWrong : ChangeSpec := { name := "fnExactFlattenOnce", fn := fun _ => fun
  | [d1, d2] => { results := [.lit (.bool false)], args := [d1, d2] }
  | _ => none }
def FnExactFlattenOnceWrongFalsely : Prop := fnExactFlattenOnceRow.holds Tryd.pinned (OpenSpec.ofChange fnExactFlattenOnceWrong)

/-- 'laws.FnExactLayOut': WHATEVER THE INPUT: true; the input reads as it did. -/
def fnExactLayOutSpec : ChangeSpec := { name := "fnExactLayOut", fn := fun _ => fun
  | [d1, d2] => { results := [.lit (.bool true)], args := [d1, d2] }
  | _ => none }
def fnExactLayOutRow : OpenClaim := { program := "ytdhfdepnleioiaadoor", sum := "ad2fb53f6cad0e79c3b46c4b82ded92b3423187857ae17062d862a7e05b6a2ae", func := "loop.example/flatarrays/laws.FnExactLayOut", spec := "fnExactLayOut", recurses := true, named := ["strconv.ErrSyntax", "strconv.ErrRange", "internal/strconv.uint64pow10", "math/bits.deBruijn32tab", "math/bits.deBruijn64tab"], apart := false, laid := [("math/bits.deBruijn32tab", laid_math_bits_deBruijn32tab), ("math/bits.deBruijn64tab", laid_math_bits_deBruijn64tab), ("internal/strconv.uint64pow10", laid_internal_strconv_uint64pow10), ("strconv.ErrRange", laid_strconv_ErrRange), ("strconv.ErrSyntax", laid_strconv_ErrSyntax)] }
def FnExactLayOutSaid : Prop := fnExactLayOutRow.holds Tryd.pinned (OpenSpec.ofChange fnExactLayOutSpec)

/-- ITS FALSE NEIGHBOUR: 'it returns false'. Refute it at one input. -/
def fnExactLayOutWrong : ChangeSpec := { name := "fnExactLayOut", fn := fun _ => fun
  | [d1, d2] => { results := [.lit (.bool false)], args := [d1, d2] }
  | _ => none }
def FnExactLayOutWrongFalsely : Prop := fnExactLayOutRow.holds Tryd.pinned (OpenSpec.ofChange fnExactLayOutWrong)

/-- 'laws.FnNumbersOf': WHATEVER THE INPUT: true; the input reads as it did. -/
def fnNumbersOfSpec : ChangeSpec := { name := "fnNumbersOf", fn := fun _ => fun
  | [d] => { results := [.lit (.bool true)], args := [d] }
  | _ => none }
def fnNumbersOfRow : OpenClaim := { program := "ytdhfdepnleioiaadoor", sum := "ad2fb53f6cad0e79c3b46c4b82ded92b3423187857ae17062d862a7e05b6a2ae", func := "loop.example/flatarrays/laws.FnNumbersOf", spec := "fnNumbersOf", inPlace := ["internal/abi.NoEscape", "internal/bytealg.MakeNoZero"], recurses := true, named := ["strconv.ErrSyntax", "strconv.ErrRange", "internal/strconv.uint64pow10", "math/bits.deBruijn32tab", "math/bits.deBruijn64tab"], apart := false, laid := [("math/bits.deBruijn32tab", laid_math_bits_deBruijn32tab), ("math/bits.deBruijn64tab", laid_math_bits_deBruijn64tab), ("internal/strconv.uint64pow10", laid_internal_strconv_uint64pow10), ("strconv.ErrRange", laid_strconv_ErrRange), ("strconv.ErrSyntax", laid_strconv_ErrSyntax)] }
def FnNumbersOfSaid : Prop := fnNumbersOfRow.holds Tryd.pinned (OpenSpec.ofChange fnNumbersOfSpec)

/-- ITS FALSE NEIGHBOUR: 'it returns false'. Refute it at one input. -/
def fnNumbersOfWrong : ChangeSpec := { name := "fnNumbersOf", fn := fun _ => fun
  | [d] => { results := [.lit (.bool false)], args := [d] }
  | _ => none }
def FnNumbersOfWrongFalsely : Prop := fnNumbersOfRow.holds Tryd.pinned (OpenSpec.ofChange fnNumbersOfWrong)

/- THE SECOND FORM. 'bulk': how many values and letters a reading holds, each counted each time it is reached (what is shared counts as often as it is met; a slice's spare places count too). A statement '..UptoSaid' is the law's where the arguments, and the package variables that the reading takes, are together of bulk at most 1048576: NARROWER than '..Said'. Prove '..Said' where nothing that the law and all that it calls make is longer than what came in: it says more and counts as full. Else prove '..UptoSaid'. A law counts once. -/
mutual
def uptoBulk {H : Type} : DataW H → Nat
  | .lit (.string bytes) => bytes.length + 1
  | .lit _ => 1
  | .nil => 1
  | .ptr d => uptoBulk d + 1
  | .slice elems spare => uptoBulkAll elems + uptoBulkAll spare + 1
  | .agg parts => uptoBulkAll parts + 1
  | .iface _ d => uptoBulk d + 1
  | .map entries => uptoBulkEntries entries + 1
  | .held _ => 1
def uptoBulkAll {H : Type} : List (DataW H) → Nat
  | [] => 0
  | d :: r => uptoBulk d + uptoBulkAll r
def uptoBulkEntries {H : Type} : List (Lit × DataW H) → Nat
  | [] => 0
  | x :: r => uptoBulkEntry x + uptoBulkEntries r
def uptoBulkEntry {H : Type} : Lit × DataW H → Nat
  | (.string bytes, d) => bytes.length + uptoBulk d + 1
  | (_, d) => uptoBulk d + 1
 end
def uptoSmall : (H : Type) → List (DataW H) → Bool := fun _ ds => decide (uptoBulkAll ds ≤ 1048576)
def OpenSpec.upto (s : _root_.Go.ChangeSpec) : _root_.Go.OpenSpec := { _root_.Go.OpenSpec.ofChange s with cond := some uptoSmall }

/-- 'laws.FnExactArrayValid', WHERE WHAT IT READS IS OF BULK AT MOST 1048576: true; the input reads as it did. -/
def fnExactArrayValidUptoRow : OpenClaim := { program := "ytdhfdepnleioiaadoor", sum := "ad2fb53f6cad0e79c3b46c4b82ded92b3423187857ae17062d862a7e05b6a2ae", func := "loop.example/flatarrays/laws.FnExactArrayValid", spec := "fnExactArrayValid", recurses := true, named := ["strconv.ErrSyntax", "strconv.ErrRange", "internal/strconv.uint64pow10", "math/bits.deBruijn32tab", "math/bits.deBruijn64tab"], apart := false, laid := [("math/bits.deBruijn32tab", laid_math_bits_deBruijn32tab), ("math/bits.deBruijn64tab", laid_math_bits_deBruijn64tab), ("internal/strconv.uint64pow10", laid_internal_strconv_uint64pow10), ("strconv.ErrRange", laid_strconv_ErrRange), ("strconv.ErrSyntax", laid_strconv_ErrSyntax)], narrowed := true }
def FnExactArrayValidUptoSaid : Prop := fnExactArrayValidUptoRow.holds Tryd.pinned (OpenSpec.upto fnExactArrayValidSpec)

/-- 'laws.FnExactInputsValid', WHERE WHAT IT READS IS OF BULK AT MOST 1048576: true; the input reads as it did. -/
def fnExactInputsValidUptoRow : OpenClaim := { program := "ytdhfdepnleioiaadoor", sum := "ad2fb53f6cad0e79c3b46c4b82ded92b3423187857ae17062d862a7e05b6a2ae", func := "loop.example/flatarrays/laws.FnExactInputsValid", spec := "fnExactInputsValid", recurses := true, named := ["strconv.ErrSyntax", "strconv.ErrRange", "internal/strconv.uint64pow10", "math/bits.deBruijn32tab", "math/bits.deBruijn64tab"], apart := false, laid := [("math/bits.deBruijn32tab", laid_math_bits_deBruijn32tab), ("math/bits.deBruijn64tab", laid_math_bits_deBruijn64tab), ("internal/strconv.uint64pow10", laid_internal_strconv_uint64pow10), ("strconv.ErrRange", laid_strconv_ErrRange), ("strconv.ErrSyntax", laid_strconv_ErrSyntax)], narrowed := true }
def FnExactInputsValidUptoSaid : Prop := fnExactInputsValidUptoRow.holds Tryd.pinned (OpenSpec.upto fnExactInputsValidSpec)

/-- 'laws.FnExactLeastDepth', WHERE WHAT IT READS IS OF BULK AT MOST 1048576: true; the input reads as it did. -/
def fnExactLeastDepthUptoRow : OpenClaim := { program := "ytdhfdepnleioiaadoor", sum := "ad2fb53f6cad0e79c3b46c4b82ded92b3423187857ae17062d862a7e05b6a2ae", func := "loop.example/flatarrays/laws.FnExactLeastDepth", spec := "fnExactLeastDepth", recurses := true, named := ["strconv.ErrSyntax", "strconv.ErrRange", "internal/strconv.uint64pow10", "math/bits.deBruijn32tab", "math/bits.deBruijn64tab"], apart := false, laid := [("math/bits.deBruijn32tab", laid_math_bits_deBruijn32tab), ("math/bits.deBruijn64tab", laid_math_bits_deBruijn64tab), ("internal/strconv.uint64pow10", laid_internal_strconv_uint64pow10), ("strconv.ErrRange", laid_strconv_ErrRange), ("strconv.ErrSyntax", laid_strconv_ErrSyntax)], narrowed := true }
def FnExactLeastDepthUptoSaid : Prop := fnExactLeastDepthUptoRow.holds Tryd.pinned (OpenSpec.upto fnExactLeastDepthSpec)

/-- 'laws.FnExactNumbersOf', WHERE WHAT IT READS IS OF BULK AT MOST 1048576: true; the input reads as it did. -/
def fnExactNumbersOfUptoRow : OpenClaim := { program := "ytdhfdepnleioiaadoor", sum := "ad2fb53f6cad0e79c3b46c4b82ded92b3423187857ae17062d862a7e05b6a2ae", func := "loop.example/flatarrays/laws.FnExactNumbersOf", spec := "fnExactNumbersOf", recurses := true, named := ["strconv.ErrSyntax", "strconv.ErrRange", "internal/strconv.uint64pow10", "math/bits.deBruijn32tab", "math/bits.deBruijn64tab"], apart := false, laid := [("math/bits.deBruijn32tab", laid_math_bits_deBruijn32tab), ("math/bits.deBruijn64tab", laid_math_bits_deBruijn64tab), ("internal/strconv.uint64pow10", laid_internal_strconv_uint64pow10), ("strconv.ErrRange", laid_strconv_ErrRange), ("strconv.ErrSyntax", laid_strconv_ErrSyntax)], narrowed := true }
def FnExactNumbersOfUptoSaid : Prop := fnExactNumbersOfUptoRow.holds Tryd.pinned (OpenSpec.upto fnExactNumbersOfSpec)

/-- 'laws.FnExactLengthOf', WHERE WHAT IT READS IS OF BULK AT MOST 1048576: true; the input reads as it did. -/
def fnExactLengthOfUptoRow : OpenClaim := { program := "ytdhfdepnleioiaadoor", sum := "ad2fb53f6cad0e79c3b46c4b82ded92b3423187857ae17062d862a7e05b6a2ae", func := "loop.example/flatarrays/laws.FnExactLengthOf", spec := "fnExactLengthOf", inPlace := ["internal/abi.NoEscape", "internal/bytealg.MakeNoZero"], recurses := true, named := ["strconv.ErrSyntax", "strconv.ErrRange", "internal/strconv.uint64pow10", "math/bits.deBruijn32tab", "math/bits.deBruijn64tab"], apart := false, laid := [("math/bits.deBruijn32tab", laid_math_bits_deBruijn32tab), ("math/bits.deBruijn64tab", laid_math_bits_deBruijn64tab), ("internal/strconv.uint64pow10", laid_internal_strconv_uint64pow10), ("strconv.ErrRange", laid_strconv_ErrRange), ("strconv.ErrSyntax", laid_strconv_ErrSyntax)], narrowed := true }
def FnExactLengthOfUptoSaid : Prop := fnExactLengthOfUptoRow.holds Tryd.pinned (OpenSpec.upto fnExactLengthOfSpec)

/-- 'laws.FnExactJoinArrays', WHERE WHAT IT READS IS OF BULK AT MOST 1048576: true; the input reads as it did. -/
def fnExactJoinArraysUptoRow : OpenClaim := { program := "ytdhfdepnleioiaadoor", sum := "ad2fb53f6cad0e79c3b46c4b82ded92b3423187857ae17062d862a7e05b6a2ae", func := "loop.example/flatarrays/laws.FnExactJoinArrays", spec := "fnExactJoinArrays", inPlace := ["internal/abi.NoEscape", "internal/bytealg.MakeNoZero"], recurses := true, named := ["strconv.ErrSyntax", "strconv.ErrRange", "internal/strconv.uint64pow10", "math/bits.deBruijn32tab", "math/bits.deBruijn64tab"], apart := false, laid := [("math/bits.deBruijn32tab", laid_math_bits_deBruijn32tab), ("math/bits.deBruijn64tab", laid_math_bits_deBruijn64tab), ("internal/strconv.uint64pow10", laid_internal_strconv_uint64pow10), ("strconv.ErrRange", laid_strconv_ErrRange), ("strconv.ErrSyntax", laid_strconv_ErrSyntax)], narrowed := true }
def FnExactJoinArraysUptoSaid : Prop := fnExactJoinArraysUptoRow.holds Tryd.pinned (OpenSpec.upto fnExactJoinArraysSpec)

/-- 'laws.FnExactTurnArray', WHERE WHAT IT READS IS OF BULK AT MOST 1048576: true; the input reads as it did. -/
def fnExactTurnArrayUptoRow : OpenClaim := { program := "ytdhfdepnleioiaadoor", sum := "ad2fb53f6cad0e79c3b46c4b82ded92b3423187857ae17062d862a7e05b6a2ae", func := "loop.example/flatarrays/laws.FnExactTurnArray", spec := "fnExactTurnArray", inPlace := ["internal/abi.NoEscape", "internal/bytealg.MakeNoZero"], recurses := true, named := ["strconv.ErrSyntax", "strconv.ErrRange", "internal/strconv.uint64pow10", "math/bits.deBruijn32tab", "math/bits.deBruijn64tab"], apart := false, laid := [("math/bits.deBruijn32tab", laid_math_bits_deBruijn32tab), ("math/bits.deBruijn64tab", laid_math_bits_deBruijn64tab), ("internal/strconv.uint64pow10", laid_internal_strconv_uint64pow10), ("strconv.ErrRange", laid_strconv_ErrRange), ("strconv.ErrSyntax", laid_strconv_ErrSyntax)], narrowed := true }
def FnExactTurnArrayUptoSaid : Prop := fnExactTurnArrayUptoRow.holds Tryd.pinned (OpenSpec.upto fnExactTurnArraySpec)

/-- 'laws.FnExactPartsOf', WHERE WHAT IT READS IS OF BULK AT MOST 1048576: true; the input reads as it did. -/
def fnExactPartsOfUptoRow : OpenClaim := { program := "ytdhfdepnleioiaadoor", sum := "ad2fb53f6cad0e79c3b46c4b82ded92b3423187857ae17062d862a7e05b6a2ae", func := "loop.example/flatarrays/laws.FnExactPartsOf", spec := "fnExactPartsOf", inPlace := ["internal/abi.NoEscape", "internal/bytealg.MakeNoZero"], recurses := true, named := ["strconv.ErrSyntax", "strconv.ErrRange", "internal/strconv.uint64pow10", "math/bits.deBruijn32tab", "math/bits.deBruijn64tab"], apart := false, laid := [("math/bits.deBruijn32tab", laid_math_bits_deBruijn32tab), ("math/bits.deBruijn64tab", laid_math_bits_deBruijn64tab), ("internal/strconv.uint64pow10", laid_internal_strconv_uint64pow10), ("strconv.ErrRange", laid_strconv_ErrRange), ("strconv.ErrSyntax", laid_strconv_ErrSyntax)], narrowed := true }
def FnExactPartsOfUptoSaid : Prop := fnExactPartsOfUptoRow.holds Tryd.pinned (OpenSpec.upto fnExactPartsOfSpec)

/-- 'laws.FnExactMakeArray', WHERE WHAT IT READS IS OF BULK AT MOST 1048576: true; the input reads as it did. -/
def fnExactMakeArrayUptoRow : OpenClaim := { program := "ytdhfdepnleioiaadoor", sum := "ad2fb53f6cad0e79c3b46c4b82ded92b3423187857ae17062d862a7e05b6a2ae", func := "loop.example/flatarrays/laws.FnExactMakeArray", spec := "fnExactMakeArray", inPlace := ["internal/abi.NoEscape", "internal/bytealg.MakeNoZero"], recurses := true, named := ["strconv.ErrSyntax", "strconv.ErrRange", "internal/strconv.uint64pow10", "math/bits.deBruijn32tab", "math/bits.deBruijn64tab"], apart := false, laid := [("math/bits.deBruijn32tab", laid_math_bits_deBruijn32tab), ("math/bits.deBruijn64tab", laid_math_bits_deBruijn64tab), ("internal/strconv.uint64pow10", laid_internal_strconv_uint64pow10), ("strconv.ErrRange", laid_strconv_ErrRange), ("strconv.ErrSyntax", laid_strconv_ErrSyntax)], narrowed := true }
def FnExactMakeArrayUptoSaid : Prop := fnExactMakeArrayUptoRow.holds Tryd.pinned (OpenSpec.upto fnExactMakeArraySpec)

/-- 'laws.FnExactFlattenOnce', WHERE WHAT IT READS IS OF BULK AT MOST 1048576: true; the input reads as it did. -/
def fnExactFlattenOnceUptoRow : OpenClaim := { program := "ytdhfdepnleioiaadoor", sum := "ad2fb53f6cad0e79c3b46c4b82ded92b3423187857ae17062d862a7e05b6a2ae", func := "loop.example/flatarrays/laws.FnExactFlattenOnce", spec := "fnExactFlattenOnce", inPlace := ["internal/abi.NoEscape", "internal/bytealg.MakeNoZero"], recurses := true, named := ["strconv.ErrSyntax", "strconv.ErrRange", "internal/strconv.uint64pow10", "math/bits.deBruijn32tab", "math/bits.deBruijn64tab"], apart := false, laid := [("math/bits.deBruijn32tab", laid_math_bits_deBruijn32tab), ("math/bits.deBruijn64tab", laid_math_bits_deBruijn64tab), ("internal/strconv.uint64pow10", laid_internal_strconv_uint64pow10), ("strconv.ErrRange", laid_strconv_ErrRange), ("strconv.ErrSyntax", laid_strconv_ErrSyntax)], narrowed := true }
def FnExactFlattenOnceUptoSaid : Prop := fnExactFlattenOnceUptoRow.holds Tryd.pinned (OpenSpec.upto fnExactFlattenOnceSpec)

/-- 'laws.FnExactLayOut', WHERE WHAT IT READS IS OF BULK AT MOST 1048576: true; the input reads as it did. -/
def fnExactLayOutUptoRow : OpenClaim := { program := "ytdhfdepnleioiaadoor", sum := "ad2fb53f6cad0e79c3b46c4b82ded92b3423187857ae17062d862a7e05b6a2ae", func := "loop.example/flatarrays/laws.FnExactLayOut", spec := "fnExactLayOut", recurses := true, named := ["strconv.ErrSyntax", "strconv.ErrRange", "internal/strconv.uint64pow10", "math/bits.deBruijn32tab", "math/bits.deBruijn64tab"], apart := false, laid := [("math/bits.deBruijn32tab", laid_math_bits_deBruijn32tab), ("math/bits.deBruijn64tab", laid_math_bits_deBruijn64tab), ("internal/strconv.uint64pow10", laid_internal_strconv_uint64pow10), ("strconv.ErrRange", laid_strconv_ErrRange), ("strconv.ErrSyntax", laid_strconv_ErrSyntax)], narrowed := true }
def FnExactLayOutUptoSaid : Prop := fnExactLayOutUptoRow.holds Tryd.pinned (OpenSpec.upto fnExactLayOutSpec)

/-- 'laws.FnNumbersOf', WHERE WHAT IT READS IS OF BULK AT MOST 1048576: true; the input reads as it did. -/
def fnNumbersOfUptoRow : OpenClaim := { program := "ytdhfdepnleioiaadoor", sum := "ad2fb53f6cad0e79c3b46c4b82ded92b3423187857ae17062d862a7e05b6a2ae", func := "loop.example/flatarrays/laws.FnNumbersOf", spec := "fnNumbersOf", inPlace := ["internal/abi.NoEscape", "internal/bytealg.MakeNoZero"], recurses := true, named := ["strconv.ErrSyntax", "strconv.ErrRange", "internal/strconv.uint64pow10", "math/bits.deBruijn32tab", "math/bits.deBruijn64tab"], apart := false, laid := [("math/bits.deBruijn32tab", laid_math_bits_deBruijn32tab), ("math/bits.deBruijn64tab", laid_math_bits_deBruijn64tab), ("internal/strconv.uint64pow10", laid_internal_strconv_uint64pow10), ("strconv.ErrRange", laid_strconv_ErrRange), ("strconv.ErrSyntax", laid_strconv_ErrSyntax)], narrowed := true }
def FnNumbersOfUptoSaid : Prop := fnNumbersOfUptoRow.holds Tryd.pinned (OpenSpec.upto fnNumbersOfSpec)

end Rows
end Go.Proofs.YtdhfdepnleioiaaDoor
