/-
  No cell of these rows narrows 'for every input' (looked for: loops, veiled, ifaces, maps, wideKeys, modest, calm, conditions, laid).
  DERIVED. THE GIVEN ROWS OF THIS SEAT. 3 by the template 'for every input the law returns true; each argument reads behind the call as it read before'; 0 by the template 'total and deterministic' (their statements: YtibjofpgbcbloaaTotals.lean).
  GIVEN WITH THE SEED: the statements are not yours to turn. If you find one false, say at which input.
  Laid BY PROGRAM, IN A SANDBOX (cutbox-rows.mjs): the forced cells as the released guide's own fill.sh prints them over the translation 0fafe5830914b335… (all of the seat's roots in one cut). By AI agents, Wed Nov 11 2026. No macro, syntax, notation, axiom, sorry.
-/
import Derived.Test.YtibjofpgbcbloaaChecked
import GoSem.Claim
import GoSem.ClaimJoined
import GoSem.ClaimMapViews
import Derived.JoinedTies
import Derived.KernelRfl
namespace Go.Proofs.Ytibjofpgbcbloaa
/- THE CELL 'sum', in the pinned program and in every row, IS THE sha256 OF THE DUMP (.gsa) THAT YtibjofpgbcbloaaProg.lean LOADS. Nothing in Lean hashes anything: it is a label: what it is worth is what the hold of that sum in a sandbox is worth. -/
noncomputable def Try.pinned : Pinned := { name := "ytibjofpgbcbloaa", sum := "0fafe5830914b3358c76fd5840d1b9c2f459162982c4d69d7f696c077ae57738", checked := Try.checked }
namespace Rows
def none {H : Type} : Left H := { results := [], args := [] }

/-- 'laws.FnExactNameOfRule': WHATEVER THE INPUT: true; the input reads as it did. -/
def fnExactNameOfRuleSpec : ChangeSpec := { name := "fnExactNameOfRule", fn := fun _ => fun
  | [d] => { results := [.lit (.bool true)], args := [d] }
  | _ => none }
def fnExactNameOfRuleRow : OpenClaim := { program := "ytibjofpgbcbloaa", sum := "0fafe5830914b3358c76fd5840d1b9c2f459162982c4d69d7f696c077ae57738", func := "loop.example/flatarrays/laws.FnExactNameOfRule", spec := "fnExactNameOfRule", apart := false }
def FnExactNameOfRuleSaid : Prop := fnExactNameOfRuleRow.holds Try.pinned (OpenSpec.ofChange fnExactNameOfRuleSpec)

/-- ITS FALSE NEIGHBOUR: 'it returns false'. Refute it at one input. -/
def fnExactNameOfRuleWrong : ChangeSpec := { name := "fnExactNameOfRule", fn := fun _ => fun
  | [d] => { results := [.lit (.bool false)], args := [d] }
  | _ => none }
def FnExactNameOfRuleWrongFalsely : Prop := fnExactNameOfRuleRow.holds Try.pinned (OpenSpec.ofChange fnExactNameOfRuleWrong)

/-- 'laws.FnExactVectorValid': WHATEVER THE INPUT: true; the input reads as it did. -/
def fnExactVectorValidSpec : ChangeSpec := { name := "fnExactVectorValid", fn := fun _ => fun
  | [d] => { results := [.lit (.bool true)], args := [d] }
  | _ => none }
def fnExactVectorValidRow : OpenClaim := { program := "ytibjofpgbcbloaa", sum := "0fafe5830914b3358c76fd5840d1b9c2f459162982c4d69d7f696c077ae57738", func := "loop.example/flatarrays/laws.FnExactVectorValid", spec := "fnExactVectorValid", unfollowed := true, recurses := true, apart := false }
def FnExactVectorValidSaid : Prop := fnExactVectorValidRow.holds Try.pinned (OpenSpec.ofChange fnExactVectorValidSpec)

/-- ITS FALSE NEIGHBOUR: 'it returns false'. Refute it at one input. -/
def fnExactVectorValidWrong : ChangeSpec := { name := "fnExactVectorValid", fn := fun _ => fun
  | [d] => { results := [.lit (.bool false)], args := [d] }
  | _ => none }
def FnExactVectorValidWrongFalsely : Prop := fnExactVectorValidRow.holds Try.pinned (OpenSpec.ofChange fnExactVectorValidWrong)

/-- 'laws.FnExactFlatSteps': WHATEVER THE INPUT: true; the input reads as it did. -/
def fnExactFlatStepsSpec : ChangeSpec := { name := "fnExactFlatSteps", fn := fun _ => fun
  | [d] => { results := [.lit (.bool true)], args := [d] }
  | _ => none }
def fnExactFlatStepsRow : OpenClaim := { program := "ytibjofpgbcbloaa", sum := "0fafe5830914b3358c76fd5840d1b9c2f459162982c4d69d7f696c077ae57738", func := "loop.example/flatarrays/laws.FnExactFlatSteps", spec := "fnExactFlatSteps", inPlace := ["internal/bytealg.IndexByteString", "internal/bytealg.IndexString"], recurses := true, named := ["internal/bytealg.MaxLen"], apart := false }
def FnExactFlatStepsSaid : Prop := fnExactFlatStepsRow.holds Try.pinned (OpenSpec.ofChange fnExactFlatStepsSpec)

/-- ITS FALSE NEIGHBOUR: 'it returns false'. Refute it at one input. -/
def fnExactFlatStepsWrong : ChangeSpec := { name := "fnExactFlatSteps", fn := fun _ => fun
  | [d] => { results := [.lit (.bool false)], args := [d] }
  | _ => none }
def FnExactFlatStepsWrongFalsely : Prop := fnExactFlatStepsRow.holds Try.pinned (OpenSpec.ofChange fnExactFlatStepsWrong)

/- THE SECOND FORM. 'bulk': how many values and letters a reading holds, each counted each time it is reached (what is shared counts as often as it is met; a slice's spare places count too). A statement '..UptoSaid' is the law's where the arguments, and the package variables that the reading takes, are together of bulk at most 1048576: NARROWER than '..Said'. Prove '..Said' where nothing that the law and all that it calls make is longer than what came in: it says more and counts as full. Else prove '..UptoSaid'. A law counts once. -/
mutual
def uptoBulk {H : Type} : DataW H → Nat
  | .lit (.string bytes) => bytes.length + 1
  | .lit _ => 1
  | .nil => 1
  | .ptr d => uptoBulk d + 1
  | .slice elems spare => uptoBulkAll elems + uptoBulkAll spare + 1
  | .agg parts => uptoBulkAll parts + 1
  | .iface _ d => uptoBulk d + 1
  | .map entries => uptoBulkEntries entries + 1
  | .held _ => 1
def uptoBulkAll {H : Type} : List (DataW H) → Nat
  | [] => 0
  | d :: r => uptoBulk d + uptoBulkAll r
def uptoBulkEntries {H : Type} : List (Lit × DataW H) → Nat
  | [] => 0
  | x :: r => uptoBulkEntry x + uptoBulkEntries r
def uptoBulkEntry {H : Type} : Lit × DataW H → Nat
  | (.string bytes, d) => bytes.length + uptoBulk d + 1
  | (_, d) => uptoBulk d + 1
 end
def uptoSmall : (H : Type) → List (DataW H) → Bool := fun _ ds => decide (uptoBulkAll ds ≤ 1048576)
def OpenSpec.upto (s : _root_.Go.ChangeSpec) : _root_.Go.OpenSpec := { _root_.Go.OpenSpec.ofChange s with cond := some uptoSmall }

/-- 'laws.FnExactNameOfRule', WHERE WHAT IT READS IS OF BULK AT MOST 1048576: true; the input reads as it did. -/
def fnExactNameOfRuleUptoRow : OpenClaim := { program := "ytibjofpgbcbloaa", sum := "0fafe5830914b3358c76fd5840d1b9c2f459162982c4d69d7f696c077ae57738", func := "loop.example/flatarrays/laws.FnExactNameOfRule", spec := "fnExactNameOfRule", apart := false, narrowed := true }
def FnExactNameOfRuleUptoSaid : Prop := fnExactNameOfRuleUptoRow.holds Try.pinned (OpenSpec.upto fnExactNameOfRuleSpec)

/-- 'laws.FnExactVectorValid', WHERE WHAT IT READS IS OF BULK AT MOST 1048576: true; the input reads as it did. -/
def fnExactVectorValidUptoRow : OpenClaim := { program := "ytibjofpgbcbloaa", sum := "0fafe5830914b3358c76fd5840d1b9c2f459162982c4d69d7f696c077ae57738", func := "loop.example/flatarrays/laws.FnExactVectorValid", spec := "fnExactVectorValid", unfollowed := true, recurses := true, apart := false, narrowed := true }
def FnExactVectorValidUptoSaid : Prop := fnExactVectorValidUptoRow.holds Try.pinned (OpenSpec.upto fnExactVectorValidSpec)

/-- 'laws.FnExactFlatSteps', WHERE WHAT IT READS IS OF BULK AT MOST 1048576: true; the input reads as it did. -/
def fnExactFlatStepsUptoRow : OpenClaim := { program := "ytibjofpgbcbloaa", sum := "0fafe5830914b3358c76fd5840d1b9c2f459162982c4d69d7f696c077ae57738", func := "loop.example/flatarrays/laws.FnExactFlatSteps", spec := "fnExactFlatSteps", inPlace := ["internal/bytealg.IndexByteString", "internal/bytealg.IndexString"], recurses := true, named := ["internal/bytealg.MaxLen"], apart := false, narrowed := true }
def FnExactFlatStepsUptoSaid : Prop := fnExactFlatStepsUptoRow.holds Try.pinned (OpenSpec.upto fnExactFlatStepsSpec)

end Rows
end Go.Proofs.Ytibjofpgbcbloaa
