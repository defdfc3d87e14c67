/-
The engine at this seat: modes and options.
-/
import Derived.Test.YtibjofpgbcbloaaEvX5
namespace Go.Proofs.Ytibjofpgbcbloaa.Ev
open Go Go.RowKit
/-- How functions are called: 0: what is reached of the arguments never changes any more; 1: of values alone; 2: what it is given may change. -/
def pf : FuncId → Nat := fun f => if f = 16 then 1 else if f = 33 then 2 else if f = 36 then 1 else if f = 37 then 1 else if f = 40 then 2 else if f = 41 then 1 else if f = 42 then 2 else if f = 43 then 2 else if f = 44 then 1 else if f = 45 then 1 else if f = 46 then 1 else 0
def opt : FuncId → List Nat := fun f => if f = 34 then [oBox 49, oReg 11] else if f = 35 then [oBox 73] else []
end Go.Proofs.Ytibjofpgbcbloaa.Ev
