/-
The engine at this seat: what the shelf tells (strings.Contains with one byte, strings.HasPrefix).
-/
import Derived.Test.YtibjofpgbcbloaaProg
import Derived.Test.YtibjofpgbcbloaaShelf
import Derived.Test.YtibjofpgbcbloaaEvModes
namespace Go.Proofs.Ytibjofpgbcbloaa.Ev
open Go Go.RowKit
set_option linter.unusedVariables false

def hand : Sem1 := fun f xs => match xs with
  | [.v (.string s), .v (.string p)] =>
    if f = 46 then some (.v (.bool (Lib.hasPrefix s.data.toList p.data.toList)))
    else if f = 45 then (match p.data.toList with | [c] => some (.v (.bool (decide (0 ≤ Lib.indexByte s.data.toList c)))) | _ => none)
    else none
  | _ => none

theorem hand_mem (f : FuncId) (xs : List AV) (r : AV) (h : hand f xs = some r) : f = 45 ∨ f = 46 := by
  unfold hand at h
  split at h
  · split at h
    · exact .inr ‹_›
    · split at h
      · exact .inl ‹_›
      · cases h
  · cases h

theorem hand_ok (f : FuncId) (xs : List AV) (x : AV) (h : hand f xs = some x) : FOk Try.prog pf f xs x := by
  unfold hand at h
  split at h
  · rename_i s p
    split at h
    · rename_i hf
      subst hf
      obtain rfl := Option.some.inj h
      exact pureOk_of_calls Try.func46 (by rfl) (by rfl) [.string s, .string p] _ fun w => Try.strings_HasPrefix s p w
    · split at h
      · rename_i hf
        subst hf
        split at h
        · rename_i c hc
          obtain rfl := Option.some.inj h
          have hp : p = ⟨#[c]⟩ := by
            cases p
            rename_i d
            simp only at hc
            rw [show d = d.toList.toArray from rfl, hc]
          subst hp
          exact pureOk_of_calls Try.func45 (by rfl) (by rfl) [.string s, .string ⟨#[c]⟩] _ fun w => Try.strings_Contains_one s c w
        · cases h
      · cases h
  · cases h
end Go.Proofs.Ytibjofpgbcbloaa.Ev
