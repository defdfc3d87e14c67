/-
Printed by wip/tools/pp.py and pack.py: the printed walk of function 86 (strconv_Atoi): what it computes, and that a call of it in the model gives just that.
-/
import Derived.Test.YtdhfdepnleioiaaDoorFA0
import Derived.Lib.ConvBytes
import Derived.Test.YtdhfdepnleioiaaDoorShelf
namespace Go.Proofs.YtdhfdepnleioiaaDoor.PA
open Go.RowKit Go.Proofs.YtdhfdepnleioiaaDoorW.PrintWords Go.Proofs.YtdhfdepnleioiaaDoorW.PrintLast Go.Proofs.YtdhfdepnleioiaaDoorW.PrintMore
attribute [local go_sem] max2_int min2_int max_two min_two max_three min_three max_four min_four   -- for this text's walks alone
set_option linter.unusedVariables false
set_option linter.unusedSimpArgs false
/-! ### strconv_Atoi: function 86 -/
/-- strconv.Atoi, told by the shelf's contracts: the number and whether there is an error (some 0: there is one; its text is never read). -/
def strconv_Atoi.f (a0 : ByteArray) : Option (Int × Option Int) := if a0.size ≤ 140737488355328 then (match Lib.atoiAll a0.data.toList with
  | .ok v => some (v, none)
  | .range => some (Lib.atoiSat a0.data.toList, some 0)
  | _ => some (0, some 0)) else none
theorem strconv_Atoi.three (l : List UInt8) : (∃ v, Lib.atoiAll l = .ok v) ∨ Lib.atoiAll l = .range ∨ Lib.atoiAll l = Lib.atoiAll [] := by
  cases Lib.atoiAll l <;> first | exact .inl ⟨_, rfl⟩ | exact .inr (.inl rfl) | exact .inr (.inr rfl)
theorem strconv_Atoi.calls_none (a0 : ByteArray) (r1 : Int) (w : World) (hT : Tabs w) (h : strconv_Atoi.f a0 = some (r1, none)) :
    Calls Tryd.prog 86 #[.string a0] w fun e w' => e = .returned (.tuple #[.int .i64 r1, .nilIface]) ∧ Below w.heap.size w w' := by
  unfold strconv_Atoi.f at h
  by_cases h0 : a0.size ≤ 140737488355328
  · rw [if_pos h0] at h
    rcases strconv_Atoi.three a0.data.toList with ⟨v, hv⟩ | hv | hv
    · rw [hv] at h
      simp at h
      subst h
      refine (Tryd.strconv_Atoi_ok a0 (by omega) v hv w).mono ?_
      rintro e w' ⟨rfl, rfl | ⟨t, rfl⟩⟩
      · exact ⟨rfl, Below.refl _ _⟩
      · exact ⟨rfl, Lib.bytesWorld_below _ _ _⟩
    · rw [hv] at h
      simp at h
    · rw [hv, show (Lib.atoiAll [] = Lib.atoiAll []) from rfl] at h
      simp [Lib.atoiAll] at h
  · rw [if_neg h0] at h
    cases h
theorem strconv_Atoi.calls_some (a0 : ByteArray) (r1 : Int) (q : Int) (w : World) (hT : Tabs w) (h : strconv_Atoi.f a0 = some (r1, some q)) :
    Calls Tryd.prog 86 #[.string a0] w fun e w' => ∃ g_ : Nat, e = .returned (.tuple #[.int .i64 r1, .iface 120 (.pointer (some ⟨g_, 0, none⟩))]) ∧ Below w.heap.size w w' := by
  unfold strconv_Atoi.f at h
  by_cases h0 : a0.size ≤ 140737488355328
  · rw [if_pos h0] at h
    rcases strconv_Atoi.three a0.data.toList with ⟨v, hv⟩ | hv | hv
    · rw [hv] at h
      simp at h
    · rw [hv] at h
      simp at h
      obtain ⟨rfl, _⟩ := h
      obtain ⟨tp, p, hp⟩ := hT.rng
      refine (Tryd.strconv_Atoi_range_var a0 (by omega) hv tp p w hp).mono ?_
      rintro e w' ⟨g, rfl, _, _, hb⟩
      exact ⟨g, rfl, hb⟩
    · rw [hv] at h
      simp [Lib.atoiAll] at h
      obtain ⟨rfl, _⟩ := h
      obtain ⟨tp, p, hp⟩ := hT.syn
      refine (Tryd.strconv_Atoi_syntax_var a0 (by omega) hv tp p w hp).mono ?_
      rintro e w' ⟨g, rfl, _, _, hb⟩
      exact ⟨g, rfl, hb⟩
  · rw [if_neg h0] at h
    cases h
end Go.Proofs.YtdhfdepnleioiaaDoor.PA
