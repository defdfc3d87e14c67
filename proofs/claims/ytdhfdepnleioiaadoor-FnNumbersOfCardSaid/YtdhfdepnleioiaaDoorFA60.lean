/-
Printed by wip/tools/pp.py and pack.py: the printed walk of function 60 (strings_Join): what it computes, and that a call of it in the model gives just that.
-/
import Derived.Test.YtdhfdepnleioiaaDoorFA0
import Derived.Lib.Join
import Derived.Test.YtdhfdepnleioiaaDoorShelf
namespace Go.Proofs.YtdhfdepnleioiaaDoor.PA
open Go.RowKit Go.Proofs.YtdhfdepnleioiaaDoorW.PrintWords Go.Proofs.YtdhfdepnleioiaaDoorW.PrintLast Go.Proofs.YtdhfdepnleioiaaDoorW.PrintMore
attribute [local go_sem] max2_int min2_int max_two min_two max_three min_three max_four min_four   -- for this text's walks alone
set_option linter.unusedVariables false
set_option linter.unusedSimpArgs false
/-! ### strings_Join: function 60 -/
/-- strings.Join, told by the shelf's contract. -/
def strings_Join.f (l0 : List ByteArray) (a1 : ByteArray) : Option (ByteArray) := if l0.length ≤ 140737488355328 then (if (Lib.join (l0.map (·.data.toList)) a1.data.toList).length ≤ 140737488355328 then (some ⟨(Lib.join (l0.map (·.data.toList)) a1.data.toList).toArray⟩) else none) else none
theorem strings_Join.calls (A0 : Option Addr) (c0 : Nat) (l0 : List ByteArray) (a1 : ByteArray) (r : ByteArray) (w : World) (hr0 : Kd.C Kd.string w A0 l0.length l0) (hc0 : l0.length ≤ c0) (h : strings_Join.f l0 a1 = some r) :
    Calls Tryd.prog 60 #[.slice A0 l0.length c0, .string a1] w fun e w' => e = .returned (.string r) ∧ Below w.heap.size w w' := by
  unfold strings_Join.f at h
  by_cases h0 : l0.length ≤ 140737488355328
  · rw [if_pos h0] at h
    by_cases h1 : (Lib.join (l0.map (·.data.toList)) a1.data.toList).length ≤ 140737488355328
    · rw [if_pos h1] at h
      obtain rfl := Option.some.inj h
      by_cases hl : l0 = []
      · subst hl
        refine (Tryd.strings_Join_none A0 c0 a1 w).mono ?_
        rintro e w' ⟨rfl, rfl⟩
        exact ⟨rfl, Below.refl _ _⟩
      · have hpos : 0 < l0.length := List.length_pos_iff.2 hl
        obtain ⟨ad, rfl, hcell⟩ := hr0.2.2 hpos
        have hc : ∀ (j : Nat) x, l0[j]? = some x → w.cell? (ad.add j) = some (.string x) := by
          intro j x hj
          obtain ⟨c, _, hk, hu⟩ := hcell j x hj
          have hk' : c = [.string x] := hk
          subst hk'
          have := hu 0 (.string x) rfl
          simpa [Kd.string, Kd.scalar] using this
        have hx0 : ∃ x, l0[0]? = some x := ⟨l0[0], List.getElem?_eq_getElem hpos⟩
        obtain ⟨x0, hx0⟩ := hx0
        have h00 := hc 0 x0 hx0
        rw [Addr.add, if_pos rfl] at h00
        have hsp : ad.spot = none := by
          unfold World.cell? at h00
          cases hs : ad.spot with
          | none => rfl
          | some k =>
            rw [hs] at h00
            split at h00 <;> simp at h00
        have hlt : ad.block < w.heap.size := World.block_lt_of_cell? _ _ h00
        obtain ⟨bk, o, sp⟩ := ad
        simp only at hsp hlt
        subst hsp
        refine (Tryd.strings_Join bk o c0 l0 a1 w ?_ hlt h0 hc0 h1).mono ?_
        · intro j x hj
          have := hc j x hj
          unfold Addr.add at this
          by_cases hj0 : j = 0
          · subst hj0
            simpa using this
          · simpa [hj0] using this
        · rintro e w' ⟨rfl, hb⟩
          exact ⟨rfl, hb⟩
    · rw [if_neg h1] at h
      cases h
  · rw [if_neg h0] at h
    cases h
end Go.Proofs.YtdhfdepnleioiaaDoor.PA
