/-
Texts Yd to Yd of the work.
-/
import Derived.Test.YtegbkihgnofkfaaDoorZYb
/-
Simplifying: a term put in place of a variable: the reference, small laws.
-/
namespace Go.Proofs.YtegbkihgnofkfaaDoor.Ev
section
set_option linter.unusedVariables false
set_option linter.unusedSimpArgs false
open Go Go.RowKit
set_option linter.unusedVariables false
set_option linter.unusedSimpArgs false
theorem T_l5Replace : TT 159 = some (Tryd.f159, bodyOf Tryd.f159) := by kernel_rfl
theorem deep_aX {σ : Sto} (d : Nat) (cs : List AV) : deep σ (d + 1) (.a cs) = (deepC (deep σ d) cs).map fun (ds, is) => (.a ds, is) := rfl
theorem give_node {σ : Sto} {k E N m : Nat} {s n : UInt8} {b : Bool} {cs : List AV} (h2 : σ k = some (.row E 3 N cs)) (hl : m * 3 ≤ cs.length) (hc : closedL cs = true) : giveAll σ [.a [U s, U n, .w k 0 m], B b] = some (.t [.a [U s, U n, .s false m (cs.take (m * 3))], B b]) := by
  have hd : deep σ 8 (.a [U s, U n, .w k 0 m]) = some (.a [U s, U n, .s false m (cs.take (m * 3))], [k]) := by
    have e : deep σ 7 (.w k 0 m) = some (.s false m (cs.take (m * 3)), [k]) := by rw [deep_w 6 h2 (by omega) hc, List.drop_zero]
    rw [deep_aX]
    simp only [deepC, deep_closed 7 (U s) rfl, deep_closed 7 (U n) rfl, e, Option.bind_some, Option.map_some, List.append_nil, List.nil_append]
  have hb : deep σ 8 (B b) = some (B b, []) := deep_closed 8 _ rfl
  simp only [giveAll, giveL, give1, hd, hb, Option.bind_some, Option.map_some, List.append_nil]
  simp
theorem give_nb {σ : Sto} {cs : List AV} {b : Bool} (hc : closedL cs = true) : giveAll σ [.a cs, B b] = some (.t [.a cs, B b]) := give_two (by simpa only [closed] using hc) rfl
theorem pure_nb2 {σ : Sto} {cs : List AV} {b : Bool} (hc : closedL cs = true) : pureK σ (.t [.a cs, B b]) = some (.t [.a cs, B b], σ) := by
  have : closed (.t [.a cs, B b]) = true := by simp only [closed, closedL, hc, Bool.and_self]
  simp only [pureK, this, if_true]
theorem rep_cl {cs cu : List AV} {t u : T} (h : IsN cs t) (hu : IsN cu u) (v : UInt8) : closedL [.a cs, U v, .a cu] = true := by simp only [closedL, closed, h.closed, hu.closed, Bool.and_self]
end
end Go.Proofs.YtegbkihgnofkfaaDoor.Ev
