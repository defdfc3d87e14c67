/-
Texts Vp to Vq of the work.
-/
import Derived.Test.YtegbkihgnofkfaaGreatDoorZVo
/-
Code: the laws of HeightsOf and LevelsAt.
-/
namespace Go.Proofs.YtegbkihgnofkfaaGreatDoor.Ev
section
set_option linter.unusedVariables false
set_option linter.unusedSimpArgs false
open Go Go.RowKit
set_option linter.unusedVariables false
set_option linter.unusedSimpArgs false
section
variable {I : Tab} {C : Sem1} {pf : FuncId → Nat} {m : Nat} {e : Nat → AV} {σ : Sto} {key : Nat}
theorem evM_goes {fn : Func} {c : Code} {xs : List AV} (hN : xs.length ≤ fn.ntmps) (hx : xs.all goes = true) :
    evM I C pf m fn c xs = (evC I C pf m c ⟨fun t => xs.getD t (.v undef), fun _ => none, 0⟩).bind (outK I fn.results.toList xs) := by
  unfold evM
  simp only [inits_goes hx]
  rw [if_pos ⟨hN, trivial⟩]
  congr 1
  funext ⟨x, s⟩
  cases x <;> rfl
theorem out_goes_one {rs : List ResultVar} {xs : List AV} {s : St} {x : AV} (h1 : evRes I s rs = some [x]) (h2 : goes x = true) (hx : xs.all goes = true) :
    outK I rs xs (.ret, s) = some (.t [x, .t xs]) := by
  have h3 : giveL s.σ [x] = some ([x], [], []) := giveL_closed (by simp only [closedL, goes_closed h2, Bool.and_self])
  simp only [outK, h1, Option.bind_some, h3, packOL_goes hx]
  rw [if_pos ⟨by simp, by simp⟩]
  cases x
  case t => simp [goes] at h2
  all_goals rfl
theorem call_goes {f : FuncId} {xs : List AV} {x : Value} (hp : pf f = 2) (hx : xs.all goes = true) (hr : C f xs = some (.t [.v x, .t xs])) : callOp C pf σ key f xs = some (.v x, σ) := by
  rw [call2_eq hp]
  have h1 : needs σ xs = [] := needs_goes hx
  rw [h1]
  simp only [frz0, packL_goes hx, Option.bind_some, lend1]
  rw [if_pos (by simp), hr]
  have h3 : killL σ [] = σ := by
    funext i
    simp [killL]
  simp only [Option.bind_some, lend2, h1, frz0, h3, back_goes hx]
  rw [if_pos (by simp [room])]
  rfl
end
theorem EE_goes {f : FuncId} {fn : Func} {xs : List AV} {r : AV} (hT : TT f = some (fn, bodyOf fn)) (hp : pf f = 2) (hN : xs.length ≤ fn.ntmps) (hx : xs.all goes = true)
    (h : (evC II EE (withOpt (opt f) pf) MX (strip (bodyOf fn)) ⟨fun t => xs.getD t (.v undef), fun _ => none, 0⟩).bind (outK II fn.results.toList xs) = some r) : EE f xs = some r :=
  EE_lent hT hp (by rw [evM_goes hN hx, ← evC_strip]; exact h)
theorem adopt_ob2 (σ : Sto) (key : Nat) {E sz n : Nat} {cs : List AV} (b : Bool) (h : closedL cs = true) : adopt σ key (.t [.o E sz n cs, B b]) = some (.t [.w key 0 n, B b], upd σ key (some (.row E sz n cs))) := adopt_t2 _ _ (adopt1_o h) rfl
theorem adopt_sn (σ : Sto) (key : Nat) (b : Bool) : adopt σ key (.t [.s true 0 [], B b]) = some (.t [.s true 0 [], B b], σ) := adopt_two rfl rfl
end
end Go.Proofs.YtegbkihgnofkfaaGreatDoor.Ev

/-
Laws: marks in a slice of texts.
-/
namespace Go.Proofs.YtegbkihgnofkfaaGreatDoor.Ev
section
set_option linter.unusedVariables false
set_option linter.unusedSimpArgs false
open Go Go.RowKit
set_option linter.unusedVariables false
set_option linter.unusedSimpArgs false
/-- A number's digits ahead of a text. -/
def digM : Nat → Nat → List UInt8 → List UInt8
  | 0, _, acc => acc
  | f + 1, k, acc => if k = 0 then acc else digM f (k / 10) (UInt8.ofNat (48 + k % 10) :: acc)
theorem digM_len : ∀ (f k : Nat) (acc : List UInt8), acc.length ≤ (digM f k acc).length ∧ (digM f k acc).length ≤ acc.length + f
  | 0, k, acc => by simp [digM]
  | f + 1, k, acc => by
    rw [digM]
    split
    · omega
    · have := digM_len f (k / 10) (UInt8.ofNat (48 + k % 10) :: acc)
      simp only [List.length_cons] at this
      omega
def markT (k : Nat) : List UInt8 := 109 :: digM k k []
def tmk (n : Nat) : List (List UInt8) := (List.range n).map fun i => markT (1 + i)
theorem tmk_len (n : Nat) : (tmk n).length = n := by simp [tmk]
theorem tmk_snoc (n : Nat) : tmk (n + 1) = tmk n ++ [markT (1 + n)] := by simp [tmk, List.range_succ]
theorem tmk_head {i n : Nat} (h : i < n) : ((tmk n).drop i).head? = some (markT (1 + i)) := by
  rw [List.head?_drop]
  simp [tmk, h]
end
end Go.Proofs.YtegbkihgnofkfaaGreatDoor.Ev
