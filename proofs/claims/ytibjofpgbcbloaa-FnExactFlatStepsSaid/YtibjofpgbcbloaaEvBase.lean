/-
The engine at this seat: modes of calls, options, what functions give (EE), the rows of types.
-/
import Derived.Test.YtibjofpgbcbloaaProg
import Derived.Test.YtibjofpgbcbloaaEvHand
import Derived.KernelRfl
namespace Go.Proofs.Ytibjofpgbcbloaa.Ev
open Go Go.RowKit
set_option linter.unusedVariables false
/-- Functions that the hand knows are not run. -/
noncomputable def TT : FuncId → Option (Func × Code) := fun f => if f = 45 ∨ f = 46 then none else fitT Try.prog pf opt (fun _ _ => []) f
noncomputable def II : Tab := tabOf Try.prog
theorem follows_ok : Try.prog.follows .mixedOrders = true := by kernel_rfl
theorem size_ok : Try.prog.funcs.size ≤ 1000000000 := by
  have : Nat.ble Try.prog.funcs.size 1000000000 = true := by kernel_rfl
  exact Nat.le_of_ble_eq_true this
noncomputable def EE : Sem1 := evAll II TT hand pf opt
theorem hand_none (f : FuncId) (xs : List AV) (r : AV) (h : hand f xs = some r) : TT f = none := by
  have := hand_mem f xs r h
  unfold TT
  rw [if_pos]
  simpa using this
theorem EE_ok (f : FuncId) (xs : List AV) (x : AV) (h : EE f xs = some x) : FOk Try.prog pf f xs x :=
  evAll_sound hand_none (fun k f xs x hk => evCall_sound size_ok (tabOf_ok _) follows_ok (fun _ _ => []) (fun f fn c hT => by
    unfold TT at hT
    split at hT
    · cases hT
    · exact fitT_ok f fn c hT) hand_ok k f xs x hk) f xs x h
theorem EE_hand {f : FuncId} {xs : List AV} {r : AV} (h : hand f xs = some r) : EE f xs = some r := evAll_hand hand_none h
/-- A function's code. -/
def bodyOf (fn : Func) : Code := match fn.body with | some c => c | none => .skip
/-- The body of loop number i of a function. -/
def bodyL (fn : Func) (i : Nat) : Code := (loops (strip (bodyOf fn))).getD i .skip
/-- How many rounds a loop may take. -/
def MX : Nat := 2 ^ 64
theorem EE_plain {f : FuncId} {fn : Func} {args : List AV} {r : AV} (hT : TT f = some (fn, bodyOf fn)) (hp : pf f ≠ 2) (h1 : args.length ≤ fn.ntmps) (h2 : closedL args = true)
    (h : (evC II EE (withOpt (opt f) pf) MX (strip (bodyOf fn)) (St.init args)).bind (resK II fn.results.toList) = some r) : EE f args = some r :=
  evAll_plain hand_none hT hp (evF_eq h1 h2 (by rw [← evC_strip]; exact h))
/-- The same for loops of few rounds. -/
theorem EE_few (m : Nat) {f : FuncId} {fn : Func} {args : List AV} {r : AV} (hT : TT f = some (fn, bodyOf fn)) (hp : pf f ≠ 2) (h1 : args.length ≤ fn.ntmps) (h2 : closedL args = true)
    (h : (evC II EE (withOpt (opt f) pf) m (strip (bodyOf fn)) (St.init args)).bind (resK II fn.results.toList) = some r) : EE f args = some r :=
  evAll_plain hand_none hT hp (evF_eq h1 h2 (by rw [← evC_strip]; exact h))
theorem EE_lent {f : FuncId} {fn : Func} {args : List AV} {r : AV} (hT : TT f = some (fn, bodyOf fn)) (hp : pf f = 2) (h : evM II EE (withOpt (opt f) pf) MX fn (bodyOf fn) args = some r) : EE f args = some r :=
  evAll_lent hand_none hT hp h
theorem EE_lend {f : FuncId} {fn : Func} {T : Nat} {cs xs : List AV} {r : AV} (hT : TT f = some (fn, bodyOf fn)) (hp : pf f = 2) (hN : xs.length + 1 ≤ fn.ntmps) (hc : closedL cs = true) (hx : xs.all goes = true)
    (h : (evC II EE (withOpt (opt f) pf) MX (strip (bodyOf fn)) ⟨fun t => (.r 0 0 :: xs).getD t (.v undef), upd (fun _ => none) 0 (some (.ob T cs)), 1⟩).bind (outK II fn.results.toList (.r 0 0 :: xs)) = some r) : EE f (lent T cs :: xs) = some r :=
  EE_lent hT hp (by rw [evM_run hN hc hx, ← evC_strip]; exact h)
theorem I3 : II 3 = some ⟨.int .i64, 1, 8, [.int .i64 0]⟩ := by kernel_rfl
theorem I4 : II 4 = some ⟨.bool, 1, 1, [.bool false]⟩ := by kernel_rfl
theorem I5 : II 5 = some ⟨.int .u8, 1, 1, [.int .u8 0]⟩ := by kernel_rfl
theorem I9 : II 9 = some ⟨.str, 1, 16, [.string { data := #[] }]⟩ := by kernel_rfl
theorem I24 : II 24 = some ⟨.sl 25, 1, 24, [.slice none 0 0]⟩ := by kernel_rfl
theorem I25 : II 25 = some ⟨.sl 3, 1, 24, [.slice none 0 0]⟩ := by kernel_rfl
theorem I27 : II 27 = some ⟨.st [(0, 24), (1, 25)], 2, 48, [.slice none 0 0, .slice none 0 0]⟩ := by kernel_rfl
theorem I29 : II 29 = some ⟨.st [(0, 3), (1, 27)], 3, 56, [.int .i64 0, .slice none 0 0, .slice none 0 0]⟩ := by kernel_rfl
theorem I32 : II 32 = some ⟨.st [(0, 24), (1, 25)], 2, 48, [.slice none 0 0, .slice none 0 0]⟩ := by kernel_rfl
theorem I34 : II 34 = some ⟨.st [(0, 3), (1, 32)], 3, 56, [.int .i64 0, .slice none 0 0, .slice none 0 0]⟩ := by kernel_rfl
theorem I40 : II 40 = some ⟨.sl 9, 1, 24, [.slice none 0 0]⟩ := by kernel_rfl
theorem I47 : II 47 = some ⟨.sl 49, 1, 24, [.slice none 0 0]⟩ := by kernel_rfl
theorem I49 : II 49 = some ⟨.st [(0, 5), (1, 5), (2, 47)], 3, 32, [.int .u8 0, .int .u8 0, .slice none 0 0]⟩ := by kernel_rfl
theorem I53 : II 53 = some ⟨.ptr 73, 1, 8, [.pointer none]⟩ := by kernel_rfl
theorem I64 : II 64 = some ⟨.ptr 66, 1, 8, [.pointer none]⟩ := by kernel_rfl
theorem I66 : II 66 = some ⟨.st [(0, 9), (1, 3), (2, 4)], 3, 32, [.string { data := #[] }, .int .i64 0, .bool false]⟩ := by kernel_rfl
theorem I71 : II 71 = some ⟨.sl 53, 1, 24, [.slice none 0 0]⟩ := by kernel_rfl
theorem I73 : II 73 = some ⟨.st [(0, 9), (1, 9), (2, 71)], 3, 56, [.string { data := #[] }, .string { data := #[] }, .slice none 0 0]⟩ := by kernel_rfl
theorem I80 : II 80 = some ⟨.sl 5, 1, 24, [.slice none 0 0]⟩ := by kernel_rfl
theorem I86 : II 86 = some ⟨.int .u32, 1, 4, [.int .u32 0]⟩ := by kernel_rfl
theorem pf0 : pf 0 = 0 := rfl
theorem pf1 : pf 1 = 0 := rfl
theorem pf2 : pf 2 = 0 := rfl
theorem pf3 : pf 3 = 0 := rfl
theorem pf4 : pf 4 = 0 := rfl
theorem pf5 : pf 5 = 0 := rfl
theorem pf6 : pf 6 = 0 := rfl
theorem pf7 : pf 7 = 0 := rfl
theorem pf8 : pf 8 = 0 := rfl
theorem pf9 : pf 9 = 0 := rfl
theorem pf10 : pf 10 = 0 := rfl
theorem pf11 : pf 11 = 0 := rfl
theorem pf12 : pf 12 = 0 := rfl
theorem pf13 : pf 13 = 0 := rfl
theorem pf14 : pf 14 = 0 := rfl
theorem pf15 : pf 15 = 0 := rfl
theorem pf16 : pf 16 = 1 := rfl
theorem pf17 : pf 17 = 0 := rfl
theorem pf18 : pf 18 = 0 := rfl
theorem pf19 : pf 19 = 0 := rfl
theorem pf20 : pf 20 = 0 := rfl
theorem pf21 : pf 21 = 0 := rfl
theorem pf22 : pf 22 = 0 := rfl
theorem pf23 : pf 23 = 0 := rfl
theorem pf24 : pf 24 = 0 := rfl
theorem pf25 : pf 25 = 0 := rfl
theorem pf26 : pf 26 = 0 := rfl
theorem pf27 : pf 27 = 0 := rfl
theorem pf28 : pf 28 = 0 := rfl
theorem pf29 : pf 29 = 0 := rfl
theorem pf30 : pf 30 = 0 := rfl
theorem pf31 : pf 31 = 0 := rfl
theorem pf32 : pf 32 = 0 := rfl
theorem pf33 : pf 33 = 2 := rfl
theorem pf34 : pf 34 = 0 := rfl
theorem pf35 : pf 35 = 0 := rfl
theorem pf36 : pf 36 = 1 := rfl
theorem pf37 : pf 37 = 1 := rfl
theorem pf38 : pf 38 = 0 := rfl
theorem pf39 : pf 39 = 0 := rfl
theorem pf40 : pf 40 = 2 := rfl
theorem pf41 : pf 41 = 1 := rfl
theorem pf42 : pf 42 = 2 := rfl
theorem pf43 : pf 43 = 2 := rfl
theorem pf44 : pf 44 = 1 := rfl
theorem pf45 : pf 45 = 1 := rfl
theorem pf46 : pf 46 = 1 := rfl
theorem pf47 : pf 47 = 0 := rfl
theorem pf48 : pf 48 = 0 := rfl
theorem pf49 : pf 49 = 0 := rfl
theorem pf50 : pf 50 = 0 := rfl
theorem pf51 : pf 51 = 0 := rfl
theorem pf52 : pf 52 = 0 := rfl
theorem pf53 : pf 53 = 0 := rfl
theorem pf54 : pf 54 = 0 := rfl
theorem pf55 : pf 55 = 0 := rfl
theorem pf56 : pf 56 = 0 := rfl
theorem pf57 : pf 57 = 0 := rfl
theorem pf58 : pf 58 = 0 := rfl
theorem pf59 : pf 59 = 0 := rfl
theorem pf60 : pf 60 = 0 := rfl
theorem pf61 : pf 61 = 0 := rfl
theorem pf62 : pf 62 = 0 := rfl
theorem pf63 : pf 63 = 0 := rfl
theorem pf64 : pf 64 = 0 := rfl
theorem pf65 : pf 65 = 0 := rfl
theorem pf66 : pf 66 = 0 := rfl
theorem pf67 : pf 67 = 0 := rfl
theorem pf68 : pf 68 = 0 := rfl
theorem pf69 : pf 69 = 0 := rfl
theorem pf70 : pf 70 = 0 := rfl
theorem pf71 : pf 71 = 0 := rfl
theorem pf72 : pf 72 = 0 := rfl
theorem pf73 : pf 73 = 0 := rfl
theorem pf74 : pf 74 = 0 := rfl
theorem pf75 : pf 75 = 0 := rfl
theorem IA : (((((type_of% @I3) ∧ (type_of% @I4)) ∧ ((type_of% @I5) ∧ ((type_of% @I9) ∧ (type_of% @I24)))) ∧ (((type_of% @I25) ∧ (type_of% @I27)) ∧ ((type_of% @I29) ∧ ((type_of% @I32) ∧ (type_of% @I34))))) ∧ ((((type_of% @I40) ∧ (type_of% @I47)) ∧ ((type_of% @I49) ∧ ((type_of% @I53) ∧ (type_of% @I64)))) ∧ (((type_of% @I66) ∧ (type_of% @I71)) ∧ ((type_of% @I73) ∧ ((type_of% @I80) ∧ (type_of% @I86)))))) := ⟨⟨⟨⟨@I3, @I4⟩, ⟨@I5, ⟨@I9, @I24⟩⟩⟩, ⟨⟨@I25, @I27⟩, ⟨@I29, ⟨@I32, @I34⟩⟩⟩⟩, ⟨⟨⟨@I40, @I47⟩, ⟨@I49, ⟨@I53, @I64⟩⟩⟩, ⟨⟨@I66, @I71⟩, ⟨@I73, ⟨@I80, @I86⟩⟩⟩⟩⟩
theorem PA : (((((((type_of% @pf0) ∧ (type_of% @pf1)) ∧ ((type_of% @pf2) ∧ (type_of% @pf3))) ∧ (((type_of% @pf4) ∧ (type_of% @pf5)) ∧ ((type_of% @pf6) ∧ ((type_of% @pf7) ∧ (type_of% @pf8))))) ∧ ((((type_of% @pf9) ∧ (type_of% @pf10)) ∧ ((type_of% @pf11) ∧ ((type_of% @pf12) ∧ (type_of% @pf13)))) ∧ (((type_of% @pf14) ∧ (type_of% @pf15)) ∧ ((type_of% @pf16) ∧ ((type_of% @pf17) ∧ (type_of% @pf18)))))) ∧ (((((type_of% @pf19) ∧ (type_of% @pf20)) ∧ ((type_of% @pf21) ∧ (type_of% @pf22))) ∧ (((type_of% @pf23) ∧ (type_of% @pf24)) ∧ ((type_of% @pf25) ∧ ((type_of% @pf26) ∧ (type_of% @pf27))))) ∧ ((((type_of% @pf28) ∧ (type_of% @pf29)) ∧ ((type_of% @pf30) ∧ ((type_of% @pf31) ∧ (type_of% @pf32)))) ∧ (((type_of% @pf33) ∧ (type_of% @pf34)) ∧ ((type_of% @pf35) ∧ ((type_of% @pf36) ∧ (type_of% @pf37))))))) ∧ ((((((type_of% @pf38) ∧ (type_of% @pf39)) ∧ ((type_of% @pf40) ∧ (type_of% @pf41))) ∧ (((type_of% @pf42) ∧ (type_of% @pf43)) ∧ ((type_of% @pf44) ∧ ((type_of% @pf45) ∧ (type_of% @pf46))))) ∧ ((((type_of% @pf47) ∧ (type_of% @pf48)) ∧ ((type_of% @pf49) ∧ ((type_of% @pf50) ∧ (type_of% @pf51)))) ∧ (((type_of% @pf52) ∧ (type_of% @pf53)) ∧ ((type_of% @pf54) ∧ ((type_of% @pf55) ∧ (type_of% @pf56)))))) ∧ (((((type_of% @pf57) ∧ (type_of% @pf58)) ∧ ((type_of% @pf59) ∧ (type_of% @pf60))) ∧ (((type_of% @pf61) ∧ (type_of% @pf62)) ∧ ((type_of% @pf63) ∧ ((type_of% @pf64) ∧ (type_of% @pf65))))) ∧ ((((type_of% @pf66) ∧ (type_of% @pf67)) ∧ ((type_of% @pf68) ∧ ((type_of% @pf69) ∧ (type_of% @pf70)))) ∧ (((type_of% @pf71) ∧ (type_of% @pf72)) ∧ ((type_of% @pf73) ∧ ((type_of% @pf74) ∧ (type_of% @pf75)))))))) := ⟨⟨⟨⟨⟨⟨@pf0, @pf1⟩, ⟨@pf2, @pf3⟩⟩, ⟨⟨@pf4, @pf5⟩, ⟨@pf6, ⟨@pf7, @pf8⟩⟩⟩⟩, ⟨⟨⟨@pf9, @pf10⟩, ⟨@pf11, ⟨@pf12, @pf13⟩⟩⟩, ⟨⟨@pf14, @pf15⟩, ⟨@pf16, ⟨@pf17, @pf18⟩⟩⟩⟩⟩, ⟨⟨⟨⟨@pf19, @pf20⟩, ⟨@pf21, @pf22⟩⟩, ⟨⟨@pf23, @pf24⟩, ⟨@pf25, ⟨@pf26, @pf27⟩⟩⟩⟩, ⟨⟨⟨@pf28, @pf29⟩, ⟨@pf30, ⟨@pf31, @pf32⟩⟩⟩, ⟨⟨@pf33, @pf34⟩, ⟨@pf35, ⟨@pf36, @pf37⟩⟩⟩⟩⟩⟩, ⟨⟨⟨⟨⟨@pf38, @pf39⟩, ⟨@pf40, @pf41⟩⟩, ⟨⟨@pf42, @pf43⟩, ⟨@pf44, ⟨@pf45, @pf46⟩⟩⟩⟩, ⟨⟨⟨@pf47, @pf48⟩, ⟨@pf49, ⟨@pf50, @pf51⟩⟩⟩, ⟨⟨@pf52, @pf53⟩, ⟨@pf54, ⟨@pf55, @pf56⟩⟩⟩⟩⟩, ⟨⟨⟨⟨@pf57, @pf58⟩, ⟨@pf59, @pf60⟩⟩, ⟨⟨@pf61, @pf62⟩, ⟨@pf63, ⟨@pf64, @pf65⟩⟩⟩⟩, ⟨⟨⟨@pf66, @pf67⟩, ⟨@pf68, ⟨@pf69, @pf70⟩⟩⟩, ⟨⟨@pf71, @pf72⟩, ⟨@pf73, ⟨@pf74, @pf75⟩⟩⟩⟩⟩⟩⟩
end Go.Proofs.Ytibjofpgbcbloaa.Ev
