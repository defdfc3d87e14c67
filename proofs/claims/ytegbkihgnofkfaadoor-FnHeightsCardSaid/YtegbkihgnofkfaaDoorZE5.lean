/-
Texts Ev35 to Ev36 of the work.
-/
import Derived.Test.YtegbkihgnofkfaaDoorZE4
import Derived.OpenShut
import Derived.Laws.World
/-
The engine, part 35: rows that are lent whole.
-/
namespace Go.Proofs.YtegbkihgnofkfaaDoor.Ev
section
set_option linter.unusedVariables false
set_option linter.unusedSimpArgs false
open Go Go.RowKit
set_option linter.unusedVariables false
set_option linter.unusedSimpArgs false
section
variable {I : Tab} {C : Sem1} {pf : FuncId → Nat} {m : Nat} {e : Nat → AV} {σ : Sto} {key : Nat}
theorem evM_row {fn : Func} {c : Code} {n E sz : Nat} {cs xs : List AV} (hN : xs.length + 1 ≤ fn.ntmps) (hx : xs.all goes = true) :
    evM I C pf m fn c (lentR n E sz cs :: xs) = (evC I C pf m c ⟨fun t => (.w 0 0 n :: xs).getD t (.v undef), upd (fun _ => none) 0 (some (.row E sz n cs)), 1⟩).bind (outK I fn.results.toList (.w 0 0 n :: xs)) := by
  unfold evM
  simp only [lentR, ni, inits, inits_goes hx, Int.toNat_natCast]
  rw [if_pos ⟨by simpa using hN, by simp⟩]
  congr 1
  funext ⟨x, s⟩
  cases x <;> rfl
theorem packO_row {n E sz : Nat} {cs xs : List AV} (hσ : σ 0 = some (.row E sz n cs)) (hc : closedL cs = true) (hx : xs.all goes = true) : deepC (packO σ) (.w 0 0 n :: xs) = some (lentR n E sz cs :: xs, [0]) := by
  simp only [deepC, packO, pack1, hσ, deepL_closed 8 hc, Option.map_some, Option.bind_some, if_true, packOL_goes hx, List.append_nil]
theorem out_row_one {rs : List ResultVar} {xs : List AV} {s : St} {x : AV} {n E sz : Nat} {cs : List AV} (h1 : evRes I s rs = some [x]) (h2 : goes x = true) (hσ : s.σ 0 = some (.row E sz n cs)) (hc : closedL cs = true) (hx : xs.all goes = true) :
    outK I rs (.w 0 0 n :: xs) (.ret, s) = some (.t [x, .t (lentR n E sz cs :: xs)]) := by
  have h3 : giveL s.σ [x] = some ([x], [], []) := giveL_closed (by simp only [closedL, goes_closed h2, Bool.and_self])
  simp only [outK, h1, Option.bind_some, h3, packO_row hσ hc hx]
  rw [if_pos ⟨by simp, by simp⟩]
  cases x
  case t => simp [goes] at h2
  all_goals rfl
/-- A call that is lent a row. -/
theorem call_row_v {f : FuncId} {id n E sz : Nat} {cs cs' xs : List AV} {x : Value} (hp : pf f = 2) (hσ : σ id = some (.row E sz n cs)) (hc : closedL cs = true) (hx : xs.all goes = true) (hr : C f (lentR n E sz cs :: xs) = some (.t [.v x, .t (lentR n E sz cs' :: xs)])) :
    callOp C pf σ key f (.w id 0 n :: xs) = some (.v x, upd σ id (some (.row E sz n cs'))) := by
  rw [call2_eq hp]
  have h1 : needs σ (.w id 0 n :: xs) = [] := by
    simp only [needs, need, hσ, deepL_closed 8 hc, needs_goes hx, List.append_nil]
  have h2 : deepC (pack1 σ) (.w id 0 n :: xs) = some (lentR n E sz cs :: xs, [id]) := by
    simp only [deepC, pack1, hσ, deepL_closed 8 hc, Option.map_some, Option.bind_some, if_true, packL_goes hx, List.append_nil]
  rw [h1]
  simp only [frz0, h2, Option.bind_some, lend1]
  rw [if_pos (by simp), hr]
  have h3 : upd (killL σ [id]) id (some (.row E sz n cs')) = upd σ id (some (.row E sz n cs')) := by
    funext i
    unfold upd killL
    by_cases e : i = id <;> simp [e]
  simp only [Option.bind_some, lend2, h1, frz0, back, lentR, h3, back_goes hx]
  rw [if_pos (by simp [room])]
  rfl
/-- A call that is given two rows and gives a plain value. -/
theorem call0_ww {f : FuncId} {i j n k E sz E' sz' : Nat} {cs ds ys : List AV} {r : Value} (hi : σ i = some (.row E sz n cs)) (hj : σ j = some (.row E' sz' k ds)) (hp : pf f = 0) (hl : cs.length = n * sz) (hl' : ds.length = k * sz') (hc : closedL cs = true) (hd : closedL ds = true) (hy : closedL ys = true) (hr : C f (.s false n cs :: .s false k ds :: ys) = some (.v r)) :
    callOp C pf σ key f (.w i 0 n :: .w j 0 k :: ys) = some (.v r, σ) := by
  unfold callOp
  rw [if_neg (by omega), if_neg (by omega), if_neg (by omega)]
  have h1 : deep σ 8 (.w i 0 n) = some (.s false n cs, [i]) := by
    rw [deep_w 7 hi (by omega) hc, List.drop_zero, List.take_of_length_le (by omega)]
  have h1' : deep σ 8 (.w j 0 k) = some (.s false k ds, [j]) := by
    rw [deep_w 7 hj (by omega) hd, List.drop_zero, List.take_of_length_le (by omega)]
  have h2 : deepC (deep σ 8) (.w i 0 n :: .w j 0 k :: ys) = some (.s false n cs :: .s false k ds :: ys, [i] ++ [j]) := by
    simp only [deepC, h1, h1', Option.bind_some, deepL_closed 8 hy, Option.map_some, List.append_nil]
  rw [h2]
  simp only [Option.bind_some, hr, flat, flat1, or_true, if_true]
  rfl
end
theorem EE_lendR {f : FuncId} {fn : Func} {n E sz : Nat} {cs xs : List AV} {r : AV} (hT : TT f = some (fn, bodyOf fn)) (hp : pf f = 2) (hN : xs.length + 1 ≤ fn.ntmps) (hx : xs.all goes = true)
    (h : (evC II EE (withOpt (opt f) pf) MX (strip (bodyOf fn)) ⟨fun t => (.w 0 0 n :: xs).getD t (.v undef), upd (fun _ => none) 0 (some (.row E sz n cs)), 1⟩).bind (outK II fn.results.toList (.w 0 0 n :: xs)) = some r) : EE f (lentR n E sz cs :: xs) = some r :=
  EE_lent hT hp (by rw [evM_row hN hx, ← evC_strip]; exact h)
/-- Marks from k on. -/
def markL : Int → Nat → List Int
  | _, 0 => []
  | k, n + 1 => k :: markL (k + 1) n
theorem markL_len : ∀ (n : Nat) (k : Int), (markL k n).length = n
  | 0, k => rfl
  | n + 1, k => by simp [markL, markL_len n]
theorem markL_snoc : ∀ (n : Nat) (k : Int), markL k (n + 1) = markL k n ++ [k + n]
  | 0, k => by simp [markL]
  | n + 1, k => by
    rw [markL, markL_snoc n (k + 1)]
    simp only [markL, List.cons_append]
    congr 3
    omega
theorem markL_drop : ∀ (i n : Nat) (k : Int), i < n → (markL k n).drop i = (k + i) :: (markL k n).drop (i + 1)
  | 0, n + 1, k, h => by simp [markL]
  | i + 1, n + 1, k, h => by
    simp only [markL, List.drop_succ_cons]
    rw [markL_drop i n (k + 1) (by omega)]
    congr 1
    omega
end
end Go.Proofs.YtegbkihgnofkfaaDoor.Ev

/-
The engine, part 36: slices of bytes as arguments of a law.
-/
namespace Go.Proofs.YtegbkihgnofkfaaDoor.Ev
section
set_option linter.unusedVariables false
set_option linter.unusedSimpArgs false
open Go Go.RowKit
/-- A row of bytes as it stands in memory. -/
def IsBytes (w : World) (a : Option Addr) (len cap : Nat) (zs : List Int) : Prop :=
  (a = none ∧ len = 0 ∧ cap = 0 ∧ zs = []) ∨
  ∃ x, a = some x ∧ len ≤ cap ∧ zs.length = cap ∧ (∀ i, i < zs.length → w.cell? (x.add i) = some (.int .u8 (zs.getD i 0))) ∧ ∀ n ∈ zs, (Lit.int .u8 n).wf = true
/-- Bytes told. -/
def bytesV (l : List UInt8) : AV := .s false l.length (l.map fun c => U c)
theorem rep_bytes {w : World} {a : Option Addr} {len cap : Nat} {zs : List Int} (h : IsBytes w a len cap zs) : ∃ l : List UInt8, Rep w (gV fun b => b < w.heap.size) (bytesV l) (.slice a len cap) := by
  rcases h with ⟨rfl, rfl, rfl, rfl⟩ | ⟨x, rfl, hle, hl, hc, hw⟩
  · exact ⟨[], .s _ _ _ _ _ (fun _ => undef) (Nat.le_refl _) (fun h => by cases h) (fun j x h => by simp at h) (fun j x h => by simp at h)⟩
  · refine ⟨(zs.take len).map fun z => UInt8.ofNat z.toNat, ?_⟩
    have hlen : ((zs.take len).map fun z => UInt8.ofNat z.toNat).length = len := by
      rw [List.length_map, List.length_take]
      omega
    unfold bytesV
    rw [hlen]
    have hcell : ∀ (j : Nat) (c : AV), (((zs.take len).map fun z => UInt8.ofNat z.toNat).map fun c => U c)[j]? = some c → j < zs.length ∧ c = .v (.int .u8 (zs.getD j 0)) := by
      intro j c hj
      simp only [List.getElem?_map, List.getElem?_take] at hj
      split at hj
      · rename_i hlt
        have hjl : j < zs.length := by omega
        rw [List.getElem?_eq_getElem hjl] at hj
        simp only [Option.map_some, Option.some.injEq] at hj
        refine ⟨hjl, ?_⟩
        obtain ⟨b1, b2⟩ := bounds_u8 (hw _ (List.getElem_mem hjl))
        have ht : (UInt8.ofNat (zs[j]).toNat).toNat = (zs[j]).toNat := by
          rw [UInt8.toNat_ofNat', Nat.mod_eq_of_lt (by omega)]
        rw [← hj]
        show AV.v (.int .u8 ((UInt8.ofNat (zs[j]).toNat).toNat : Int)) = _
        rw [ht, Int.toNat_of_nonneg b1]
        simp [List.getD_eq_getElem?_getD, List.getElem?_eq_getElem hjl]
      · simp at hj
    refine .s _ _ _ _ _ (fun j => .int .u8 (zs.getD j 0)) hle (fun h => by cases h) (fun j c hj => ?_) (fun j c hj => ?_)
    · obtain ⟨h1, _⟩ := hcell j c hj
      have hz := hc j h1
      refine ⟨x, rfl, ?_, hz⟩
      have := World.block_lt_of_cell? _ _ hz
      rw [add_block] at this
      exact this
    · obtain ⟨_, rfl⟩ := hcell j c hj
      exact .v _
theorem calls_true_1 {P : Program} {f : FuncId} {w : World} {a : Option Addr} {len cap : Nat} {zs : List Int} (h : IsBytes w a len cap zs) (hp : ∀ l, PureOk P f [bytesV l] (B true)) :
    Calls P f #[.slice a len cap] w fun e w' => e = .returned (.bool true) ∧ Below w.heap.size w w' := by
  obtain ⟨l, hl⟩ := rep_bytes h
  refine calls_true (us := [.slice a len cap]) (hp l) w (fun b => b < w.heap.size) (fun b hb => hb) rfl ?_
  intro j y u hj hu
  match j with
  | 0 =>
    cases hj
    cases hu
    exact hl
  | j + 1 => simp at hj
theorem calls_true_2 {P : Program} {f : FuncId} {w : World} {a a' : Option Addr} {len cap len' cap' : Nat} {zs zs' : List Int} (h : IsBytes w a len cap zs) (h' : IsBytes w a' len' cap' zs') (hp : ∀ l l', PureOk P f [bytesV l, bytesV l'] (B true)) :
    Calls P f #[.slice a len cap, .slice a' len' cap'] w fun e w' => e = .returned (.bool true) ∧ Below w.heap.size w w' := by
  obtain ⟨l, hl⟩ := rep_bytes h
  obtain ⟨l', hl'⟩ := rep_bytes h'
  refine calls_true (us := [.slice a len cap, .slice a' len' cap']) (hp l l') w (fun b => b < w.heap.size) (fun b hb => hb) rfl ?_
  intro j y u hj hu
  match j with
  | 0 =>
    cases hj
    cases hu
    exact hl
  | 1 =>
    cases hj
    cases hu
    exact hl'
  | j + 2 => simp at hj
end
end Go.Proofs.YtegbkihgnofkfaaDoor.Ev
