/-
Texts Ev30 to Ev36 of the work.
-/
import Derived.Test.YtegbkihgnofkfaaGreatDoorZE3
import Derived.Test.YtegbkihgnofkfaaGreatDoorProg
import Derived.Shelf.RegionOpenPlain
import Derived.WalkKit
import Derived.KernelRfl
import Derived.Lib.Walk
import Derived.Deep.LoopGhost
import Derived.Lib.SliceRun
import Derived.Laws.AppendOwn
import Derived.Test.YtegbkihgnofkfaaGreatDoorShelfB
import Derived.Lib.OwnBridge
import Derived.Test.YtegbkihgnofkfaaGreatDoorShelf
import Derived.Lib.Join
import Derived.OpenShut
import Derived.Laws.World
/-
The engine, part 30: the rules as one list.
-/
namespace Go.Proofs.YtegbkihgnofkfaaGreatDoor.Ev
section
set_option linter.unusedVariables false
set_option linter.unusedSimpArgs false
open Go Go.RowKit
set_option linter.unusedVariables false
set_option linter.unusedSimpArgs false
section
variable {I : Tab} {C : Sem1} {pf : FuncId → Nat} {m : Nat} {e : Nat → AV} {σ : Sto} {key : Nat}
theorem normK_eq (s : St) : normK s = (.normal, s) := rfl
theorem init_eq (args : List AV) : St.init args = ⟨fun t => args.getD t (.v undef), fun _ => none, 0⟩ := rfl
theorem takeVal_eq (i : TI) (cs : List AV) : takeVal i cs = if i.agg = true then (if i.sz ≤ cs.length then some (.a (cs.take i.sz)) else none) else cs.head? := rfl
theorem agg_str (a b : Nat) (z : List Value) : TI.agg ⟨.str, a, b, z⟩ = false := rfl
theorem agg_bool (a b : Nat) (z : List Value) : TI.agg ⟨.bool, a, b, z⟩ = false := rfl
theorem agg_int (k : IntKind) (a b : Nat) (z : List Value) : TI.agg ⟨.int k, a, b, z⟩ = false := rfl
theorem agg_ptr (q a b : Nat) (z : List Value) : TI.agg ⟨.ptr q, a, b, z⟩ = false := rfl
theorem agg_sl (q a b : Nat) (z : List Value) : TI.agg ⟨.sl q, a, b, z⟩ = false := rfl
theorem agg_arr (n q a b : Nat) (z : List Value) : TI.agg ⟨.arr n q, a, b, z⟩ = true := rfl
theorem agg_st (fs : List (Nat × Nat)) (a b : Nat) (z : List Value) : TI.agg ⟨.st fs, a, b, z⟩ = true := rfl
theorem obK_eq (id T : Nat) (cs1 : List AV) : obK σ id T cs1 = (.v undef, upd σ id (some (.ob T cs1))) := rfl
theorem rowK_eq (id E sz n : Nat) (cs1 : List AV) : rowK σ id E sz n cs1 = (.v undef, upd σ id (some (.row E sz n cs1))) := rfl
theorem setRange_eq (cs : List AV) (o : Nat) (ls : List AV) : setRange cs o ls = if o + ls.length ≤ cs.length then some (cs.take o ++ ls ++ cs.drop (o + ls.length)) else none := rfl
theorem aggK_eq (cs : List AV) : aggK σ cs = (.a cs, σ) := rfl
theorem pairK_eq (x : AV) : pairK σ x = (x, σ) := rfl
theorem val_tmp (t : Nat) : val e (.tmp t) = e t := rfl
theorem val_const (x : Value) : val e (.const x) = ofC x := rfl
theorem val_func (f : FuncId) : val e (.func f) = .v (.func (.func f) #[] #[]) := rfl
theorem val_global (g : Nat) : val e (.global g) = .v (.pointer (some ⟨g, 0, none⟩)) := rfl
theorem ofC_int (k : IntKind) (n : Int) : ofC (.int k n) = .v (.int k n) := rfl
theorem ofC_str (s : ByteArray) : ofC (.string s) = .v (.string s) := rfl
theorem ofC_bool (b : Bool) : ofC (.bool b) = .v (.bool b) := rfl
theorem ofC_ptr (a : Option Addr) : ofC (.pointer a) = .v (.pointer a) := rfl
theorem ofC_nil : ofC (.slice none 0 0) = .s true 0 [] := rfl
theorem ofC_agg (vs : Array Value) : ofC (.agg vs) = .a (vs.toList.map ofC0) := rfl
theorem range_eq (n : Nat) : List.range n = List.range.loop n [] := rfl
theorem loop_zero (l : List Nat) : List.range.loop 0 l = l := rfl
theorem loop_succ (n : Nat) (l : List Nat) : List.range.loop (n + 1) l = List.range.loop n (n :: l) := rfl
theorem wanted_none (ops : Array Oper) (d : Option Nat) (op : Op) (ty : TypeId) (ps : String) (af : Array Edge) : wantedE ops e ⟨d, op, ty, ps, af, none⟩ = some true := rfl
def wK (want : Bool) : Option AV → Option Bool
  | some (.v (.bool b)) => some (b == want)
  | some (.v (.tuple _)) => some false
  | _ => none
theorem wK_undef (want : Bool) : wK want (some (.v undef)) = some false := rfl
theorem wanted_some (ops : Array Oper) (d : Option Nat) (op : Op) (ty : TypeId) (ps : String) (af : Array Edge) (j : Nat) (want : Bool) : wantedE ops e ⟨d, op, ty, ps, af, some (j, want)⟩ = wK want (((ops[j]?).bind fun o => o.dst).map e) := by
  simp only [wantedE, wK]
  split <;> simp_all
theorem wK_bool (want b : Bool) : wK want (some (.v (.bool b))) = some (b == want) := rfl
theorem closedL_nil : closedL [] = true := rfl
theorem closedL_cons (x : AV) (xs : List AV) : closedL (x :: xs) = (closed x && closedL xs) := rfl
theorem closed_v (x : Value) : closed (.v x) = true := rfl
theorem closed_p (cs : List AV) : closed (.p cs) = closedL cs := rfl
theorem closed_s (ex : Bool) (n : Nat) (cs : List AV) : closed (.s ex n cs) = closedL cs := rfl
theorem closed_a (cs : List AV) : closed (.a cs) = closedL cs := rfl
theorem closed_t (cs : List AV) : closed (.t cs) = closedL cs := rfl
theorem cells_ob (T : Nat) (cs : List AV) : Slot.cells (.ob T cs) = cs := rfl
theorem cells_row (E sz n : Nat) (cs : List AV) : Slot.cells (.row E sz n cs) = cs := rfl
theorem cells_fz (cs : List AV) : Slot.cells (.fz cs) = cs := rfl
def b1K (σ : Sto) (a : Nat) : Option (List AV) → Option (AV × Sto)
  | some ls => if ls.length = a ∧ a ≤ 16777216 then some (.s true 1 ls, σ) else none
  | none => none
def b2K (σ : Sto) (a : Nat) : Option (List AV) → Option (List AV) → Option (AV × Sto)
  | some ls, some ms => if ls.length = a ∧ ms.length = a ∧ a ≤ 8388608 then some (.s true 2 (ls ++ ms), σ) else none
  | _, _ => none
theorem b2K_some (a : Nat) (ls ms : List AV) : b2K σ a (some ls) (some ms) = if ls.length = a ∧ ms.length = a ∧ a ≤ 8388608 then some (.s true 2 (ls ++ ms), σ) else none := rfl
/-- A slice of one or two values. -/
theorem bsK_one1 (k : TK) (a b : Nat) (z : List Value) (x : AV) : bsK σ 1 [(0, x)] (some ⟨k, a, b, z⟩) = b1K σ a (leaves x) := by
  cases h : leaves x with
  | none => simp [b1K, bsK_some, fillP_cons, h, fillK, plK]
  | some ls =>
    show _ = if ls.length = a ∧ a ≤ 16777216 then some (AV.s true 1 ls, σ) else none
    by_cases h2 : ls.length = a ∧ a ≤ 16777216
    · rw [bsK_one _ _ h h2.1 h2.2, if_pos h2]
    · rw [if_neg h2, bsK_some]
      simp only [Nat.one_mul]
      split
      · rw [fillP_cons, h, plK_eq, fillK_some, if_neg (fun e => h2 ⟨e, by assumption⟩)]
        rfl
      · rfl
theorem b1K_some (a : Nat) (ls : List AV) : b1K σ a (some ls) = if ls.length = a ∧ a ≤ 16777216 then some (.s true 1 ls, σ) else none := rfl
theorem bsK_two1 (k : TK) (a b : Nat) (z : List Value) (x y : AV) : bsK σ 2 [(0, x), (1, y)] (some ⟨k, a, b, z⟩) = if a ≤ 8388608 then b2K σ a (leaves x) (leaves y) else bsK σ 2 [(0, x), (1, y)] (some ⟨k, a, b, z⟩) := by
  split
  · rename_i h5
    cases h1 : leaves x with
    | none =>
      simp only [b2K, bsK_some, fillP_cons, h1, plK_eq, fillK]
      split <;> rfl
    | some ls =>
      cases h2 : leaves y with
      | none =>
        simp only [b2K, bsK_some]
        split
        · rw [fillP_cons, h1, plK_eq, fillK_some]
          split
          · cases setRange (zrow (2 * a) a (zeros ⟨k, a, b, z⟩)) (0 * a) ls with
            | none => rfl
            | some q =>
              simp only [Option.bind_some]
              rw [fillP_cons, h2, plK_eq]
              rfl
          · rfl
        · rfl
      | some ms =>
        by_cases h : ls.length = a ∧ ms.length = a
        · rw [bsK_two _ _ _ h1 h.1 h2 h.2 h5, b2K_some, if_pos ⟨h.1, h.2, h5⟩]
        · rw [b2K_some, if_neg (fun q => h ⟨q.1, q.2.1⟩), bsK_some]
          split
          · rw [fillP_cons, h1, plK_eq, fillK_some]
            split
            · rename_i hl
              cases setRange (zrow (2 * a) a (zeros ⟨k, a, b, z⟩)) (0 * a) ls with
              | none => rfl
              | some q =>
                simp only [Option.bind_some]
                rw [fillP_cons, h2, plK_eq, fillK_some, if_neg (fun q => h ⟨hl, q⟩)]
                rfl
            · rfl
          · rfl
  · rfl
theorem bsK_two2 (k : TK) (a b : Nat) (z : List Value) (x y : AV) (h : a ≤ 8388608) : bsK σ 2 [(0, x), (1, y)] (some ⟨k, a, b, z⟩) = b2K σ a (leaves x) (leaves y) := by
  rw [bsK_two1, if_pos h]
end

theorem RA0 : (((((type_of% @evC_seq) ∧ ((type_of% @evC_block) ∧ (type_of% @evC_cond))) ∧ (((type_of% @evC_region) ∧ (type_of% @evC_exit)) ∧ ((type_of% @evC_ret) ∧ (type_of% @evC_skip)))) ∧ ((((type_of% @evC_label) ∧ (type_of% @evC_loop)) ∧ ((type_of% @seqK_normal) ∧ (type_of% @seqK_exit))) ∧ (((type_of% @seqK_ret) ∧ (type_of% @blockK_normal)) ∧ ((type_of% @blockK_exit) ∧ (type_of% @blockK_ret))))) ∧ ((((type_of% @condK_bool) ∧ ((type_of% @normK_eq) ∧ (type_of% @evL_nil))) ∧ (((type_of% @evL_cons) ∧ (type_of% @ev1_opK)) ∧ ((type_of% @opK_some) ∧ (type_of% @ev1K_true)))) ∧ ((((type_of% @ev1K_false) ∧ (type_of% @putK_some)) ∧ ((type_of% @putK_none) ∧ (type_of% @put_some))) ∧ (((type_of% @put_none) ∧ (type_of% @evOp_move)) ∧ ((type_of% @evOp_assign) ∧ (type_of% @evOp_pick)))))) := ⟨⟨⟨⟨@evC_seq, ⟨@evC_block, @evC_cond⟩⟩, ⟨⟨@evC_region, @evC_exit⟩, ⟨@evC_ret, @evC_skip⟩⟩⟩, ⟨⟨⟨@evC_label, @evC_loop⟩, ⟨@seqK_normal, @seqK_exit⟩⟩, ⟨⟨@seqK_ret, @blockK_normal⟩, ⟨@blockK_exit, @blockK_ret⟩⟩⟩⟩, ⟨⟨⟨@condK_bool, ⟨@normK_eq, @evL_nil⟩⟩, ⟨⟨@evL_cons, @ev1_opK⟩, ⟨@opK_some, @ev1K_true⟩⟩⟩, ⟨⟨⟨@ev1K_false, @putK_some⟩, ⟨@putK_none, @put_some⟩⟩, ⟨⟨@put_none, @evOp_move⟩, ⟨@evOp_assign, @evOp_pick⟩⟩⟩⟩⟩
theorem RA1 : (((((type_of% @pickK_bool) ∧ ((type_of% @evOp_binOp) ∧ (type_of% @binK_some))) ∧ (((type_of% @bin_str) ∧ (type_of% @bin_int)) ∧ ((type_of% @bin_bool) ∧ (type_of% @bin_nn)))) ∧ ((((type_of% @bin_pn) ∧ (type_of% @bin_rn)) ∧ ((type_of% @eqB_eql) ∧ (type_of% @eqB_neq))) ∧ (((type_of% @str_eql) ∧ (type_of% @str_neq)) ∧ ((type_of% @str_lss) ∧ (type_of% @str_leq))))) ∧ ((((type_of% @str_gtr) ∧ ((type_of% @str_geq) ∧ (type_of% @wrap64))) ∧ (((type_of% @wrap8) ∧ (type_of% @int_add)) ∧ ((type_of% @int_sub) ∧ (type_of% @int_mul)))) ∧ ((((type_of% @int_xor) ∧ (type_of% @int_quo)) ∧ ((type_of% @int_rem) ∧ (type_of% @int_eql))) ∧ (((type_of% @int_neq) ∧ (type_of% @int_lss)) ∧ ((type_of% @int_leq) ∧ (type_of% @int_gtr)))))) := ⟨⟨⟨⟨@pickK_bool, ⟨@evOp_binOp, @binK_some⟩⟩, ⟨⟨@bin_str, @bin_int⟩, ⟨@bin_bool, @bin_nn⟩⟩⟩, ⟨⟨⟨@bin_pn, @bin_rn⟩, ⟨@eqB_eql, @eqB_neq⟩⟩, ⟨⟨@str_eql, @str_neq⟩, ⟨@str_lss, @str_leq⟩⟩⟩⟩, ⟨⟨⟨@str_gtr, ⟨@str_geq, @wrap64⟩⟩, ⟨⟨@wrap8, @int_add⟩, ⟨@int_sub, @int_mul⟩⟩⟩, ⟨⟨⟨@int_xor, @int_quo⟩, ⟨@int_rem, @int_eql⟩⟩, ⟨⟨@int_neq, @int_lss⟩, ⟨@int_leq, @int_gtr⟩⟩⟩⟩⟩
theorem RA2 : (((((type_of% @int_geq) ∧ ((type_of% @evOp_unOp) ∧ (type_of% @unK_not))) ∧ (((type_of% @unK_neg) ∧ (type_of% @evOp_convert)) ∧ ((type_of% @convK_some) ∧ (type_of% @conv_int)))) ∧ ((((type_of% @conv_str) ∧ (type_of% @conv_bytes)) ∧ ((type_of% @bytesK_some) ∧ (type_of% @bytesOf_one))) ∧ (((type_of% @evOp_extract) ∧ (type_of% @extK_t)) ∧ ((type_of% @evOp_fa) ∧ (type_of% @faK_st))))) ∧ ((((type_of% @evOp_field) ∧ ((type_of% @fieldK_st) ∧ (type_of% @evOp_ld))) ∧ (((type_of% @ldK_some) ∧ (type_of% @tvK_eq)) ∧ ((type_of% @cells_r) ∧ (type_of% @cellsAt_p)))) ∧ ((((type_of% @takeVal_eq) ∧ (type_of% @agg_str)) ∧ ((type_of% @agg_bool) ∧ (type_of% @agg_int))) ∧ (((type_of% @agg_ptr) ∧ (type_of% @agg_sl)) ∧ ((type_of% @agg_arr) ∧ (type_of% @agg_st)))))) := ⟨⟨⟨⟨@int_geq, ⟨@evOp_unOp, @unK_not⟩⟩, ⟨⟨@unK_neg, @evOp_convert⟩, ⟨@convK_some, @conv_int⟩⟩⟩, ⟨⟨⟨@conv_str, @conv_bytes⟩, ⟨@bytesK_some, @bytesOf_one⟩⟩, ⟨⟨@evOp_extract, @extK_t⟩, ⟨@evOp_fa, @faK_st⟩⟩⟩⟩, ⟨⟨⟨@evOp_field, ⟨@fieldK_st, @evOp_ld⟩⟩, ⟨⟨@ldK_some, @tvK_eq⟩, ⟨@cells_r, @cellsAt_p⟩⟩⟩, ⟨⟨⟨@takeVal_eq, @agg_str⟩, ⟨@agg_bool, @agg_int⟩⟩, ⟨⟨@agg_ptr, @agg_sl⟩, ⟨@agg_arr, @agg_st⟩⟩⟩⟩⟩
theorem RA3 : (((((type_of% @evOp_store) ∧ ((type_of% @storeK_some) ∧ (type_of% @leaves_int))) ∧ (((type_of% @leaves_bool) ∧ (type_of% @leaves_str)) ∧ ((type_of% @leaves_ptr) ∧ (type_of% @leaves_a)))) ∧ ((((type_of% @leaves_p) ∧ (type_of% @leaves_s)) ∧ ((type_of% @leaves_r) ∧ (type_of% @leaves_w))) ∧ (((type_of% @leafOk_int) ∧ (type_of% @leafOk_bool)) ∧ ((type_of% @leafOk_str) ∧ (type_of% @leafOk_ptr))))) ∧ ((((type_of% @leafOk_p) ∧ ((type_of% @leafOk_s) ∧ (type_of% @leafOk_r))) ∧ (((type_of% @leafOk_w) ∧ (type_of% @stK_r)) ∧ ((type_of% @slotK_ob) ∧ (type_of% @slotK_row)))) ∧ ((((type_of% @obK_eq) ∧ (type_of% @rowK_eq)) ∧ ((type_of% @upd_eq) ∧ (type_of% @setRange_eq))) ∧ (((type_of% @evOp_ia) ∧ (type_of% @iaK_s)) ∧ ((type_of% @iaK_w) ∧ (type_of% @iaK_arr)))))) := ⟨⟨⟨⟨@evOp_store, ⟨@storeK_some, @leaves_int⟩⟩, ⟨⟨@leaves_bool, @leaves_str⟩, ⟨@leaves_ptr, @leaves_a⟩⟩⟩, ⟨⟨⟨@leaves_p, @leaves_s⟩, ⟨@leaves_r, @leaves_w⟩⟩, ⟨⟨@leafOk_int, @leafOk_bool⟩, ⟨@leafOk_str, @leafOk_ptr⟩⟩⟩⟩, ⟨⟨⟨@leafOk_p, ⟨@leafOk_s, @leafOk_r⟩⟩, ⟨⟨@leafOk_w, @stK_r⟩, ⟨@slotK_ob, @slotK_row⟩⟩⟩, ⟨⟨⟨@obK_eq, @rowK_eq⟩, ⟨@upd_eq, @setRange_eq⟩⟩, ⟨⟨@evOp_ia, @iaK_s⟩, ⟨@iaK_w, @iaK_arr⟩⟩⟩⟩⟩
theorem RA4 : (((((type_of% @evOp_ix) ∧ ((type_of% @ixK_str) ∧ (type_of% @ixK_arr))) ∧ (((type_of% @evOp_lk) ∧ (type_of% @lkK_mp)) ∧ ((type_of% @closed_m) ∧ (type_of% @agg_mp)))) ∧ ((((type_of% @evOp_sl) ∧ (type_of% @slK_str)) ∧ ((type_of% @slK_s) ∧ (type_of% @slK_w))) ∧ (((type_of% @evOp_sl3) ∧ (type_of% @evOp_mk)) ∧ ((type_of% @mkK_sl) ∧ (type_of% @cut_str_lo))))) ∧ ((((type_of% @cut_str_hi) ∧ ((type_of% @cut_str_both) ∧ (type_of% @evOp_build))) ∧ (((type_of% @buildK_st) ∧ (type_of% @buildK_arr0)) ∧ ((type_of% @placeK_eq) ∧ (type_of% @fillP_nil)))) ∧ ((((type_of% @fillP_cons) ∧ (type_of% @fillK_some)) ∧ ((type_of% @evOp_bs) ∧ (type_of% @bsT_sl))) ∧ (((type_of% @bsK_nil) ∧ (type_of% @bsK_one1)) ∧ ((type_of% @bsK_two2) ∧ (type_of% @aggK_eq)))))) := ⟨⟨⟨⟨@evOp_ix, ⟨@ixK_str, @ixK_arr⟩⟩, ⟨⟨@evOp_lk, @lkK_mp⟩, ⟨@closed_m, @agg_mp⟩⟩⟩, ⟨⟨⟨@evOp_sl, @slK_str⟩, ⟨@slK_s, @slK_w⟩⟩, ⟨⟨@evOp_sl3, @evOp_mk⟩, ⟨@mkK_sl, @cut_str_lo⟩⟩⟩⟩, ⟨⟨⟨@cut_str_hi, ⟨@cut_str_both, @evOp_build⟩⟩, ⟨⟨@buildK_st, @buildK_arr0⟩, ⟨@placeK_eq, @fillP_nil⟩⟩⟩, ⟨⟨⟨@fillP_cons, @fillK_some⟩, ⟨@evOp_bs, @bsT_sl⟩⟩, ⟨⟨@bsK_nil, @bsK_one1⟩, ⟨@bsK_two2, @aggK_eq⟩⟩⟩⟩⟩
theorem RA5 : (((((type_of% @evOp_box) ∧ ((type_of% @boxK_some) ∧ (type_of% @evOp_alloc))) ∧ (((type_of% @allocK_some) ∧ (type_of% @evOp_len)) ∧ ((type_of% @lenK_str) ∧ (type_of% @lenK_s)))) ∧ ((((type_of% @lenK_w) ∧ (type_of% @evOp_max)) ∧ ((type_of% @evOp_min) ∧ (type_of% @mx2_int))) ∧ (((type_of% @evOp_call) ∧ (type_of% @call1_eq)) ∧ ((type_of% @call0_eq) ∧ (type_of% @pureK_v))))) ∧ ((((type_of% @adopt_v) ∧ ((type_of% @addOff_p) ∧ (type_of% @addOff_r))) ∧ (((type_of% @evOp_nilCheck) ∧ (type_of% @nilK_p)) ∧ ((type_of% @nilK_r) ∧ (type_of% @pairK_eq)))) ∧ ((((type_of% @val_tmp) ∧ (type_of% @val_const)) ∧ ((type_of% @val_func) ∧ (type_of% @val_global))) ∧ (((type_of% @ofC_int) ∧ (type_of% @ofC_str)) ∧ ((type_of% @ofC_bool) ∧ (type_of% @ofC_ptr)))))) := ⟨⟨⟨⟨@evOp_box, ⟨@boxK_some, @evOp_alloc⟩⟩, ⟨⟨@allocK_some, @evOp_len⟩, ⟨@lenK_str, @lenK_s⟩⟩⟩, ⟨⟨⟨@lenK_w, @evOp_max⟩, ⟨@evOp_min, @mx2_int⟩⟩, ⟨⟨@evOp_call, @call1_eq⟩, ⟨@call0_eq, @pureK_v⟩⟩⟩⟩, ⟨⟨⟨@adopt_v, ⟨@addOff_p, @addOff_r⟩⟩, ⟨⟨@evOp_nilCheck, @nilK_p⟩, ⟨@nilK_r, @pairK_eq⟩⟩⟩, ⟨⟨⟨@val_tmp, @val_const⟩, ⟨@val_func, @val_global⟩⟩, ⟨⟨@ofC_int, @ofC_str⟩, ⟨@ofC_bool, @ofC_ptr⟩⟩⟩⟩⟩
theorem RA6 : (((((type_of% @ofC_nil) ∧ ((type_of% @ofC_agg) ∧ (type_of% @reg_nil))) ∧ (((type_of% @base_nil) ∧ (type_of% @st_nil)) ∧ ((type_of% @look_nil) ∧ (type_of% @withOpt_nil_lo)))) ∧ ((((type_of% @withOpt_box_lo) ∧ (type_of% @withOpt_br_lo)) ∧ ((type_of% @withOpt_lh_lo) ∧ (type_of% @withOpt_pl))) ∧ (((type_of% @withOpt_pl_on) ∧ (type_of% @look_pl)) ∧ ((type_of% @reg_pl) ∧ (type_of% @base_pl))))) ∧ ((((type_of% @st_pl) ∧ ((type_of% @bx_pl) ∧ (type_of% @bxK_nil))) ∧ (((type_of% @look_box) ∧ (type_of% @reg_box)) ∧ ((type_of% @bx_box) ∧ (type_of% @base_box)))) ∧ ((((type_of% @st_box) ∧ (type_of% @base_br)) ∧ ((type_of% @st_br) ∧ (type_of% @base_strict))) ∧ (((type_of% @st_strict) ∧ (type_of% @look_lh)) ∧ ((type_of% @base_lh) ∧ (type_of% @st_lh)))))) := ⟨⟨⟨⟨@ofC_nil, ⟨@ofC_agg, @reg_nil⟩⟩, ⟨⟨@base_nil, @st_nil⟩, ⟨@look_nil, @withOpt_nil_lo⟩⟩⟩, ⟨⟨⟨@withOpt_box_lo, @withOpt_br_lo⟩, ⟨@withOpt_lh_lo, @withOpt_pl⟩⟩, ⟨⟨@withOpt_pl_on, @look_pl⟩, ⟨@reg_pl, @base_pl⟩⟩⟩⟩, ⟨⟨⟨@st_pl, ⟨@bx_pl, @bxK_nil⟩⟩, ⟨⟨@look_box, @reg_box⟩, ⟨@bx_box, @base_box⟩⟩⟩, ⟨⟨⟨@st_box, @base_br⟩, ⟨@st_br, @base_strict⟩⟩, ⟨⟨@st_strict, @look_lh⟩, ⟨@base_lh, @st_lh⟩⟩⟩⟩⟩
theorem RA7 : (((((type_of% @reg_lh_off) ∧ ((type_of% @reg_lh_on) ∧ (type_of% @base_mask))) ∧ (((type_of% @maskB_lh_lo) ∧ (type_of% @look_mask)) ∧ ((type_of% @st_mask) ∧ (type_of% @bxK_lh)))) ∧ ((((type_of% @strictP_br_lo) ∧ (type_of% @look_strict)) ∧ ((type_of% @look_br) ∧ (type_of% @reg_br_off))) ∧ (((type_of% @reg_br_on) ∧ (type_of% @bx_br)) ∧ ((type_of% @range_eq) ∧ (type_of% @loop_zero))))) ∧ ((((type_of% @loop_succ) ∧ ((type_of% @wanted_none) ∧ (type_of% @wanted_some))) ∧ (((type_of% @wK_bool) ∧ (type_of% @wK_undef)) ∧ ((type_of% @bqT) ∧ (type_of% @bqF)))) ∧ ((((type_of% @cast0) ∧ (type_of% @cast1)) ∧ ((type_of% @cast2) ∧ (type_of% @cast3))) ∧ (((type_of% @resK_ret) ∧ (type_of% @resK_normal)) ∧ ((type_of% @evRes_nil) ∧ (type_of% @evRes_tmp)))))) := ⟨⟨⟨⟨@reg_lh_off, ⟨@reg_lh_on, @base_mask⟩⟩, ⟨⟨@maskB_lh_lo, @look_mask⟩, ⟨@st_mask, @bxK_lh⟩⟩⟩, ⟨⟨⟨@strictP_br_lo, @look_strict⟩, ⟨@look_br, @reg_br_off⟩⟩, ⟨⟨@reg_br_on, @bx_br⟩, ⟨@range_eq, @loop_zero⟩⟩⟩⟩, ⟨⟨⟨@loop_succ, ⟨@wanted_none, @wanted_some⟩⟩, ⟨⟨@wK_bool, @wK_undef⟩, ⟨@bqT, @bqF⟩⟩⟩, ⟨⟨⟨@cast0, @cast1⟩, ⟨@cast2, @cast3⟩⟩, ⟨⟨@resK_ret, @resK_normal⟩, ⟨@evRes_nil, @evRes_tmp⟩⟩⟩⟩⟩
theorem RA8 : (((((type_of% @evRes_cell) ∧ (type_of% @giveAll_v)) ∧ ((type_of% @closedL_nil) ∧ (type_of% @closedL_cons))) ∧ (((type_of% @closed_v) ∧ (type_of% @closed_p)) ∧ ((type_of% @closed_s) ∧ ((type_of% @closed_a) ∧ (type_of% @closed_t))))) ∧ ((((type_of% @rdK_normal) ∧ (type_of% @rdK_exit)) ∧ ((type_of% @rdK_ret) ∧ ((type_of% @cells_ob) ∧ (type_of% @cells_row)))) ∧ (((type_of% @cells_fz) ∧ (type_of% @size_mk)) ∧ ((type_of% @init_eq) ∧ ((type_of% @b1K_some) ∧ (type_of% @b2K_some)))))) := ⟨⟨⟨⟨@evRes_cell, @giveAll_v⟩, ⟨@closedL_nil, @closedL_cons⟩⟩, ⟨⟨@closed_v, @closed_p⟩, ⟨@closed_s, ⟨@closed_a, @closed_t⟩⟩⟩⟩, ⟨⟨⟨@rdK_normal, @rdK_exit⟩, ⟨@rdK_ret, ⟨@cells_ob, @cells_row⟩⟩⟩, ⟨⟨@cells_fz, @size_mk⟩, ⟨@init_eq, ⟨@b1K_some, @b2K_some⟩⟩⟩⟩⟩
theorem RA9 : (((((type_of% @List.size_toArray.{0}) ∧ ((type_of% @List.length_cons.{0}) ∧ (type_of% @List.length_nil.{0}))) ∧ (((type_of% @List.getElem?_toArray.{0}) ∧ (type_of% @List.getElem?_cons_zero.{0})) ∧ ((type_of% @List.getElem?_cons_succ.{0}) ∧ (type_of% @List.map_cons.{0, 0})))) ∧ ((((type_of% @List.map_nil.{0, 0}) ∧ (type_of% @List.drop_succ_cons.{0})) ∧ ((type_of% @List.drop_zero.{0}) ∧ (type_of% @List.take_succ_cons.{0}))) ∧ (((type_of% @List.take_zero.{0}) ∧ (type_of% @List.head?_cons.{0})) ∧ ((type_of% @List.all_cons.{0}) ∧ (type_of% @List.all_nil.{0}))))) ∧ ((((type_of% @List.nil_append.{0}) ∧ ((type_of% @List.cons_append.{0}) ∧ (type_of% @Option.bind_some.{0, 0}))) ∧ (((type_of% @Option.map_some.{0, 0}) ∧ (type_of% @Option.bind_none.{0, 0})) ∧ ((type_of% @Option.map_none.{0, 0}) ∧ (type_of% @List.getD_cons_zero.{0})))) ∧ ((((type_of% @List.getD_cons_succ.{0}) ∧ (type_of% @List.getD_nil.{0})) ∧ ((type_of% @Nat.zero_add) ∧ (type_of% @Nat.add_zero))) ∧ (((type_of% @Nat.mul_one) ∧ (type_of% @Nat.zero_mul)) ∧ ((type_of% @Bool.and_true) ∧ (type_of% @Bool.true_and)))))) := ⟨⟨⟨⟨@List.size_toArray.{0}, ⟨@List.length_cons.{0}, @List.length_nil.{0}⟩⟩, ⟨⟨@List.getElem?_toArray.{0}, @List.getElem?_cons_zero.{0}⟩, ⟨@List.getElem?_cons_succ.{0}, @List.map_cons.{0, 0}⟩⟩⟩, ⟨⟨⟨@List.map_nil.{0, 0}, @List.drop_succ_cons.{0}⟩, ⟨@List.drop_zero.{0}, @List.take_succ_cons.{0}⟩⟩, ⟨⟨@List.take_zero.{0}, @List.head?_cons.{0}⟩, ⟨@List.all_cons.{0}, @List.all_nil.{0}⟩⟩⟩⟩, ⟨⟨⟨@List.nil_append.{0}, ⟨@List.cons_append.{0}, @Option.bind_some.{0, 0}⟩⟩, ⟨⟨@Option.map_some.{0, 0}, @Option.bind_none.{0, 0}⟩, ⟨@Option.map_none.{0, 0}, @List.getD_cons_zero.{0}⟩⟩⟩, ⟨⟨⟨@List.getD_cons_succ.{0}, @List.getD_nil.{0}⟩, ⟨@Nat.zero_add, @Nat.add_zero⟩⟩, ⟨⟨@Nat.mul_one, @Nat.zero_mul⟩, ⟨@Bool.and_true, @Bool.true_and⟩⟩⟩⟩⟩
theorem RA10 : (((((type_of% @Bool.and_self) ∧ ((type_of% @Bool.not_true) ∧ (type_of% @Bool.not_false))) ∧ (((type_of% @beq_self_eq_true.{0}) ∧ (type_of% @and_self)) ∧ ((type_of% @and_true) ∧ (type_of% @true_and)))) ∧ (((type_of% @if_true.{1}) ∧ ((type_of% @if_false.{1}) ∧ (type_of% @Bool.false_eq_true))) ∧ (((type_of% @ite_bind) ∧ (type_of% @ite_map)) ∧ ((type_of% @decide_true) ∧ (type_of% @decide_false))))) ∧ ((((type_of% @eq_self.{1}) ∧ ((type_of% @ge_iff_le.{0}) ∧ (type_of% @gt_iff_lt.{0}))) ∧ (((type_of% @Int.toNat_natCast) ∧ (type_of% @ite_self.{1})) ∧ ((type_of% @Bool.true_or) ∧ (type_of% @Bool.false_or)))) ∧ (((type_of% @Bool.or_true) ∧ ((type_of% @Bool.or_false) ∧ (type_of% @Bool.false_and))) ∧ (((type_of% @Bool.and_false) ∧ (type_of% @false_and)) ∧ ((type_of% @and_false) ∧ (type_of% @List.append_nil.{0})))))) := ⟨⟨⟨⟨@Bool.and_self, ⟨@Bool.not_true, @Bool.not_false⟩⟩, ⟨⟨@beq_self_eq_true.{0}, @and_self⟩, ⟨@and_true, @true_and⟩⟩⟩, ⟨⟨@if_true.{1}, ⟨@if_false.{1}, @Bool.false_eq_true⟩⟩, ⟨⟨@ite_bind, @ite_map⟩, ⟨@decide_true, @decide_false⟩⟩⟩⟩, ⟨⟨⟨@eq_self.{1}, ⟨@ge_iff_le.{0}, @gt_iff_lt.{0}⟩⟩, ⟨⟨@Int.toNat_natCast, @ite_self.{1}⟩, ⟨@Bool.true_or, @Bool.false_or⟩⟩⟩, ⟨⟨@Bool.or_true, ⟨@Bool.or_false, @Bool.false_and⟩⟩, ⟨⟨@Bool.and_false, @false_and⟩, ⟨@and_false, @List.append_nil.{0}⟩⟩⟩⟩⟩
end
end Go.Proofs.YtegbkihgnofkfaaGreatDoor.Ev

/-
The engine, part 31: rules for functions that change one object that they are lent.
-/
namespace Go.Proofs.YtegbkihgnofkfaaGreatDoor.Ev
section
set_option linter.unusedVariables false
set_option linter.unusedSimpArgs false
open Go Go.RowKit
set_option linter.unusedVariables false
set_option linter.unusedSimpArgs false
variable {I : Tab} {C : Sem1} {pf : FuncId → Nat} {m : Nat} {e : Nat → AV} {σ : Sto} {key : Nat}

/-- A value that goes along unchanged. -/
def goes : AV → Bool
  | .t _ => false
  | x => closed x
theorem goes_closed {x : AV} (h : goes x = true) : closed x = true := by cases x <;> simp_all [goes]
theorem goes_v (x : Value) : goes (.v x) = true := rfl
theorem pack_p {cs : List AV} (h : closedL cs = true) : pack1 σ (.p cs) = clear σ (.p cs) := by
  cases cs with
  | nil => rfl
  | cons c cs =>
    cases cs with
    | cons _ _ => cases c <;> rfl
    | nil =>
      cases c
      case w => simp [closed, closedL] at h
      all_goals rfl
theorem back_p {cs : List AV} (h : closedL cs = true) {y : AV} {xs ys : List AV} {σ : Sto} {k : Nat} : back σ k (.p cs :: xs) (y :: ys) = back σ k xs ys := by
  cases cs with
  | nil => rfl
  | cons c cs =>
    cases cs with
    | cons _ _ => cases c <;> rfl
    | nil =>
      cases c
      case w => simp [closed, closedL] at h
      all_goals rfl
theorem pack_goes {x : AV} (h : goes x = true) : pack1 σ x = some (x, []) := by
  cases x
  case p cs =>
    rw [pack_p h]
    simp only [clear, deep_closed 8 _ (goes_closed h), Option.bind_some]
    rfl
  case t => simp [goes] at h
  case r => simp [goes, closed] at h
  case w => simp [goes, closed] at h
  case o => simp [goes, closed] at h
  all_goals
    simp only [pack1, clear, deep_closed 8 _ (goes_closed h), Option.bind_some]
    rfl
theorem packL_goes : ∀ {xs : List AV}, xs.all goes = true → deepC (pack1 σ) xs = some (xs, [])
  | [], _ => rfl
  | x :: xs, h => by
    simp only [List.all_cons, Bool.and_eq_true] at h
    simp only [deepC, pack_goes h.1, Option.bind_some, packL_goes h.2, Option.map_some, List.append_nil]
theorem leaf_closed {x : AV} (h : closed x = true) : leafP σ x = some (x, []) := by
  cases x
  case r => simp [closed] at h
  case w => simp [closed] at h
  case o => simp [closed] at h
  all_goals
    simp only [leafP, clear, deep_closed 8 _ h, Option.bind_some]
    rfl
theorem leafL_closed : ∀ {xs : List AV}, closedL xs = true → deepC (leafP σ) xs = some (xs, [])
  | [], _ => rfl
  | x :: xs, h => by
    simp only [closedL, Bool.and_eq_true] at h
    simp only [deepC, leaf_closed h.1, Option.bind_some, leafL_closed h.2, Option.map_some, List.append_nil]
theorem rowsIn_closed : ∀ {xs : List AV} {σ : Sto} {k : Nat}, closedL xs = true → rowsIn σ k xs = (xs, σ, k)
  | [], _, _, _ => rfl
  | x :: xs, σ, k, h => by
    simp only [closedL, Bool.and_eq_true] at h
    cases x
    case o => simp [closed] at h
    all_goals simp only [rowsIn, rowsIn_closed h.2]
theorem needs_goes : ∀ {xs : List AV}, xs.all goes = true → needs σ xs = []
  | [], _ => rfl
  | x :: xs, h => by
    simp only [List.all_cons, Bool.and_eq_true] at h
    simp only [needs, needs_goes h.2, List.append_nil]
    cases x
    case w => simp [goes, closed] at h
    all_goals rfl
theorem back_goes : ∀ {xs : List AV} {σ : Sto} {k : Nat}, xs.all goes = true → back σ k xs xs = some (σ, k)
  | [], _, _, _ => rfl
  | x :: xs, σ, k, h => by
    simp only [List.all_cons, Bool.and_eq_true] at h
    cases x
    case r => simp [goes, closed] at h
    case w => simp [goes, closed] at h
    case t => simp [goes] at h
    case p cs => rw [back_p h.1, back_goes h.2]
    all_goals simp only [back, back_goes h.2]
theorem inits_goes : ∀ {xs : List AV} {σ : Sto} {k : Nat}, xs.all goes = true → inits σ k xs = (xs, σ, k)
  | [], _, _, _ => rfl
  | x :: xs, σ, k, h => by
    simp only [List.all_cons, Bool.and_eq_true] at h
    cases x
    case t => simp [goes] at h
    all_goals simp only [inits, inits_goes h.2]

/-- A row as it is lent. -/
abbrev lentR (n E sz : Nat) (cs : List AV) : AV := .t [.v (.bool false), ni 0, ni n, .o E sz n cs]
/-- An object as it is lent. -/
abbrev lent (T : Nat) (cs : List AV) : AV := .t (.v (.bool true) :: ni T :: cs)

/-- What comes back of a call that was lent object id. -/
def lentB (σ : Sto) (key id : Nat) (xs : List AV) : AV → Option (AV × Sto)
  | .t [x, .t outs] => match outs with
    | .t (.v (.bool true) :: .v (.int .i64 T) :: cs) :: ys => if closedL cs = true ∧ ys.length = xs.length ∧ room x ≤ 4 then (back (upd σ id (some (.ob T.toNat cs))) key xs ys).bind fun (σ1, k1) => if k1 + room x ≤ key + 4 then adopt σ1 k1 x else none else none
    | _ => none
  | _ => none
theorem call_ob {f : FuncId} {id T : Nat} {cs xs : List AV} (hp : pf f = 2) (hσ : σ id = some (.ob T cs)) (hc : closedL cs = true) (hx : xs.all goes = true) {x : AV} {cs' : List AV} {T' : Nat} (hr : C f (lent T cs :: xs) = some (.t [x, .t (lent T' cs' :: xs)])) (hc' : closedL cs' = true) :
    callOp C pf σ key f (.r id 0 :: xs) = if key + room x ≤ key + 4 then adopt (upd σ id (some (.ob T' cs'))) key x else none := by
  rw [call2_eq hp]
  have h1 : needs σ (.r id 0 :: xs) = [] := by
    simp only [needs, needs_goes hx, List.append_nil]
    rfl
  have h2 : deepC (pack1 σ) (.r id 0 :: xs) = some (lent T cs :: xs, [id]) := by
    simp only [deepC, pack1, hσ, leafL_closed hc, Option.map_some, Option.bind_some, packL_goes hx, List.append_nil]
  rw [h1]
  simp only [frz0, h2, Option.bind_some, lend1]
  rw [if_pos (by simp)]
  rw [hr]
  have h3 : upd (killL σ [id]) id (some (.ob T' cs')) = upd σ id (some (.ob T' cs')) := by
    funext i
    unfold upd killL
    by_cases e : i = id <;> simp [e]
  simp only [Option.bind_some, lend2, h1, frz0, back, lent, ni, rowsIn_closed hc', Int.toNat_natCast, h3, back_goes hx]
theorem call_ob_v {f : FuncId} {id T : Nat} {cs xs : List AV} (hp : pf f = 2) (hσ : σ id = some (.ob T cs)) (hc : closedL cs = true) (hx : xs.all goes = true) {x : AV} {cs' : List AV} {T' : Nat} (hr : C f (lent T cs :: xs) = some (.t [x, .t (lent T' cs' :: xs)])) (hc' : closedL cs' = true) (h1 : closed x = true) (h2 : room x ≤ 4) :
    callOp C pf σ key f (.r id 0 :: xs) = some (x, upd σ id (some (.ob T' cs'))) := by
  rw [call_ob hp hσ hc hx hr hc', if_pos (by omega)]
  cases x
  case t ys =>
    simp only [adopt]
    rw [if_pos (by simpa only [closed] using h1)]
  case o => simp [closed] at h1
  all_goals simp only [adopt, adopt1_closed h1]

/-- What a function gives that was lent object 0. -/
def outK (I : Tab) (rs : List ResultVar) (vs : List AV) : Ex × St → Option AV
  | (.exit _, _) => none
  | (_, s) => (evRes I s rs).bind fun xs => (giveL s.σ xs).bind fun (ys, os, is) => (deepC (packO s.σ) vs).bind fun (outs, L) =>
        if (os ++ L).Nodup ∧ ∀ i ∈ os ++ L, i ∉ is then (match ys with | [.t _] => none | [y] => some (.t [y, .t outs]) | ys => some (.t [.t ys, .t outs])) else none
theorem evM_run {fn : Func} {c : Code} {T : Nat} {cs xs : List AV} (hN : xs.length + 1 ≤ fn.ntmps) (hc : closedL cs = true) (hx : xs.all goes = true) :
    evM I C pf m fn c (lent T cs :: xs) = (evC I C pf m c ⟨fun t => (.r 0 0 :: xs).getD t (.v undef), upd (fun _ => none) 0 (some (.ob T cs)), 1⟩).bind (outK I fn.results.toList (.r 0 0 :: xs)) := by
  unfold evM
  simp only [lent, ni, inits, rowsIn_closed hc, inits_goes hx, Int.toNat_natCast]
  rw [if_pos ⟨by simpa using hN, by simp⟩]
  congr 1
  funext ⟨x, s⟩
  cases x <;> rfl
theorem packO_goes {x : AV} (h : goes x = true) : packO σ x = some (x, []) := by
  cases x
  case r => simp [goes, closed] at h
  case t => simp [goes] at h
  all_goals exact pack_goes h
theorem packOL_goes : ∀ {xs : List AV}, xs.all goes = true → deepC (packO σ) xs = some (xs, [])
  | [], _ => rfl
  | x :: xs, h => by
    simp only [List.all_cons, Bool.and_eq_true] at h
    simp only [deepC, packO_goes h.1, Option.bind_some, packOL_goes h.2, Option.map_some, List.append_nil]
theorem packO_ob {T : Nat} {cs xs : List AV} (hσ : σ 0 = some (.ob T cs)) (hc : closedL cs = true) (hx : xs.all goes = true) : deepC (packO σ) (.r 0 0 :: xs) = some (lent T cs :: xs, [0]) := by
  simp only [deepC, packO, hσ, pack1, leafL_closed hc, Option.map_some, Option.bind_some, packOL_goes hx, List.append_nil]
/-- One result. -/
theorem out_one {rs : List ResultVar} {xs : List AV} {s : St} {x : AV} {T : Nat} {cs : List AV} (h1 : evRes I s rs = some [x]) (h2 : goes x = true) (hσ : s.σ 0 = some (.ob T cs)) (hc : closedL cs = true) (hx : xs.all goes = true) :
    outK I rs (.r 0 0 :: xs) (.ret, s) = some (.t [x, .t (lent T cs :: xs)]) := by
  have h3 : giveL s.σ [x] = some ([x], [], []) := giveL_closed (by simp only [closedL, goes_closed h2, Bool.and_self])
  simp only [outK, h1, Option.bind_some, h3, packO_ob hσ hc hx]
  rw [if_pos ⟨by simp, by simp⟩]
  cases x
  case t => simp [goes] at h2
  all_goals rfl
/-- No result. -/
theorem out_none {rs : List ResultVar} {xs : List AV} {s : St} {x : Ex} {T : Nat} {cs : List AV} (hx0 : ∀ i, x ≠ .exit i) (h1 : evRes I s rs = some []) (hσ : s.σ 0 = some (.ob T cs)) (hc : closedL cs = true) (hx : xs.all goes = true) :
    outK I rs (.r 0 0 :: xs) (x, s) = some (.t [.t [], .t (lent T cs :: xs)]) := by
  cases x
  case exit i => exact absurd rfl (hx0 i)
  all_goals
    simp only [outK, h1, Option.bind_some, giveL, packO_ob hσ hc hx]
    rw [if_pos ⟨by simp, by simp⟩]
/-- Two results and more, all of values. -/
theorem out_two {rs : List ResultVar} {xs : List AV} {s : St} {x y : AV} {zs : List AV} {T : Nat} {cs : List AV} (h1 : evRes I s rs = some (x :: y :: zs)) (h2 : closedL (x :: y :: zs) = true) (hσ : s.σ 0 = some (.ob T cs)) (hc : closedL cs = true) (hx : xs.all goes = true) :
    outK I rs (.r 0 0 :: xs) (.ret, s) = some (.t [.t (x :: y :: zs), .t (lent T cs :: xs)]) := by
  simp only [outK, h1, Option.bind_some, giveL_closed h2, packO_ob hσ hc hx]
  rw [if_pos ⟨by simp, by simp⟩]
end
end Go.Proofs.YtegbkihgnofkfaaGreatDoor.Ev

/-
The engine, part 32: rules for rows that grow, and for lists of texts and numbers.
-/
namespace Go.Proofs.YtegbkihgnofkfaaGreatDoor.Ev
section
set_option linter.unusedVariables false
set_option linter.unusedSimpArgs false
open Go Go.RowKit
set_option linter.unusedVariables false
set_option linter.unusedSimpArgs false
variable {I : Tab} {C : Sem1} {pf : FuncId → Nat} {m : Nat} {e : Nat → AV} {σ : Sto} {key : Nat}

def appT (I : Tab) (σ : Sto) (key : Nat) (x y : AV) : Option TI → Option (AV × Sto)
  | some ⟨.sl E, _, _, _⟩ => (I E).bind fun ei => appK σ key E ei x (sliceCells σ ei.sz y)
  | _ => none
theorem evOp_app (t : TypeId) (x y : Operand) : evOp I C pf e σ key (.call { callee := .builtin .append, args := #[x, y], argTypes := #[t, t] }) = appT I σ key (val e x) (val e y) (I t) := by
  cases hi : I t with
  | none =>
    simp only [evOp, builtinOf, List.map_cons, List.map_nil]
    rw [show (#[t, t] : Array TypeId).getD 0 0 = t from rfl, if_pos rfl, hi]
    rfl
  | some i =>
    obtain ⟨k, a, b, c⟩ := i
    cases k
    case sl E =>
      cases hE : I E with
      | none =>
        simp only [evOp, builtinOf, List.map_cons, List.map_nil, appT, hE]
        rw [show (#[t, t] : Array TypeId).getD 0 0 = t from rfl, if_pos rfl, hi]
        simp only [hE]
        rfl
      | some ei =>
        rw [evOp_append hi hE]
        simp only [appT, hE, Option.bind_some]
    all_goals
      simp only [evOp, builtinOf, List.map_cons, List.map_nil]
      rw [show (#[t, t] : Array TypeId).getD 0 0 = t from rfl, if_pos rfl, hi]
      rfl
def appE (σ : Sto) (key E : Nat) (x y : AV) : Option TI → Option (AV × Sto)
  | some ei => appK σ key E ei x (sliceCells σ ei.sz y)
  | none => none
theorem appT_sl (x y : AV) (E a b : Nat) (c : List Value) : appT I σ key x y (some ⟨.sl E, a, b, c⟩) = appE σ key E x y (I E) := by
  simp only [appT]
  cases I E <;> rfl
theorem appE_some (E : Nat) (x y : AV) (ei : TI) : appE σ key E x y (some ei) = appK σ key E ei x (sliceCells σ ei.sz y) := rfl
/-- The cells of a slice of a row. -/
def scW (sz lo n : Nat) : Option Slot → Option (Nat × List AV)
  | some s => if lo + n * sz ≤ s.cells.length then some (n, (s.cells.drop lo).take (n * sz)) else none
  | none => none
theorem sc_wK (sz id lo n : Nat) : sliceCells σ sz (.w id lo n) = scW sz lo n (σ id) := by
  simp only [sliceCells, scW]
  cases σ id <;> rfl
theorem scW_row {E sz n n2 : Nat} {cs : List AV} (h : cs.length = n * sz) : scW sz 0 n (some (.row E sz n2 cs)) = some (n, cs) := by
  show (if 0 + n * sz ≤ cs.length then some (n, (cs.drop 0).take (n * sz)) else none) = _
  rw [if_pos (by omega), List.drop_zero, List.take_of_length_le (by omega)]
/-- A slice that is full takes some more. -/
theorem app_s {E sz by_ : Nat} {k : TK} {z : List Value} {n m : Nat} {cs news : List AV} (h1 : 0 < sz) (h2 : news.length = m * sz) (h3 : news.all leafOk = true) (h4 : cs.length = n * sz) (h5 : n + m ≤ 9223372036854775807) (h6 : (n + m) * by_ ≤ 140737488355328) (h7 : m ≠ 0 ∨ n = 0) :
    appK σ key E ⟨k, sz, by_, z⟩ (.s true n cs) (some (m, news)) = some (.w key 0 (n + m), upd σ key (some (.row E sz (n + m) (cs ++ news)))) :=
  appK_s h1 h2 h3 h4 h5 h6 h7
/-- A row takes some more. -/
theorem app_w {E sz by_ : Nat} {k : TK} {z : List Value} {id n m : Nat} {cs news : List AV} (hσ : σ id = some (.row E sz n cs)) (h1 : 0 < sz) (h2 : news.length = m * sz) (h3 : news.all leafOk = true) (h4 : cs.length = n * sz) (h5 : n + m ≤ 9223372036854775807) (h6 : (n + m) * by_ ≤ 140737488355328) (h7 : key ≠ id) :
    appK σ key E ⟨k, sz, by_, z⟩ (.w id 0 n) (some (m, news)) = some (.w key 0 (n + m), upd (upd σ id none) key (some (.row E sz (n + m) (cs ++ news)))) := by
  rw [appK_w hσ h1 h2 h3 (by show n * sz ≤ _; omega) h5 h6 h7]
  rw [List.take_of_length_le (by show cs.length ≤ n * sz; omega)]
/-- A row of which only n elements are left takes some more. -/
theorem app_part {E sz by_ : Nat} {k : TK} {z : List Value} {id n n' m : Nat} {cs news : List AV} (hσ : σ id = some (.row E sz n' cs)) (h1 : 0 < sz) (h2 : news.length = m * sz) (h3 : news.all leafOk = true) (h4 : n * sz ≤ cs.length) (h5 : n + m ≤ 9223372036854775807) (h6 : (n + m) * by_ ≤ 140737488355328) (h7 : key ≠ id) :
    appK σ key E ⟨k, sz, by_, z⟩ (.w id 0 n) (some (m, news)) = some (.w key 0 (n + m), upd (upd σ id none) key (some (.row E sz (n + m) (cs.take (n * sz) ++ news)))) :=
  appK_w hσ h1 h2 h3 h4 h5 h6 h7
theorem adopt_row (E sz n : Nat) (cs : List AV) : adopt σ key (.o E sz n cs) = if closedL cs = true then some (.w key 0 n, upd σ key (some (.row E sz n cs))) else none := rfl
theorem adopt_agg (cs : List AV) : adopt σ key (.a cs) = if closedL cs = true then some (.a cs, σ) else none := rfl
theorem adopt_ptr (cs : List AV) : adopt σ key (.p cs) = if closedL cs = true then some (.p cs, σ) else none := rfl
theorem adopt_sl (ex : Bool) (n : Nat) (cs : List AV) : adopt σ key (.s ex n cs) = if closedL cs = true then some (.s ex n cs, σ) else none := rfl
/-- A row handed over. -/
def gvW (σ : Sto) (id n : Nat) : Option Slot → Option AV
  | some (.row E sz N cs) => if n = N ∧ closedL cs = true then some (.o E sz n cs) else giveAll σ [.w id 0 n]
  | _ => giveAll σ [.w id 0 n]
theorem gv_w (id n : Nat) : giveAll σ [.w id 0 n] = gvW σ id n (σ id) := by
  cases h : σ id with
  | none => rfl
  | some s =>
    cases s with
    | row E sz N cs =>
      simp only [gvW]
      split
      · rename_i hc
        obtain ⟨rfl, hc⟩ := hc
        exact giveAll_w h hc
      · rfl
    | _ => rfl
theorem give_row {id n E sz : Nat} {cs : List AV} (h : σ id = some (.row E sz n cs)) (hc : closedL cs = true) : giveAll σ [.w id 0 n] = some (.o E sz n cs) := giveAll_w h hc
theorem give_row2 {id n E sz : Nat} {cs : List AV} {y : AV} (h : σ id = some (.row E sz n cs)) (hc : closedL cs = true) (hy : closed y = true) : giveAll σ [.w id 0 n, y] = some (.t [.o E sz n cs, y]) := giveAll_wc h hc hy

theorem deep_w (d : Nat) {id lo n E sz N' : Nat} {cs : List AV} (h : σ id = some (.row E sz N' cs)) (hl : lo + n * sz ≤ cs.length) (hc : closedL cs = true) : deep σ (d + 1) (.w id lo n) = some (.s false n ((cs.drop lo).take (n * sz)), [id]) := by
  simp only [deep, h, if_pos hl, deepL_closed d hc, Option.map_some]
/-- A call that is given a row of its own and gives a plain value. -/
theorem call0_w {f : FuncId} {id n E sz N' : Nat} {cs ys : List AV} {r : Value} (hσ : σ id = some (.row E sz N' cs)) (hp : pf f = 0) (hl : cs.length = n * sz) (hc : closedL cs = true) (hy : closedL ys = true) (hr : C f (.s false n cs :: ys) = some (.v r)) :
    callOp C pf σ key f (.w id 0 n :: ys) = some (.v r, σ) := by
  unfold callOp
  rw [if_neg (by omega), if_neg (by omega), if_neg (by omega)]
  have h1 : deep σ 8 (.w id 0 n) = some (.s false n cs, [id]) := by
    rw [deep_w 7 hσ (by omega) hc, List.drop_zero, List.take_of_length_le (by omega)]
  have h2 : deepC (deep σ 8) (.w id 0 n :: ys) = some (.s false n cs :: ys, [id]) := by
    simp only [deepC, h1, Option.bind_some, deepL_closed 8 hy, Option.map_some, List.append_nil]
  rw [h2]
  simp only [Option.bind_some, hr, flat, flat1, or_true, if_true]
  rfl

/-! ### a law whose code gives true -/
theorem calls_true {P : Program} {f : FuncId} {args : List AV} (h : PureOk P f args (B true)) (w : World) (V : Nat → Prop) (us : List Value) (hV : ∀ b, V b → b < w.heap.size) (hl : us.length = args.length)
    (hr : ∀ (j : Nat) (y : AV) (u : Value), args[j]? = some y → us[j]? = some u → Rep w (gV V) y u) :
    Calls P f us.toArray w fun e w' => e = .returned (.bool true) ∧ Below w.heap.size w w' := by
  refine (h.2 w V us hV hl hr).mono ?_
  rintro e w' ⟨V', u, B, rfl, hb, _, _, hres, _, _⟩
  refine ⟨?_, hb⟩
  obtain ⟨_, _, hr⟩ := hres
  rw [rep_v_inv hr]
theorem calls_true_v {P : Program} {f : FuncId} {us : List Value} (h : PureOk P f (us.map .v) (B true)) (w : World) :
    Calls P f us.toArray w fun e w' => e = .returned (.bool true) ∧ Below w.heap.size w w' :=
  calls_true h w (fun _ => False) us (fun _ h => h.elim) (by simp) fun j y u hj hu => by
    simp only [List.getElem?_map, hu, Option.map_some, Option.some.injEq] at hj
    rw [← hj]
    exact .v u

/-! ### lists of texts, of numbers -/
def strs (l : List (List UInt8)) : List AV := l.map fun s => S s
theorem strs_nil : strs [] = [] := rfl
theorem strs_cons (x : List UInt8) (l : List (List UInt8)) : strs (x :: l) = S x :: strs l := rfl
theorem strs_append (a b : List (List UInt8)) : strs a ++ strs b = strs (a ++ b) := by simp [strs]
theorem strs_one (x : List UInt8) : [S x] = strs [x] := rfl
theorem strs_len (l : List (List UInt8)) : (strs l).length = l.length := by simp [strs]
theorem strs_closed (l : List (List UInt8)) : closedL (strs l) = true := by
  induction l with
  | nil => rfl
  | cons x l ih => simp only [strs_cons, closedL, closed, ih, Bool.and_self]
theorem strs_leaf (l : List (List UInt8)) : (strs l).all leafOk = true := by
  induction l with
  | nil => rfl
  | cons x l ih => simp only [strs_cons, List.all_cons, leafOk_str, ih, Bool.and_self]
theorem strs_get (l : List (List UInt8)) (i : Nat) : (strs l)[i]? = (l[i]?).map fun s => S s := by simp [strs]
theorem strs_drop (l : List (List UInt8)) (i : Nat) : (strs l).drop i = strs (l.drop i) := by simp [strs]
theorem strs_take (l : List (List UInt8)) (i : Nat) : (strs l).take i = strs (l.take i) := by simp [strs]
theorem strs_head (l : List (List UInt8)) : (strs l).head? = (l.head?).map fun s => S s := by cases l <;> rfl
def ints (l : List Int) : List AV := l.map fun n => N n
theorem ints_nil : ints [] = [] := rfl
theorem ints_cons (x : Int) (l : List Int) : ints (x :: l) = N x :: ints l := rfl
theorem ints_append (a b : List Int) : ints a ++ ints b = ints (a ++ b) := by simp [ints]
theorem ints_one (x : Int) : [N x] = ints [x] := rfl
theorem ints_len (l : List Int) : (ints l).length = l.length := by simp [ints]
theorem ints_closed (l : List Int) : closedL (ints l) = true := by
  induction l with
  | nil => rfl
  | cons x l ih => simp only [ints_cons, closedL, closed, ih, Bool.and_self]
theorem ints_leaf (l : List Int) : (ints l).all leafOk = true := by
  induction l with
  | nil => rfl
  | cons x l ih => simp only [ints_cons, List.all_cons, leafOk_int, ih, Bool.and_self]
theorem ints_get (l : List Int) (i : Nat) : (ints l)[i]? = (l[i]?).map fun n => N n := by simp [ints]
theorem ints_drop (l : List Int) (i : Nat) : (ints l).drop i = ints (l.drop i) := by simp [ints]
theorem ints_take (l : List Int) (i : Nat) : (ints l).take i = ints (l.take i) := by simp [ints]
theorem ints_head (l : List Int) : (ints l).head? = (l.head?).map fun n => N n := by cases l <;> rfl
theorem adopt_two {x y : AV} (h1 : closed x = true) (h2 : closed y = true) : adopt σ key (.t [x, y]) = some (.t [x, y], σ) := adopt_t2 x y (adopt1_closed h1) (adopt1_closed h2)
theorem adopt_none : adopt σ key (.t []) = some (.t [], σ) := rfl
theorem give_two {x y : AV} (h1 : closed x = true) (h2 : closed y = true) : giveAll σ [x, y] = some (.t [x, y]) := giveAll_two (by simp only [closedL, h1, h2, Bool.and_self])
theorem give_p {cs : List AV} (h : closedL cs = true) : giveAll σ [.p cs] = some (.p cs) := giveAll_p h
theorem give_a {cs : List AV} (h : closedL cs = true) : giveAll σ [.a cs] = some (.a cs) := giveAll_a h
theorem give_s {ex : Bool} {n : Nat} {cs : List AV} (h : closedL cs = true) : giveAll σ [.s ex n cs] = some (.s ex n cs) := giveAll_s h
theorem RR : (type_of% @adopt_two) ∧ (type_of% @adopt_none) ∧ (type_of% @give_two) ∧ (type_of% @give_p) ∧ (type_of% @give_a) ∧ (type_of% @give_s) ∧ (type_of% @evOp_app) ∧ (type_of% @appT_sl) ∧ (type_of% @appE_some) ∧ (type_of% @sc_wK) ∧ (type_of% @sc_s) ∧ (type_of% @adopt_row) ∧ (type_of% @adopt_agg) ∧ (type_of% @adopt_ptr) ∧ (type_of% @adopt_sl) ∧ (type_of% @strs_len) ∧ (type_of% @strs_closed) ∧ (type_of% @strs_leaf) ∧ (type_of% @ints_len) ∧ (type_of% @ints_closed) ∧ (type_of% @ints_leaf) :=
  ⟨@adopt_two, @adopt_none, @give_two, @give_p, @give_a, @give_s, @evOp_app, @appT_sl, @appE_some, @sc_wK, @sc_s, @adopt_row, @adopt_agg, @adopt_ptr, @adopt_sl, @strs_len, @strs_closed, @strs_leaf, @ints_len, @ints_closed, @ints_leaf⟩
end
end Go.Proofs.YtegbkihgnofkfaaGreatDoor.Ev

/-
The engine at this seat: modes and options.
-/
namespace Go.Proofs.YtegbkihgnofkfaaGreatDoor.Ev
section
set_option linter.unusedVariables false
set_option linter.unusedSimpArgs false
open Go Go.RowKit
/-- How functions are called: 0: what is reached of the arguments never changes any more; 1: of values alone; 2: what it is given may change. -/
def pf : FuncId → Nat := fun f => if f = 9 then 3 else if f = 10 then 2 else if f = 12 then 1 else if f = 13 then 2 else if f = 14 then 2 else if f = 15 then 1 else if f = 18 then 1 else if f = 25 then 2 else if f = 26 then 2 else if f = 29 then 1 else if f = 33 then 1 else if f = 34 then 2 else if f = 35 then 2 else if f = 38 then 1 else if f = 43 then 2 else if f = 47 then 1 else if f = 50 then 1 else if f = 51 then 2 else if f = 52 then 1 else if f = 55 then 1 else if f = 56 then 1 else if f = 57 then 2 else if f = 62 then 1 else if f = 76 then 1 else if f = 77 then 1 else if f = 84 then 2 else if f = 85 then 2 else if f = 86 then 2 else if f = 87 then 2 else if f = 101 then 2 else if f = 102 then 2 else if f = 103 then 2 else if f = 105 then 1 else if f = 126 then 1 else 0
def opt : FuncId → List Nat := fun f => if f = 36 then [oPl 52] else if f = 41 then [oBox 66, oReg 11] else if f = 95 then [oBox 80] else if f = 101 then [oLow 1, oHi 66] else if f = 102 then [oLow 6, oHi 66] else []
end
end Go.Proofs.YtegbkihgnofkfaaGreatDoor.Ev

/-
The engine at this seat: slices.Clone of a part of a row of pointers that is lent.
-/
namespace Go.Proofs.YtegbkihgnofkfaaGreatDoor.Ev
section
set_option linter.unusedVariables false
set_option linter.unusedSimpArgs false
open Go Go.RowKit Go.Lib
set_option linter.unusedVariables false
set_option linter.unusedSimpArgs false
set_option maxHeartbeats 2000000 in
set_option maxRecDepth 100000 in
theorem clone_some (ad : Addr) (n c : Nat) (zs : List Value) (w : World) (hz : zs.length = n) (hbig : n * 8 ≤ 140737488355328) (hc : ∀ (j : Nat) v, zs[j]? = some v → w.cell? (ad.add j) = some v) (h1 : ∀ u ∈ zs, u.oneCell' = true) :
    Calls Tryz.prog 51 #[.slice (some ad) n c] w fun e w' => ∃ v', e = .returned v' ∧ w'.ownsRow w.heap.size 78 1 v' n zs ∧ Below w.heap.size w w' := by
  have q46 : ∀ (w : World) (a : Option Addr) (n c n' c' : Nat), (binOp .eql 77 (.slice a n c) (.slice none n' c')).run Tryz.prog w = .ok (.bool a.isNone) w := fun w a n c n' c' => Lib.run_eql_slice_nil w _ _ a n c n' c' Tryz.underlying77
  obtain ⟨i0, hi, hz0, hz1, hz2⟩ := info_parts (P := Tryz.prog) (e := 78) (z := .pointer none) (size := 1) (bytes := 8) (by kernel_rfl)
  have A : Aside (∀ (j : Nat) v, zs[j]? = some v → w.cell? (ad.add j) = some v) := hc
  clear hc
  go_enter Tryz.func51, Tryz.ntmps51
  go_wp2_with (at_builtin; refine wpList_append_own _ rfl _ _ 77 rfl w.heap.size 78 i0 (.pointer none) 1 8 Tryz.underlying77 hi hz0 hz1 hz2 rfl (by decide) _ _ _ rfl (World.ownsRow_made w #[] 0 (Nat.le_refl _) (Nat.zero_le _) rfl) ad n c zs rfl ?qc1 ?qc2 ?qc3 ?qc4 ?qc5 ?qc6 ?_)
  case qc1 => omega
  case qc2 =>
    intro j u hj
    refine Lib.cell?_alloc_some _ ?_
    exact A.out j u hj
  case qc3 => exact h1
  case qc4 => unfold maxLen; omega
  case qc5 => omega
  case qc6 => simp
  intro v' w1 hown hgrow hnil
  go_wp2
  go_ret
  refine ⟨v', rfl, by simpa using hown, ?_⟩
  exact ((Below.refl _ w).alloc (Nat.le_refl _) _).grown hgrow (by simp) (by intro k hk; simp [Value.ownBlock] at hk; omega)
set_option maxHeartbeats 1000000 in
theorem clone_nil (n c : Nat) (w : World) : Calls Tryz.prog 51 #[.slice none n c] w fun e w' => e = .returned (.slice none 0 0) ∧ w' = w := by
  have q46 : ∀ (w : World) (a : Option Addr) (n c n' c' : Nat), (binOp .eql 77 (.slice a n c) (.slice none n' c')).run Tryz.prog w = .ok (.bool a.isNone) w := fun w a n c n' c' => Lib.run_eql_slice_nil w _ _ a n c n' c' Tryz.underlying77
  go_enter Tryz.func51, Tryz.ntmps51
  go_wp2
  go_ret
  exact ⟨rfl, rfl⟩
theorem cells_below {w w' : World} {V : Nat → Prop} (hb : Below w.heap.size w w') (hV : ∀ b, V b → b < w.heap.size) : Onto w (gV V) w' (gV V) :=
  ⟨fun _ h => h, fun b hb' => hb.block b (hV b hb'), fun _ h => h, fun _ _ => rfl⟩
theorem res1_below {w w' : World} {V : Nat → Prop} {E sz n : Nat} {cs : List AV} {u : Value} {B : List Nat} (hb : Below w.heap.size w w') (hV : ∀ b, V b → b < w.heap.size) (h : Res1 w V (.o E sz n cs) u B) : Res1 w' V (.o E sz n cs) u B := by
  obtain ⟨A, c, e1, e2, e3, e4, e5, e6, h⟩ := h
  refine ⟨A, c, e1, e2, e3, e4, e5, e6, ?_⟩
  rcases h with h | ⟨b, vs, g1, g2, g3, g4, g5, g6⟩
  · exact .inl h
  · have hlt : b < w.heap.size := (Array.getElem?_eq_some_iff.1 g3).1
    exact .inr ⟨b, vs, g1, g2, by rw [hb.block b hlt]; exact g3, g4, g5.onto (cells_below hb hV), g6⟩
/-- What is lent of a row, cloned. -/
theorem clone_ok (lo n N : Nat) (cs : List AV) (hlf : cs.all leafOk = true) (hln : lo + n ≤ N) (hbig : n * 8 ≤ 140737488355328) :
    LentOk Tryz.prog 51 [.t [.v (.bool false), ni lo, ni n, .o 78 1 N cs]] (.t [.o 78 1 n ((cs.drop lo).take n), .t [.t [.v (.bool false), ni lo, ni n, .o 78 1 N cs]]]) := by
  refine ⟨⟨_, Tryz.func51, by rfl, by rfl⟩, _, _, rfl, fun w V us crs B hV hL hnd => ?_⟩
  cases hL with
  | cons h k =>
    cases k
    cases h with
    | pl ht hc hr => exact absurd rfl (ht _)
    | row h hn h0 h1 =>
      rename_i B A0 c0 A c
      rw [List.append_nil] at hnd
      obtain ⟨A', c', e1, hlen, hNc, hcm, hsz, hcc, hrow⟩ := h
      have hR : Res1 w V (.o 78 1 N cs) (.slice A0 N c0) B := ⟨A', c', e1, hlen, hNc, hcm, hsz, hcc, hrow⟩
      simp only [Value.slice.injEq] at e1
      obtain ⟨rfl, -, rfl⟩ := e1
      have hcc2 : closedL ((cs.drop lo).take n) = true := by
        have e : cs = cs.take lo ++ ((cs.drop lo).take n ++ (cs.drop lo).drop n) := by rw [List.take_append_drop, List.take_append_drop]
        rw [e, closedL_append, closedL_append, Bool.and_eq_true, Bool.and_eq_true] at hcc
        exact hcc.2.1
      have hl2 : ((cs.drop lo).take n).length = n := by simp only [List.length_take, List.length_drop]; omega
      have hBw : ∀ b ∈ B, b < w.heap.size := by
        rcases hrow with ⟨_, rfl⟩ | ⟨b, vs, rfl, g2, g3, _⟩
        · intro b hb; cases hb
        · intro b' hb'
          simp only [List.mem_singleton] at hb'
          subst hb'
          exact (Array.getElem?_eq_some_iff.1 g3).1
      -- what comes back
      have hback : ∀ w' u B1, Below w.heap.size w w' → Res1 w' V (.o 78 1 n ((cs.drop lo).take n)) u B1 → B1.Nodup → (∀ b ∈ B1, w.heap.size ≤ b) →
          ∃ V' u' B1 B2, u = u' ∧ w'.os = w.os ∧ w'.tape = w.tape ∧ w'.output = w.output ∧ w.heap.size ≤ w'.heap.size ∧ (∀ k, k < w.heap.size → k ∉ B ++ [] → w'.heap[k]? = w.heap[k]?) ∧
          (∀ b, V b → V' b) ∧ (∀ b, V' b → (V b ∨ w.heap.size ≤ b ∨ b ∈ B ++ []) ∧ b < w'.heap.size) ∧ Res w' V' (.o 78 1 n ((cs.drop lo).take n)) u' B1 ∧ LentO w' V' [.t [.v (.bool false), ni lo, ni n, .o 78 1 N cs]] [.slice A n c] [⟨A0, c0⟩] B2 ∧ (B1 ++ B2).Nodup ∧ ∀ b ∈ B1 ++ B2, b ∈ B ++ [] ∨ w.heap.size ≤ b := by
        intro w' u B1 hbl hres hnd1 hB1
        refine ⟨V, u, B1, B ++ [], rfl, hbl.os, hbl.tape, hbl.output, hbl.size, fun k hk _ => hbl.block k hk, fun _ h => h, fun b hb => ⟨.inl hb, Nat.lt_of_lt_of_le (hV b hb) hbl.size⟩, hres, .cons (.row (res1_below hbl hV hR) hn h0 h1) .nil, ?_, ?_⟩
        · rw [List.append_nil]
          refine List.nodup_append.2 ⟨hnd1, hnd, fun b hb b' hb' e => ?_⟩
          have := hB1 b hb
          have := hBw b' hb'
          omega
        · intro b hb
          rw [List.append_nil] at hb ⊢
          rcases List.mem_append.1 hb with hb | hb
          · exact .inr (hB1 b hb)
          · exact .inl hb
      have hown : ∀ (w' : World) (v' : Value) (zs : List Value), Below w.heap.size w w' → w'.ownsRow w.heap.size 78 1 v' n zs → (∀ (j : Nat) (x : AV), ((cs.drop lo).take n)[j]? = some x → ∃ u, zs[j]? = some u ∧ Rep w (gV V) x u) → ∃ B1, Res1 w' V (.o 78 1 n ((cs.drop lo).take n)) v' B1 ∧ B1.Nodup ∧ ∀ b ∈ B1, w.heap.size ≤ b := by
        intro w' v' zs hbl ho hcell
        obtain ⟨hzl, ⟨rfl, hn0⟩ | ⟨g, cap, cur, rfl, hg, hgh, hcap, hcm, hcur, htake⟩⟩ := ho
        · subst hn0
          exact ⟨[], ⟨none, 0, rfl, by rw [hl2], Nat.le_refl _, by unfold maxLen; omega, by decide, hcc2, .inl ⟨rfl, rfl⟩⟩, List.nodup_nil, fun b hb => by cases hb⟩
        · refine ⟨[g], ⟨some ⟨g, 0, none⟩, cap, rfl, by rw [hl2, Nat.mul_one], hcap, hcm, by decide, hcc2, .inr ⟨g, cur, rfl, rfl, hgh, hcur, fun j x hj => ?_, fun hv => by have := hV g hv; omega⟩⟩, by simp, fun b hb => by simp only [List.mem_singleton] at hb; omega⟩
          obtain ⟨u, h2, h3⟩ := hcell j x hj
          refine ⟨u, ?_, h3.onto (cells_below hbl hV)⟩
          rw [← htake, List.getElem?_take] at h2
          split at h2
          · simpa using h2
          · cases h2
      by_cases hn0 : n = 0
      · subst hn0
        cases A with
        | none =>
          refine (clone_nil 0 c w).mono ?_
          rintro e w' ⟨rfl, rfl⟩
          obtain ⟨V', u', C1, C2, rfl, rest⟩ := hback w' _ [] (Below.refl _ _) ⟨none, 0, rfl, by simp, Nat.le_refl _, by unfold maxLen; omega, by decide, by simp [closedL],   .inl ⟨rfl, rfl⟩⟩ List.nodup_nil (fun b hb => by cases hb)
          exact ⟨V', _, C1, C2, rfl, rest⟩
        | some ad =>
          refine (clone_some ad 0 c [] w rfl (by omega) (fun j v hj => by simp at hj) (fun u hu => by cases hu)).mono ?_
          rintro e w' ⟨v', rfl, ho, hbl⟩
          obtain ⟨B1, k1, k2, k3⟩ := hown w' v' [] hbl ho (fun j x hj => by simp at hj)
          obtain ⟨V', u', C1, C2, rfl, rest⟩ := hback w' v' B1 hbl k1 k2 k3
          exact ⟨V', _, C1, C2, rfl, rest⟩
      · obtain ⟨b, rfl, rfl⟩ := h1 (by omega)
        rcases hrow with ⟨hc0, _⟩ | ⟨b', vs, rfl, g2, g3, g4, g5, g6⟩
        · omega
        · simp only [Option.some.injEq, Addr.mk.injEq, and_true] at g2
          subst g2
          have hvl : vs.toList.length = c0 := by simp [g4]
          have hzl : ((vs.toList.drop lo).take n).length = n := by simp only [List.length_take, List.length_drop, hvl]; omega
          have hzj : ∀ (j : Nat) v, ((vs.toList.drop lo).take n)[j]? = some v → j < n ∧ vs[lo + j]? = some v := by
            intro j v hj
            rw [List.getElem?_take] at hj
            split at hj
            · rename_i hlt
              rw [List.getElem?_drop] at hj
              exact ⟨hlt, by simpa using hj⟩
            · cases hj
          have hcj : ∀ (j : Nat) x, ((cs.drop lo).take n)[j]? = some x → j < n ∧ cs[lo + j]? = some x := by
            intro j x hj
            rw [List.getElem?_take] at hj
            split at hj
            · rename_i hlt
              rw [List.getElem?_drop] at hj
              exact ⟨hlt, hj⟩
            · cases hj
          refine (clone_some ⟨b, lo, none⟩ n c ((vs.toList.drop lo).take n) w hzl hbig (fun j v hj => ?_) (fun u hu => ?_)).mono ?_
          · obtain ⟨_, h2⟩ := hzj j v hj
            rw [Addr.add_lit, cell_at w b _ vs _ _ g3]
            exact h2
          · obtain ⟨j, hj⟩ := List.mem_iff_getElem?.1 hu
            obtain ⟨hlt, h2⟩ := hzj j u hj
            have hcl : lo + j < cs.length := by rw [hlen]; omega
            obtain ⟨u', h3, h4⟩ := g5 (lo + j) _ (List.getElem?_eq_getElem hcl)
            rw [h2] at h3
            obtain rfl := Option.some.inj h3
            exact leafOk_one h4 (List.all_eq_true.1 hlf _ (List.getElem_mem hcl))
          · rintro e w' ⟨v', rfl, ho, hbl⟩
            obtain ⟨B1, k1, k2, k3⟩ := hown w' v' _ hbl ho (fun j x hj => by
              obtain ⟨hlt, h2⟩ := hcj j x hj
              obtain ⟨u, h3, h4⟩ := g5 (lo + j) x h2
              refine ⟨u, ?_, h4⟩
              rw [List.getElem?_take, if_pos hlt, List.getElem?_drop]
              simpa using h3)
            obtain ⟨V', u', C1, C2, rfl, rest⟩ := hback w' v' B1 hbl k1 k2 k3
            exact ⟨V', _, C1, C2, rfl, rest⟩
theorem clone_ok0 : LentOk Tryz.prog 51 [.s true 0 []] (.t [.o 78 1 0 [], .t [.s true 0 []]]) := by
  refine ⟨⟨_, Tryz.func51, by rfl, by rfl⟩, _, _, rfl, fun w V us crs B hV hL hnd => ?_⟩
  cases hL with
  | cons h k =>
    cases k
    cases h with
    | pl ht hc hr =>
      have hback : ∀ w' u B1, Below w.heap.size w w' → Res1 w' V (.o 78 1 0 []) u B1 → B1.Nodup → (∀ b ∈ B1, w.heap.size ≤ b) → ∀ us0, Rep w (gV V) (.s true 0 []) us0 →
          ∃ V' u' B1 B2, u = u' ∧ w'.os = w.os ∧ w'.tape = w.tape ∧ w'.output = w.output ∧ w.heap.size ≤ w'.heap.size ∧ (∀ k, k < w.heap.size → k ∉ ([] ++ [] : List Nat) → w'.heap[k]? = w.heap[k]?) ∧
          (∀ b, V b → V' b) ∧ (∀ b, V' b → (V b ∨ w.heap.size ≤ b ∨ b ∈ ([] ++ [] : List Nat)) ∧ b < w'.heap.size) ∧ Res w' V' (.o 78 1 0 []) u' B1 ∧ LentO w' V' [.s true 0 []] [us0] [⟨none, 0⟩] B2 ∧ (B1 ++ B2).Nodup ∧ ∀ b ∈ B1 ++ B2, b ∈ ([] ++ [] : List Nat) ∨ w.heap.size ≤ b := by
        intro w' u B1 hbl hres hnd1 hB1 us0 hus
        refine ⟨V, u, B1, [] ++ [], rfl, hbl.os, hbl.tape, hbl.output, hbl.size, fun k hk _ => hbl.block k hk, fun _ h => h, fun b hb => ⟨.inl hb, Nat.lt_of_lt_of_le (hV b hb) hbl.size⟩, hres, .cons (.pl (by intro xs e; cases e) rfl (hus.onto (cells_below hbl hV))) .nil, ?_, ?_⟩
        · simpa using hnd1
        · intro b hb
          simp only [List.append_nil] at hb
          exact .inr (hB1 b hb)
      have hr2 := hr
      cases hr with
      | s ex n c cs A us hnc he k1 k2 =>
        cases A with
        | none =>
          refine (clone_nil 0 c w).mono ?_
          rintro e w' ⟨rfl, rfl⟩
          obtain ⟨V', u', C1, C2, rfl, rest⟩ := hback w' _ [] (Below.refl _ _) ⟨none, 0, rfl, by simp, Nat.le_refl _, by unfold maxLen; omega, by decide, by simp [closedL], .inl ⟨rfl, rfl⟩⟩ List.nodup_nil (fun b hb => by cases hb) _ hr2
          exact ⟨V', _, C1, C2, rfl, rest⟩
        | some ad =>
          refine (clone_some ad 0 c [] w rfl (by omega) (fun j v hj => by simp at hj) (fun u hu => by cases hu)).mono ?_
          rintro e w' ⟨v', rfl, ho, hbl⟩
          obtain ⟨hzl, ⟨rfl, hn0⟩ | ⟨g, cap, cur, rfl, hg, hgh, hcap, hcm, hcur, htake⟩⟩ := ho
          · obtain ⟨V', u', C1, C2, rfl, rest⟩ := hback w' _ [] hbl ⟨none, 0, rfl, by simp, Nat.le_refl _, by unfold maxLen; omega, by decide, by simp [closedL], .inl ⟨rfl, rfl⟩⟩ List.nodup_nil (fun b hb => by cases hb) _ hr2
            exact ⟨V', _, C1, C2, rfl, rest⟩
          · obtain ⟨V', u', C1, C2, rfl, rest⟩ := hback w' _ [g] hbl ⟨some ⟨g, 0, none⟩, cap, rfl, by simp, hcap, hcm, by decide, by simp [closedL], .inr ⟨g, cur, rfl, rfl, hgh, hcur, fun j x hj => by simp at hj, fun hv => by have := hV g hv; omega⟩⟩ (by simp) (fun b hb => by simp only [List.mem_singleton] at hb; omega) _ hr2
            exact ⟨V', _, C1, C2, rfl, rest⟩
/-- What is known of slices.Clone. -/
def handC (f : FuncId) (xs : List AV) : Option AV :=
  if f = 51 then (match xs with
    | [.s true 0 []] => some (.t [.o 78 1 0 [], .t [.s true 0 []]])
    | [.t [.v (.bool false), .v (.int .i64 lo), .v (.int .i64 n), .o E sz N cs]] =>
      if E = 78 ∧ sz = 1 ∧ 0 ≤ lo ∧ 0 ≤ n ∧ cs.all leafOk = true ∧ lo.toNat + n.toNat ≤ N ∧ n.toNat * 8 ≤ 140737488355328 then
        some (.t [.o 78 1 n.toNat ((cs.drop lo.toNat).take n.toNat), .t [.t [.v (.bool false), .v (.int .i64 lo), .v (.int .i64 n), .o E sz N cs]]])
      else none
    | _ => none) else none
theorem handC_ok (f : FuncId) (xs : List AV) (x : AV) (h : handC f xs = some x) : f = 51 ∧ LentOk Tryz.prog f xs x := by
  unfold handC at h
  split at h
  case isFalse => cases h
  rename_i hf
  subst hf
  refine ⟨rfl, ?_⟩
  split at h
  · obtain rfl := Option.some.inj h
    exact clone_ok0
  · split at h
    · rename_i hc
      obtain ⟨rfl, rfl, h1, h2, h3, h4, h5⟩ := hc
      obtain rfl := Option.some.inj h
      obtain ⟨lo', e1⟩ := Int.eq_ofNat_of_zero_le h1
      obtain ⟨n', e2⟩ := Int.eq_ofNat_of_zero_le h2
      subst e1
      subst e2
      exact clone_ok lo' n' _ _ h3 h4 h5
    · cases h
  · cases h
end
end Go.Proofs.YtegbkihgnofkfaaGreatDoor.Ev

/-
The engine at this seat: slices.Sort and slices.Compact of a row of texts that is lent.
-/
namespace Go.Proofs.YtegbkihgnofkfaaGreatDoor.Ev
section
set_option linter.unusedVariables false
set_option linter.unusedSimpArgs false
open Go Go.RowKit Go.Lib Go.Sort
set_option linter.unusedVariables false
set_option linter.unusedSimpArgs false
theorem lent_row1 {w : World} {V : Nat → Prop} {N E : Nat} {cs : List AV} {us : List Value} {crs : List CR} {B : List Nat} (h : LentL w V [lentR N E 1 cs] us crs B) :
    ∃ A c, us = [.slice A N c] ∧ crs = [⟨A, c⟩] ∧ Res1 w V (.o E 1 N cs) (.slice A N c) B := by
  cases h with
  | cons h k =>
    cases k
    generalize hq : lentR N E 1 cs = q at h
    cases h with
    | pl ht hc hr => exact absurd hq.symm (ht _)
    | ob => simp [lentR] at hq
    | pw => simp [lentR] at hq
    | @row lo n E' sz' N' cs' A0 c0 A c B h hn h0 h1 =>
      simp only [lentR, ni, AV.t.injEq, List.cons.injEq, AV.v.injEq, Value.int.injEq, AV.o.injEq, true_and, and_true] at hq
      obtain ⟨h2, h3, rfl, rfl, rfl, rfl⟩ := hq
      have h2' : lo = 0 := by omega
      have h3' : n = N := by omega
      subst h2'
      subst h3'
      obtain ⟨rfl, rfl⟩ := h0 rfl
      exact ⟨_, _, rfl, rfl, by rw [List.append_nil]; exact h⟩
theorem row_owns {w : World} {V : Nat → Prop} {E N c b : Nat} {L : List (List UInt8)} {vs : Array Value} (hl : L.length = N) (hN : N ≤ c) (hm : c ≤ maxLen) (h1 : w.heap[b]? = some (.cells vs E (0, 0))) (h2 : vs.size = c * 1) (h3 : Cells w (gV V) (strs L) vs) :
    w.ownsRow 0 E 1 (.slice (some ⟨b, 0, none⟩) N c) N (L.map encStr) := by
  refine ⟨by simp [hl], .inr ⟨b, c, vs, rfl, Nat.zero_le _, h1, hN, hm, h2, ?_⟩⟩
  apply List.ext_getElem?
  intro j
  rw [List.getElem?_take, List.getElem?_map]
  by_cases hj : j < N
  · rw [if_pos (by omega)]
    have hj2 : (strs L)[j]? = some (S (L[j]'(by omega))) := by rw [strs_get, List.getElem?_eq_getElem (by omega)]; rfl
    obtain ⟨u, g1, g2⟩ := h3 j _ hj2
    rw [show L[j]? = some (L[j]'(by omega)) from List.getElem?_eq_getElem (by omega)]
    rw [rep_v_inv g2] at g1
    simpa using g1
  · rw [if_neg (by omega), show L[j]? = none from List.getElem?_eq_none (by omega)]
    rfl
theorem owns_res {w' : World} {V : Nat → Prop} {E k c b : Nat} {M : List (List UInt8)} (ho : w'.ownsRow 0 E 1 (.slice (some ⟨b, 0, none⟩) k c) k (M.map encStr)) (hV : ¬ V b) : Res1 w' V (.o E 1 k (strs M)) (.slice (some ⟨b, 0, none⟩) k c) [b] := by
  obtain ⟨h1, ⟨h2, _⟩ | ⟨g, cap, cur, h2, h3, h4, h5, h6, h7, h8⟩⟩ := ho
  · cases h2
  · simp only [Value.slice.injEq, Option.some.injEq, Addr.mk.injEq, true_and, and_true] at h2
    obtain ⟨rfl, rfl⟩ := h2
    have hM : M.length = k := by simpa using h1
    refine ⟨_, _, rfl, by rw [strs_len, hM, Nat.mul_one], h5, h6, by decide, strs_closed _, .inr ⟨b, cur, rfl, rfl, h4, h7, fun j x hj => ?_, hV⟩⟩
    rw [strs_get] at hj
    obtain ⟨s, hs, rfl⟩ := Option.map_eq_some_iff.1 hj
    have hjk : j < k := by
      have := (List.getElem?_eq_some_iff.1 hs).1
      omega
    have := congrArg (fun z => z[j]?) h8
    simp only [List.getElem?_take, List.getElem?_map, hs, Option.map_some] at this
    rw [if_pos (by omega)] at this
    exact ⟨encStr s, by simpa using this, .v _⟩
theorem put_frame {w : World} {q b : Nat} {d : Array (List UInt8)} (k : Nat) (hk : k ≠ b) : (putRow encStr (Sort.ahead w q) b 0 d).heap[k]? = w.heap[k]? := by
  simp [putRow, mapBlock, Sort.ahead, Array.getElem?_modify, Ne.symm hk]
theorem put_size {w : World} {q b : Nat} {d : Array (List UInt8)} : (putRow encStr (Sort.ahead w q) b 0 d).heap.size = w.heap.size := by
  simp [putRow, mapBlock, Sort.ahead]
def sortS (L : List (List UInt8)) : List (List UInt8) := L.mergeSort fun x y => decide (x ≤ y)
theorem sort_ok (L : List (List UInt8)) (hL : L.length < 4611686018427387904) : LentOk Tryz.prog 34 [lentR L.length 9 1 (strs L)] (.t [.t [], .t [lentR L.length 9 1 (strs (sortS L))]]) := by
  refine ⟨⟨_, Tryz.func34, by rfl, by rfl⟩, _, _, rfl, fun w V us crs B hV hLL hnd => ?_⟩
  obtain ⟨A, c, rfl, rfl, hR⟩ := lent_row1 hLL
  have hR2 := hR
  obtain ⟨A', c', e1, hlen, hNc, hcm, hsz, hcc, hrow⟩ := hR
  simp only [Value.slice.injEq] at e1
  obtain ⟨rfl, -, rfl⟩ := e1
  by_cases hn0 : L.length = 0
  · have hLn : L = [] := by simpa using hn0
    subst hLn
    refine (Tryz.slices_Sort_string_none A c w).mono ?_
    rintro e w' ⟨rfl, rfl⟩
    refine ⟨V, _, [], B ++ [], rfl, rfl, rfl, rfl, Nat.le_refl _, fun _ _ _ => rfl, fun _ h => h, fun b hb => ⟨.inl hb, hV b hb⟩, ⟨#[], rfl, .nil⟩, .cons (by rw [show sortS [] = [] by simp [sortS]]; exact .row hR2 hNc (fun _ => ⟨rfl, rfl⟩) (fun h => absurd h (by simp))) .nil, by simpa using hnd, fun b hb => .inl (by simpa using hb)⟩
  · rcases hrow with ⟨hc0, _⟩ | ⟨b, vs, rfl, rfl, g3, g4, g5, g6⟩
    · omega
    · have hlt : b < w.heap.size := (Array.getElem?_eq_some_iff.1 g3).1
      have ho := row_owns (E := 9) rfl hNc hcm g3 g4 g5
      obtain ⟨g, cap, hg, _, _, _, _, _, hH⟩ := holds_of_ownsRow ho (by intro h; cases h)
      simp only [Value.slice.injEq, Option.some.injEq, Addr.mk.injEq, true_and, and_true] at hg
      obtain ⟨rfl, rfl⟩ := hg
      refine (Tryz.slices_Sort_string b 0 c L w hH hlt hL).mono ?_
      rintro e w' ⟨rfl, q, os, hw⟩
      have hw2 : w' = grow (putRow encStr (Sort.ahead w q) b 0 (sortS L).toArray) os := hw
      clear hw
      subst hw2
      have hsl : (sortS L).length = L.length := by simp [sortS, List.length_mergeSort]
      have ho2 := ownsRow_putRow (q := q) (k := L.length) (ys := sortS L) ho hsl (Nat.le_refl _)
      rw [List.take_of_length_le (by omega)] at ho2
      have hgr : ∀ k, k < w.heap.size → (grow (putRow encStr (Sort.ahead w q) b 0 (sortS L).toArray) os).heap[k]? = (putRow encStr (Sort.ahead w q) b 0 (sortS L).toArray).heap[k]? := by
        intro k hk
        simp only [grow]
        rw [Array.getElem?_append_left (by rw [put_size]; exact hk)]
      have ho3 : (grow (putRow encStr (Sort.ahead w q) b 0 (sortS L).toArray) os).ownsRow 0 9 1 (.slice (some ⟨b, 0, none⟩) L.length c) L.length ((sortS L).map encStr) := by
        obtain ⟨k1, ⟨k2, _⟩ | ⟨g, cap, cur, k2, k3, k4, k5, k6, k7, k8⟩⟩ := ho2
        · cases k2
        · simp only [Value.slice.injEq, Option.some.injEq, Addr.mk.injEq, true_and, and_true] at k2
          obtain ⟨rfl, rfl⟩ := k2
          exact ⟨k1, .inr ⟨b, c, cur, rfl, k3, by rw [hgr b hlt]; exact k4, k5, k6, k7, k8⟩⟩
      have hres := owns_res (V := V) ho3 g6
      refine ⟨V, _, [], [b] ++ [], rfl, rfl, rfl, rfl, ?_, fun k hk hkb => ?_, fun _ h => h, fun b' hb => ⟨.inl hb, ?_⟩, ⟨#[], rfl, .nil⟩, .cons (.row hres hNc (fun _ => ⟨rfl, rfl⟩) (fun _ => ⟨b, rfl, rfl⟩)) .nil, by simp, fun b' hb => .inl (by simpa using hb)⟩
      · simp only [grow, Array.size_append, put_size]; omega
      · rw [hgr k hk, put_frame k (by simpa using hkb)]
      · have := hV b' hb
        simp only [grow, Array.size_append, put_size]; omega
theorem compact_ok (L : List (List UInt8)) (hL : L.length < 4611686018427387904) : LentOk Tryz.prog 35 [lentR L.length 9 1 (strs L)] (.t [.o 9 1 (Lib.compact L).length (strs (Lib.compact L)), .t [.t []]]) := by
  refine ⟨⟨_, Tryz.func35, by rfl, by rfl⟩, _, _, rfl, fun w V us crs B hV hLL hnd => ?_⟩
  obtain ⟨A, c, rfl, rfl, hR⟩ := lent_row1 hLL
  have hR2 := hR
  obtain ⟨A', c', e1, hlen, hNc, hcm, hsz, hcc, hrow⟩ := hR
  simp only [Value.slice.injEq] at e1
  obtain ⟨rfl, -, rfl⟩ := e1
  by_cases hn0 : L.length = 0
  · have hLn : L = [] := by simpa using hn0
    subst hLn
    refine (Tryz.slices_Compact_string_empty A c w).mono ?_
    rintro e w' ⟨rfl, rfl⟩
    refine ⟨V, _, B, [], rfl, rfl, rfl, rfl, Nat.le_refl _, fun _ _ _ => rfl, fun _ h => h, fun b hb => ⟨.inl hb, hV b hb⟩, hR2, .gone .nil, by simpa using hnd, fun b hb => .inl (by simpa using hb)⟩
  · rcases hrow with ⟨hc0, _⟩ | ⟨b, vs, rfl, rfl, g3, g4, g5, g6⟩
    · omega
    · have hlt : b < w.heap.size := (Array.getElem?_eq_some_iff.1 g3).1
      have ho := row_owns (E := 9) rfl hNc hcm g3 g4 g5
      obtain ⟨g, cap, hg, _, _, _, _, _, hH⟩ := holds_of_ownsRow ho (by intro h; cases h)
      simp only [Value.slice.injEq, Option.some.injEq, Addr.mk.injEq, true_and, and_true] at hg
      obtain ⟨rfl, rfl⟩ := hg
      refine (Tryz.slices_Compact_string b 0 c L w hH (by omega) hNc).mono ?_
      rintro e w' ⟨rfl, q, rfl⟩
      have hcl : (Lib.compact L).length ≤ L.length := by
        unfold Lib.compact Lib.compactUpTo
        rw [List.length_map]
        have := List.length_filter_le (Lib.keeps L.toArray) (List.range L.length)
        simpa using this
      have ho2 := ownsRow_putRow (q := q) (k := (Lib.compact L).length) (ys := Lib.compact L ++ List.replicate (L.length - (Lib.compact L).length) []) ho (by simp; omega) hcl
      rw [List.take_append_of_le_length (Nat.le_refl _), List.take_length] at ho2
      have hres := owns_res (V := V) ho2 g6
      refine ⟨V, _, [b], [], rfl, rfl, rfl, rfl, ?_, fun k hk hkb => ?_, fun _ h => h, fun b' hb => ⟨.inl hb, ?_⟩, hres, .gone .nil, by simp, fun b' hb => .inl (by simpa using hb)⟩
      · rw [put_size]; exact Nat.le_refl _
      · rw [put_frame k (by simpa using hkb)]
      · have := hV b' hb
        rw [put_size]; exact this
theorem sort_ok0 : LentOk Tryz.prog 34 [.s true 0 []] (.t [.t [], .t [.s true 0 []]]) := by
  refine ⟨⟨_, Tryz.func34, by rfl, by rfl⟩, _, _, rfl, fun w V us crs B hV hL hnd => ?_⟩
  cases hL with
  | cons h k =>
    cases k
    cases h with
    | pl ht hc hr =>
      have hr2 := hr
      cases hr with
      | s ex n c cs A us hnc he k1 k2 =>
        refine (Tryz.slices_Sort_string_none A c w).mono ?_
        rintro e w' ⟨rfl, rfl⟩
        exact ⟨V, _, [], [] ++ [], rfl, rfl, rfl, rfl, Nat.le_refl _, fun _ _ _ => rfl, fun _ h => h, fun b hb => ⟨.inl hb, hV b hb⟩, ⟨#[], rfl, .nil⟩, .cons (.pl (by intro xs e; cases e) rfl hr2) .nil, by simp, fun b hb => by simp at hb⟩
theorem compact_ok0 : LentOk Tryz.prog 35 [.s true 0 []] (.t [.s true 0 [], .t [.s true 0 []]]) := by
  refine ⟨⟨_, Tryz.func35, by rfl, by rfl⟩, _, _, rfl, fun w V us crs B hV hL hnd => ?_⟩
  cases hL with
  | cons h k =>
    cases k
    cases h with
    | pl ht hc hr =>
      have hr2 := hr
      cases hr with
      | s ex n c cs A us hnc he k1 k2 =>
        refine (Tryz.slices_Compact_string_empty A c w).mono ?_
        rintro e w' ⟨rfl, rfl⟩
        exact ⟨V, _, [], [] ++ [], rfl, rfl, rfl, rfl, Nat.le_refl _, fun _ _ _ => rfl, fun _ h => h, fun b hb => ⟨.inl hb, hV b hb⟩, ⟨rfl, rfl, hr2⟩, .cons (.pl (by intro xs e; cases e) rfl hr2) .nil, by simp, fun b hb => by simp at hb⟩
end
end Go.Proofs.YtegbkihgnofkfaaGreatDoor.Ev

/-
The engine at this seat: what the shelf tells (strings.Contains, Index, Count with one byte, HasPrefix, Join).
-/
namespace Go.Proofs.YtegbkihgnofkfaaGreatDoor.Ev
section
set_option linter.unusedVariables false
set_option linter.unusedSimpArgs false
open Go Go.RowKit
set_option linter.unusedVariables false

/-- The texts that cells are. -/
def unSL : List AV → Option (List (List UInt8))
  | [] => some []
  | .v (.string s) :: xs => (unSL xs).map (s.data.toList :: ·)
  | _ => none
theorem unSL_strs : ∀ l, unSL (strs l) = some l
  | [] => rfl
  | x :: l => by simp only [strs_cons, unSL, unSL_strs l, Option.map_some]
theorem unSL_get : ∀ {cs : List AV} {l : List (List UInt8)}, unSL cs = some l → cs = strs l
  | [], l, h => by
    obtain rfl := Option.some.inj h
    rfl
  | c :: cs, l, h => by
    unfold unSL at h
    split at h
    · obtain rfl := Option.some.inj h; rename_i h2; cases h2
    · rename_i s xs h2
      obtain ⟨rfl, rfl⟩ := List.cons.inj h2
      obtain ⟨l', h3, rfl⟩ := Option.map_eq_some_iff.1 h
      rw [strs_cons, unSL_get h3]
    · cases h

def hand2 (f : FuncId) (s : ByteArray) (p : ByteArray) : Option AV :=
  if f = 105 then some (.v (.bool (Lib.hasPrefix s.data.toList p.data.toList)))
  else if f = 47 then (match p.data.toList with | [c] => some (.v (.bool (decide (0 ≤ Lib.indexByte s.data.toList c)))) | _ => none)
  else if f = 56 then (match p.data.toList with | [c] => some (.v (.int .i64 (Lib.indexByte s.data.toList c))) | _ => none)
  else if f = 55 then (match p.data.toList with | [c] => some (.v (.int .i64 (Lib.countByte s.data.toList c : Nat))) | _ => none)
  else none
def handJ (f : FuncId) (n : Nat) (cs : List AV) (sep : ByteArray) : Option AV :=
  if f = 16 then (unSL cs).bind fun l => if l.length = n ∧ n ≤ 140737488355328 ∧ (Lib.join l sep.data.toList).length ≤ 140737488355328 then some (.v (.string ⟨(Lib.join l sep.data.toList).toArray⟩)) else none else none
/-- What is known of slices.Sort and slices.Compact. -/
def handS (f : FuncId) (xs : List AV) : Option AV :=
  match xs with
  | [.s true 0 []] => if f = 34 then some (.t [.t [], .t [.s true 0 []]]) else if f = 35 then some (.t [.s true 0 [], .t [.s true 0 []]]) else none
  | [.t [.v (.bool false), .v (.int .i64 lo), .v (.int .i64 n), .o E sz N cs]] => (unSL cs).bind fun L =>
    if E = 9 ∧ sz = 1 ∧ lo = 0 ∧ n = (L.length : Int) ∧ N = L.length ∧ L.length < 4611686018427387904 then
      (if f = 34 then some (.t [.t [], .t [lentR L.length 9 1 (strs (sortS L))]])
      else if f = 35 then some (.t [.o 9 1 (Lib.compact L).length (strs (Lib.compact L)), .t [.t []]]) else none)
    else none
  | _ => none
theorem handS_ok (f : FuncId) (xs : List AV) (x : AV) (h : handS f xs = some x) : (f = 34 ∨ f = 35) ∧ LentOk Tryz.prog f xs x := by
  unfold handS at h
  split at h
  · split at h
    · rename_i hf
      subst hf
      obtain rfl := Option.some.inj h
      exact ⟨.inl rfl, sort_ok0⟩
    split at h
    · rename_i hf
      subst hf
      obtain rfl := Option.some.inj h
      exact ⟨.inr rfl, compact_ok0⟩
    · cases h
  · obtain ⟨L, hL, h2⟩ := Option.bind_eq_some_iff.1 h
    obtain rfl := unSL_get hL
    split at h2
    · rename_i hc
      obtain ⟨rfl, rfl, rfl, rfl, rfl, hlt⟩ := hc
      split at h2
      · rename_i hf
        subst hf
        obtain rfl := Option.some.inj h2
        exact ⟨.inl rfl, sort_ok L hlt⟩
      split at h2
      · rename_i hf
        subst hf
        obtain rfl := Option.some.inj h2
        exact ⟨.inr rfl, compact_ok L hlt⟩
      · cases h2
    · cases h2
  · cases h
def hand : Sem1 := fun f xs => match xs with
  | [.v (.string s), .v (.string p)] => hand2 f s p
  | [.s _ n cs, .v (.string sep)] => handJ f n cs sep
  | xs => match handC f xs with
    | some x => some x
    | none => handS f xs

theorem hand_mem (f : FuncId) (xs : List AV) (r : AV) (h : hand f xs = some r) : f = 105 ∨ f = 47 ∨ f = 56 ∨ f = 55 ∨ f = 16 ∨ f = 51 ∨ f = 34 ∨ f = 35 := by
  unfold hand at h
  split at h
  · unfold hand2 at h
    repeat' split at h
    all_goals first
      | (cases h; done)
      | simp_all
  · unfold handJ at h
    split at h
    · simp_all
    · cases h
  · split at h
    · rename_i hx
      have := (handC_ok _ _ _ hx).1
      simp_all
    · rcases (handS_ok _ _ _ h).1 with h | h <;> simp_all
theorem one_byte {p : ByteArray} {c : UInt8} (hc : p.data.toList = [c]) : p = ⟨#[c]⟩ := by
  cases p
  rename_i d
  simp only at hc
  rw [show d = d.toList.toArray from rfl, hc]
theorem hand2_ok (f : FuncId) (s p : ByteArray) (x : AV) (h : hand2 f s p = some x) : PureOk Tryz.prog f [.v (.string s), .v (.string p)] x := by
  unfold hand2 at h
  split at h
  · rename_i hf
    subst hf
    obtain rfl := Option.some.inj h
    exact pureOk_of_calls Tryz.func105 (by rfl) (by rfl) [.string s, .string p] _ fun w => Tryz.strings_HasPrefix s p w
  split at h
  · rename_i hf
    subst hf
    split at h
    · rename_i c hc
      obtain rfl := Option.some.inj h
      obtain rfl := one_byte hc
      exact pureOk_of_calls Tryz.func47 (by rfl) (by rfl) [.string s, .string ⟨#[c]⟩] _ fun w => Tryz.strings_Contains_one s c w
    · cases h
  split at h
  · rename_i hf
    subst hf
    split at h
    · rename_i c hc
      obtain rfl := Option.some.inj h
      obtain rfl := one_byte hc
      exact pureOk_of_calls Tryz.func56 (by rfl) (by rfl) [.string s, .string ⟨#[c]⟩] _ fun w => Tryz.strings_Index_one s c w
    · cases h
  split at h
  · rename_i hf
    subst hf
    split at h
    · rename_i c hc
      obtain rfl := Option.some.inj h
      obtain rfl := one_byte hc
      exact pureOk_of_calls Tryz.func55 (by rfl) (by rfl) [.string s, .string ⟨#[c]⟩] _ fun w => Tryz.strings_Count_one s c w
    · cases h
  · cases h
theorem spot_of_cell {w : World} {ad : Addr} {v : Value} (h : w.cell? ad = some v) : ad.spot = none := by
  unfold World.cell? at h
  cases hs : ad.spot with
  | none => rfl
  | some k =>
    rw [hs] at h
    split at h <;> simp at h
theorem handJ_ok (f : FuncId) (ex : Bool) (n : Nat) (cs : List AV) (sep : ByteArray) (x : AV) (h : handJ f n cs sep = some x) : PureOk Tryz.prog f [.s ex n cs, .v (.string sep)] x := by
  unfold handJ at h
  split at h
  case isFalse => cases h
  rename_i hf
  subst hf
  obtain ⟨l, hl, h2⟩ := Option.bind_eq_some_iff.1 h
  clear h
  split at h2
  case isFalse => cases h2
  rename_i hc
  obtain ⟨rfl, hn, hb⟩ := hc
  obtain rfl := Option.some.inj h2
  obtain rfl := unSL_get hl
  refine ⟨⟨_, Tryz.func16, by rfl, by rfl⟩, fun w V us hV hlen hr => ?_⟩
  obtain ⟨u0, u1, rfl⟩ : ∃ u0 u1, us = [u0, u1] := by
    match us, hlen with
    | [u0, u1], _ => exact ⟨_, _, rfl⟩
  have h0 := hr 0 _ u0 rfl rfl
  have h1 := rep_v_inv (hr 1 _ u1 rfl rfl)
  subst h1
  cases h0 with
  | s _ _ c _ A us hnc he k1 k2 =>
    have hfin : ∀ w', Below w.heap.size w w' → ∃ V' u B, (.string ⟨(Lib.join l sep.data.toList).toArray⟩ : Value) = u ∧ Below w.heap.size w w' ∧ (∀ b, V b → V' b) ∧ (∀ b, V' b → (V b ∨ w.heap.size ≤ b) ∧ b < w'.heap.size) ∧ Res w' V' (.v (.string ⟨(Lib.join l sep.data.toList).toArray⟩)) u B ∧ B.Nodup ∧ ∀ b ∈ B, w.heap.size ≤ b ∧ b < w'.heap.size := fun w' hbl =>
      ⟨V, _, [], rfl, hbl, fun _ h => h, fun b hb => ⟨.inl hb, Nat.lt_of_lt_of_le (hV b hb) hbl.size⟩, ⟨rfl, rfl, .v _⟩, List.nodup_nil, fun b hb => by cases hb⟩
    have hmap : l.map (fun s => (⟨s.toArray⟩ : ByteArray).data.toList) = l := by simp
    by_cases hnil : l = []
    · subst hnil
      refine (Tryz.strings_Join_none A c sep w).mono ?_
      rintro e w' ⟨rfl, rfl⟩
      obtain ⟨V', u, B, rfl, k⟩ := hfin w' (Below.refl _ _)
      exact ⟨V', _, B, rfl, k⟩
    · obtain ⟨s0, l', rfl⟩ : ∃ s0 l', l = s0 :: l' := by cases l <;> simp_all
      obtain ⟨ad, rfl, hVa, hc0⟩ := k1 0 _ rfl
      have hcell : ∀ (j : Nat) s, (s0 :: l')[j]? = some s → w.cell? (ad.add j) = some (.string ⟨s.toArray⟩) := by
        intro j s hj
        have hj2 : (strs (s0 :: l'))[j]? = some (S s) := by rw [strs_get, hj]; rfl
        obtain ⟨ad2, e2, _, h5⟩ := k1 j _ hj2
        obtain rfl := Option.some.inj e2
        rw [h5, rep_v_inv (k2 j _ hj2)]
      have h00 := hcell 0 s0 rfl
      rw [Addr.add, if_pos rfl] at h00
      have hsp := spot_of_cell h00
      obtain ⟨bk, o, sp⟩ := ad
      simp only at hsp
      subst hsp
      have hj := Tryz.strings_Join bk o c ((s0 :: l').map fun s => ⟨s.toArray⟩) sep w (fun j x hx => by
        rw [List.getElem?_map] at hx
        obtain ⟨s, hs, rfl⟩ := Option.map_eq_some_iff.1 hx
        have := hcell j s hs
        unfold Addr.add at this
        by_cases hj0 : j = 0
        · subst hj0
          simpa using this
        · simpa [hj0] using this) (hV _ hVa) (by simpa using hn) (by simpa using hnc) (by simpa [List.map_map, Function.comp_def] using hb)
      simp only [List.length_map, List.map_map, Function.comp_def] at hj
      rw [hmap] at hj
      refine hj.mono ?_
      rintro e w' ⟨rfl, hbl⟩
      obtain ⟨V', u, B, rfl, k⟩ := hfin w' hbl
      exact ⟨V', _, B, rfl, k⟩
theorem hand2_mem (f : FuncId) (s p : ByteArray) (x : AV) (h : hand2 f s p = some x) : ¬ (pf f = 2 ∨ pf f = 4) ∧ pf f ≠ 3 := by
  unfold hand2 at h
  split at h
  · rename_i hf; rw [hf]; decide
  split at h
  · rename_i hf; rw [hf]; decide
  split at h
  · rename_i hf; rw [hf]; decide
  split at h
  · rename_i hf; rw [hf]; decide
  · cases h
theorem handJ_mem (f : FuncId) (n : Nat) (cs : List AV) (sep : ByteArray) (x : AV) (h : handJ f n cs sep = some x) : ¬ (pf f = 2 ∨ pf f = 4) ∧ pf f ≠ 3 := by
  unfold handJ at h
  split at h
  · rename_i hf; rw [hf]; decide
  · cases h
theorem hand_ok (f : FuncId) (xs : List AV) (x : AV) (h : hand f xs = some x) : FOk Tryz.prog pf f xs x := by
  unfold FOk
  unfold hand at h
  split at h
  · rw [if_neg (hand2_mem _ _ _ _ h).1, if_neg (hand2_mem _ _ _ _ h).2]
    exact hand2_ok _ _ _ _ h
  · rw [if_neg (handJ_mem _ _ _ _ _ h).1, if_neg (handJ_mem _ _ _ _ _ h).2]
    exact handJ_ok _ _ _ _ _ _ h
  · split at h
    · rename_i hx
      obtain rfl := Option.some.inj h
      obtain ⟨rfl, hl⟩ := handC_ok _ _ _ hx
      rw [if_pos (by decide)]
      exact hl
    · obtain ⟨h1, hl⟩ := handS_ok _ _ _ h
      rw [if_pos (by rcases h1 with rfl | rfl <;> decide)]
      exact hl
end
end Go.Proofs.YtegbkihgnofkfaaGreatDoor.Ev

/-
The engine at this seat: modes of calls, options, what functions give (EE), the rows of types.
-/
namespace Go.Proofs.YtegbkihgnofkfaaGreatDoor.Ev
section
set_option linter.unusedVariables false
set_option linter.unusedSimpArgs false
open Go Go.RowKit
set_option linter.unusedVariables false
/-- Functions that the hand knows are not run. -/
noncomputable def TT : FuncId → Option (Func × Code) := fun f => if f = 47 ∨ f = 105 ∨ f = 56 ∨ f = 55 ∨ f = 16 ∨ f = 51 ∨ f = 34 ∨ f = 35 then none else fitT Tryz.prog pf opt (fun _ _ => []) f
noncomputable def II : Tab := tabOf Tryz.prog
theorem follows_ok : Tryz.prog.follows .mixedOrders = true := by kernel_rfl
theorem le_of_ble {a b : Nat} (h : Nat.ble a b = true) : a ≤ b := Nat.le_of_ble_eq_true h
theorem size_ok : Tryz.prog.funcs.size ≤ 1000000000 := le_of_ble (a := Tryz.prog.funcs.size) (by kernel_rfl)
noncomputable def EE : Sem1 := evAll II TT hand pf opt
theorem hand_none (f : FuncId) (xs : List AV) (r : AV) (h : hand f xs = some r) : TT f = none := by
  have := hand_mem f xs r h
  unfold TT
  rw [if_pos]
  rcases this with rfl | rfl | rfl | rfl | rfl | rfl | rfl | rfl | rfl | rfl <;> simp
theorem EE_ok (f : FuncId) (xs : List AV) (x : AV) (h : EE f xs = some x) : FOk Tryz.prog pf f xs x :=
  evAll_sound hand_none (fun k f xs x hk => evCall_sound size_ok (tabOf_ok _) follows_ok (fun _ _ => []) (fun f fn c hT => by
    unfold TT at hT
    split at hT
    · cases hT
    · exact fitT_ok f fn c hT) hand_ok k f xs x hk) f xs x h
theorem EE_hand {f : FuncId} {xs : List AV} {r : AV} (h : hand f xs = some r) : EE f xs = some r := evAll_hand hand_none h
/-- A function's code. -/
def bodyOf (fn : Func) : Code := match fn.body with | some c => c | none => .skip
/-- The body of loop number i of a function. -/
def bodyL (fn : Func) (i : Nat) : Code := (loops (strip (bodyOf fn))).getD i .skip
/-- How many rounds a loop may take. -/
def MX : Nat := 2 ^ 64
theorem EE_plain {f : FuncId} {fn : Func} {args : List AV} {r : AV} (hT : TT f = some (fn, bodyOf fn)) (hp : pf f ≠ 2 ∧ pf f ≠ 3 ∧ pf f ≠ 4) (h1 : args.length ≤ fn.ntmps) (h2 : closedL args = true)
    (h : (evC II EE (withOpt (opt f) pf) MX (strip (bodyOf fn)) (St.init args)).bind (resK II fn.results.toList) = some r) : EE f args = some r :=
  evAll_plain hand_none hT hp (evF_eq h1 h2 (by rw [← evC_strip]; exact h))
/-- The same for loops of few rounds. -/
theorem EE_few (m : Nat) {f : FuncId} {fn : Func} {args : List AV} {r : AV} (hT : TT f = some (fn, bodyOf fn)) (hp : pf f ≠ 2 ∧ pf f ≠ 3 ∧ pf f ≠ 4) (h1 : args.length ≤ fn.ntmps) (h2 : closedL args = true)
    (h : (evC II EE (withOpt (opt f) pf) m (strip (bodyOf fn)) (St.init args)).bind (resK II fn.results.toList) = some r) : EE f args = some r :=
  evAll_plain hand_none hT hp (evF_eq h1 h2 (by rw [← evC_strip]; exact h))
theorem EE_new {f : FuncId} {fn : Func} {args : List AV} {r : AV} (hT : TT f = some (fn, bodyOf fn)) (hp : pf f = 3) (h1 : args.length ≤ fn.ntmps) (h2 : closedL args = true)
    (h : (evC II EE (withOpt (opt f) pf) MX (strip (bodyOf fn)) (St.init args)).bind (newK II fn.results.toList) = some r) : EE f args = some r :=
  evAll_new hand_none hT hp (evN_eq h1 h2 (by rw [← evC_strip]; exact h))
theorem EE_lent {f : FuncId} {fn : Func} {args : List AV} {r : AV} (hT : TT f = some (fn, bodyOf fn)) (hp : pf f = 2) (h : evM II EE (withOpt (opt f) pf) MX fn (bodyOf fn) args = some r) : EE f args = some r :=
  evAll_lent hand_none hT hp h
theorem EE_lend {f : FuncId} {fn : Func} {T : Nat} {cs xs : List AV} {r : AV} (hT : TT f = some (fn, bodyOf fn)) (hp : pf f = 2) (hN : xs.length + 1 ≤ fn.ntmps) (hc : closedL cs = true) (hx : xs.all goes = true)
    (h : (evC II EE (withOpt (opt f) pf) MX (strip (bodyOf fn)) ⟨fun t => (.r 0 0 :: xs).getD t (.v undef), upd (fun _ => none) 0 (some (.ob T cs)), 1⟩).bind (outK II fn.results.toList (.r 0 0 :: xs)) = some r) : EE f (lent T cs :: xs) = some r :=
  EE_lent hT hp (by rw [evM_run hN hc hx, ← evC_strip]; exact h)
theorem I3 : II 3 = some ⟨.int .i64, 1, 8, [.int .i64 0]⟩ := by kernel_rfl
theorem I4 : II 4 = some ⟨.bool, 1, 1, [.bool false]⟩ := by kernel_rfl
theorem I5 : II 5 = some ⟨.int .u8, 1, 1, [.int .u8 0]⟩ := by kernel_rfl
theorem I9 : II 9 = some ⟨.str, 1, 16, [.string { data := #[] }]⟩ := by kernel_rfl
theorem I21 : II 21 = some ⟨.int .i32, 1, 4, [.int .i32 0]⟩ := by kernel_rfl
theorem I22 : II 22 = some ⟨.sl 5, 1, 24, [.slice none 0 0]⟩ := by kernel_rfl
theorem I27 : II 27 = some ⟨.sl 9, 1, 24, [.slice none 0 0]⟩ := by kernel_rfl
theorem I29 : II 29 = some ⟨.sl 3, 1, 24, [.slice none 0 0]⟩ := by kernel_rfl
theorem I33 : II 33 = some ⟨.ptr 48, 1, 8, [.pointer none]⟩ := by kernel_rfl
theorem I48 : II 48 = some ⟨.st [(0, 22), (1, 3)], 2, 32, [.slice none 0 0, .int .i64 0]⟩ := by kernel_rfl
theorem I52 : II 52 = some ⟨.ptr 54, 1, 8, [.pointer none]⟩ := by kernel_rfl
theorem I54 : II 54 = some ⟨.st [(0, 52), (1, 22)], 2, 32, [.pointer none, .slice none 0 0]⟩ := by kernel_rfl
theorem I64 : II 64 = some ⟨.sl 66, 1, 24, [.slice none 0 0]⟩ := by kernel_rfl
theorem I66 : II 66 = some ⟨.st [(0, 5), (1, 5), (2, 64)], 3, 32, [.int .u8 0, .int .u8 0, .slice none 0 0]⟩ := by kernel_rfl
theorem I72 : II 72 = some ⟨.ptr 5, 1, 8, [.pointer none]⟩ := by kernel_rfl
theorem I76 : II 76 = some ⟨.int .u64, 1, 8, [.int .u64 0]⟩ := by kernel_rfl
theorem I77 : II 77 = some ⟨.sl 78, 1, 24, [.slice none 0 0]⟩ := by kernel_rfl
theorem I78 : II 78 = some ⟨.ptr 80, 1, 8, [.pointer none]⟩ := by kernel_rfl
theorem I80 : II 80 = some ⟨.st [(0, 9), (1, 9), (2, 77)], 3, 56, [.string { data := #[] }, .string { data := #[] }, .slice none 0 0]⟩ := by kernel_rfl
theorem I85 : II 85 = some ⟨.ptr 87, 1, 8, [.pointer none]⟩ := by kernel_rfl
theorem I87 : II 87 = some ⟨.st [(0, 9), (1, 3), (2, 4)], 3, 32, [.string { data := #[] }, .int .i64 0, .bool false]⟩ := by kernel_rfl
theorem I97 : II 97 = some ⟨.int .i64, 1, 8, [.int .i64 0]⟩ := by kernel_rfl
theorem I105 : II 105 = some ⟨.int .u32, 1, 4, [.int .u32 0]⟩ := by kernel_rfl
theorem I107 : II 107 = some ⟨.int .u64, 1, 8, [.int .u64 0]⟩ := by kernel_rfl
theorem I116 : II 116 = some ⟨.ptr 118, 1, 8, [.pointer none]⟩ := by kernel_rfl
theorem I118 : II 118 = some ⟨.st [(0, 64), (1, 27), (2, 29)], 3, 72, [.slice none 0 0, .slice none 0 0, .slice none 0 0]⟩ := by kernel_rfl
theorem I119 : II 119 = some ⟨.int .u64, 1, 8, [.int .u64 0]⟩ := by kernel_rfl
theorem I123 : II 123 = some ⟨.ptr 3, 1, 8, [.pointer none]⟩ := by kernel_rfl
theorem I135 : II 135 = some ⟨.st [(0, 5), (1, 5)], 2, 2, [.int .u8 0, .int .u8 0]⟩ := by kernel_rfl
theorem I136 : II 136 = some ⟨.arr 16 135, 32, 32, [.int .u8 0, .int .u8 0, .int .u8 0, .int .u8 0, .int .u8 0, .int .u8 0, .int .u8 0, .int .u8 0, .int .u8 0, .int .u8 0, .int .u8 0, .int .u8 0, .int .u8 0, .int .u8 0, .int .u8 0, .int .u8 0, .int .u8 0, .int .u8 0, .int .u8 0, .int .u8 0, .int .u8 0, .int .u8 0, .int .u8 0, .int .u8 0, .int .u8 0, .int .u8 0, .int .u8 0, .int .u8 0, .int .u8 0, .int .u8 0, .int .u8 0, .int .u8 0]⟩ := by kernel_rfl
theorem pf0 : pf 0 = 0 := rfl
theorem pf1 : pf 1 = 0 := rfl
theorem pf2 : pf 2 = 0 := rfl
theorem pf3 : pf 3 = 0 := rfl
theorem pf4 : pf 4 = 0 := rfl
theorem pf5 : pf 5 = 0 := rfl
theorem pf6 : pf 6 = 0 := rfl
theorem pf7 : pf 7 = 0 := rfl
theorem pf8 : pf 8 = 0 := rfl
theorem pf9 : pf 9 = 3 := rfl
theorem pf10 : pf 10 = 2 := rfl
theorem pf11 : pf 11 = 0 := rfl
theorem pf12 : pf 12 = 1 := rfl
theorem pf13 : pf 13 = 2 := rfl
theorem pf14 : pf 14 = 2 := rfl
theorem pf15 : pf 15 = 1 := rfl
theorem pf16 : pf 16 = 0 := rfl
theorem pf17 : pf 17 = 0 := rfl
theorem pf18 : pf 18 = 1 := rfl
theorem pf19 : pf 19 = 0 := rfl
theorem pf20 : pf 20 = 0 := rfl
theorem pf21 : pf 21 = 0 := rfl
theorem pf22 : pf 22 = 0 := rfl
theorem pf23 : pf 23 = 0 := rfl
theorem pf24 : pf 24 = 0 := rfl
theorem pf25 : pf 25 = 2 := rfl
theorem pf26 : pf 26 = 2 := rfl
theorem pf27 : pf 27 = 0 := rfl
theorem pf28 : pf 28 = 0 := rfl
theorem pf29 : pf 29 = 1 := rfl
theorem pf30 : pf 30 = 0 := rfl
theorem pf31 : pf 31 = 0 := rfl
theorem pf32 : pf 32 = 0 := rfl
theorem pf33 : pf 33 = 1 := rfl
theorem pf34 : pf 34 = 2 := rfl
theorem pf35 : pf 35 = 2 := rfl
theorem pf36 : pf 36 = 0 := rfl
theorem pf37 : pf 37 = 0 := rfl
theorem pf38 : pf 38 = 1 := rfl
theorem pf39 : pf 39 = 0 := rfl
theorem pf40 : pf 40 = 0 := rfl
theorem pf41 : pf 41 = 0 := rfl
theorem pf42 : pf 42 = 0 := rfl
theorem pf43 : pf 43 = 2 := rfl
theorem pf44 : pf 44 = 0 := rfl
theorem pf45 : pf 45 = 0 := rfl
theorem pf46 : pf 46 = 0 := rfl
theorem pf47 : pf 47 = 1 := rfl
theorem pf48 : pf 48 = 0 := rfl
theorem pf49 : pf 49 = 0 := rfl
theorem pf50 : pf 50 = 1 := rfl
theorem pf51 : pf 51 = 2 := rfl
theorem pf52 : pf 52 = 1 := rfl
theorem pf53 : pf 53 = 0 := rfl
theorem pf54 : pf 54 = 0 := rfl
theorem pf55 : pf 55 = 1 := rfl
theorem pf56 : pf 56 = 1 := rfl
theorem pf57 : pf 57 = 2 := rfl
theorem pf58 : pf 58 = 0 := rfl
theorem pf59 : pf 59 = 0 := rfl
theorem pf60 : pf 60 = 0 := rfl
theorem pf61 : pf 61 = 0 := rfl
theorem pf62 : pf 62 = 1 := rfl
theorem pf63 : pf 63 = 0 := rfl
theorem pf64 : pf 64 = 0 := rfl
theorem pf65 : pf 65 = 0 := rfl
theorem pf66 : pf 66 = 0 := rfl
theorem pf67 : pf 67 = 0 := rfl
theorem pf68 : pf 68 = 0 := rfl
theorem pf69 : pf 69 = 0 := rfl
theorem pf70 : pf 70 = 0 := rfl
theorem pf71 : pf 71 = 0 := rfl
theorem pf72 : pf 72 = 0 := rfl
theorem pf73 : pf 73 = 0 := rfl
theorem pf74 : pf 74 = 0 := rfl
theorem pf75 : pf 75 = 0 := rfl
theorem pf76 : pf 76 = 1 := rfl
theorem pf77 : pf 77 = 1 := rfl
theorem pf78 : pf 78 = 0 := rfl
theorem pf79 : pf 79 = 0 := rfl
theorem pf80 : pf 80 = 0 := rfl
theorem pf81 : pf 81 = 0 := rfl
theorem pf82 : pf 82 = 0 := rfl
theorem pf83 : pf 83 = 0 := rfl
theorem pf84 : pf 84 = 2 := rfl
theorem pf85 : pf 85 = 2 := rfl
theorem pf86 : pf 86 = 2 := rfl
theorem pf87 : pf 87 = 2 := rfl
theorem pf88 : pf 88 = 0 := rfl
theorem pf89 : pf 89 = 0 := rfl
theorem pf90 : pf 90 = 0 := rfl
theorem pf91 : pf 91 = 0 := rfl
theorem pf92 : pf 92 = 0 := rfl
theorem pf93 : pf 93 = 0 := rfl
theorem pf94 : pf 94 = 0 := rfl
theorem pf95 : pf 95 = 0 := rfl
theorem pf96 : pf 96 = 0 := rfl
theorem pf97 : pf 97 = 0 := rfl
theorem pf98 : pf 98 = 0 := rfl
theorem pf99 : pf 99 = 0 := rfl
theorem pf100 : pf 100 = 0 := rfl
theorem pf101 : pf 101 = 2 := rfl
theorem pf102 : pf 102 = 2 := rfl
theorem pf103 : pf 103 = 2 := rfl
theorem pf104 : pf 104 = 0 := rfl
theorem pf105 : pf 105 = 1 := rfl
theorem pf106 : pf 106 = 0 := rfl
theorem pf107 : pf 107 = 0 := rfl
theorem pf108 : pf 108 = 0 := rfl
theorem pf109 : pf 109 = 0 := rfl
theorem pf110 : pf 110 = 0 := rfl
theorem pf111 : pf 111 = 0 := rfl
theorem pf112 : pf 112 = 0 := rfl
theorem pf113 : pf 113 = 0 := rfl
theorem pf114 : pf 114 = 0 := rfl
theorem pf115 : pf 115 = 0 := rfl
theorem pf116 : pf 116 = 0 := rfl
theorem pf117 : pf 117 = 0 := rfl
theorem pf118 : pf 118 = 0 := rfl
theorem pf119 : pf 119 = 0 := rfl
theorem pf120 : pf 120 = 0 := rfl
theorem pf121 : pf 121 = 0 := rfl
theorem pf122 : pf 122 = 0 := rfl
theorem pf123 : pf 123 = 0 := rfl
theorem pf124 : pf 124 = 0 := rfl
theorem pf125 : pf 125 = 0 := rfl
theorem pf126 : pf 126 = 1 := rfl
theorem pf127 : pf 127 = 0 := rfl
theorem pf128 : pf 128 = 0 := rfl
theorem pf129 : pf 129 = 0 := rfl
theorem pf130 : pf 130 = 0 := rfl
theorem pf131 : pf 131 = 0 := rfl
theorem pf132 : pf 132 = 0 := rfl
theorem IA : (((((type_of% @I3) ∧ ((type_of% @I4) ∧ (type_of% @I5))) ∧ (((type_of% @I9) ∧ (type_of% @I21)) ∧ ((type_of% @I22) ∧ (type_of% @I27)))) ∧ ((((type_of% @I29) ∧ (type_of% @I33)) ∧ ((type_of% @I48) ∧ (type_of% @I52))) ∧ (((type_of% @I54) ∧ (type_of% @I64)) ∧ ((type_of% @I66) ∧ (type_of% @I72))))) ∧ ((((type_of% @I76) ∧ ((type_of% @I77) ∧ (type_of% @I78))) ∧ (((type_of% @I80) ∧ (type_of% @I85)) ∧ ((type_of% @I87) ∧ (type_of% @I97)))) ∧ ((((type_of% @I105) ∧ (type_of% @I107)) ∧ ((type_of% @I116) ∧ (type_of% @I118))) ∧ (((type_of% @I119) ∧ (type_of% @I123)) ∧ ((type_of% @I135) ∧ (type_of% @I136)))))) := ⟨⟨⟨⟨@I3, ⟨@I4, @I5⟩⟩, ⟨⟨@I9, @I21⟩, ⟨@I22, @I27⟩⟩⟩, ⟨⟨⟨@I29, @I33⟩, ⟨@I48, @I52⟩⟩, ⟨⟨@I54, @I64⟩, ⟨@I66, @I72⟩⟩⟩⟩, ⟨⟨⟨@I76, ⟨@I77, @I78⟩⟩, ⟨⟨@I80, @I85⟩, ⟨@I87, @I97⟩⟩⟩, ⟨⟨⟨@I105, @I107⟩, ⟨@I116, @I118⟩⟩, ⟨⟨@I119, @I123⟩, ⟨@I135, @I136⟩⟩⟩⟩⟩
theorem PA : ((((((((type_of% @pf0) ∧ (type_of% @pf1)) ∧ ((type_of% @pf2) ∧ (type_of% @pf3))) ∧ (((type_of% @pf4) ∧ (type_of% @pf5)) ∧ ((type_of% @pf6) ∧ (type_of% @pf7)))) ∧ ((((type_of% @pf8) ∧ (type_of% @pf9)) ∧ ((type_of% @pf10) ∧ (type_of% @pf11))) ∧ (((type_of% @pf12) ∧ (type_of% @pf13)) ∧ ((type_of% @pf14) ∧ (type_of% @pf15))))) ∧ (((((type_of% @pf16) ∧ (type_of% @pf17)) ∧ ((type_of% @pf18) ∧ (type_of% @pf19))) ∧ (((type_of% @pf20) ∧ (type_of% @pf21)) ∧ ((type_of% @pf22) ∧ (type_of% @pf23)))) ∧ ((((type_of% @pf24) ∧ (type_of% @pf25)) ∧ ((type_of% @pf26) ∧ (type_of% @pf27))) ∧ (((type_of% @pf28) ∧ (type_of% @pf29)) ∧ ((type_of% @pf30) ∧ ((type_of% @pf31) ∧ (type_of% @pf32))))))) ∧ ((((((type_of% @pf33) ∧ (type_of% @pf34)) ∧ ((type_of% @pf35) ∧ (type_of% @pf36))) ∧ (((type_of% @pf37) ∧ (type_of% @pf38)) ∧ ((type_of% @pf39) ∧ (type_of% @pf40)))) ∧ ((((type_of% @pf41) ∧ (type_of% @pf42)) ∧ ((type_of% @pf43) ∧ (type_of% @pf44))) ∧ (((type_of% @pf45) ∧ (type_of% @pf46)) ∧ ((type_of% @pf47) ∧ (type_of% @pf48))))) ∧ (((((type_of% @pf49) ∧ (type_of% @pf50)) ∧ ((type_of% @pf51) ∧ (type_of% @pf52))) ∧ (((type_of% @pf53) ∧ (type_of% @pf54)) ∧ ((type_of% @pf55) ∧ (type_of% @pf56)))) ∧ ((((type_of% @pf57) ∧ (type_of% @pf58)) ∧ ((type_of% @pf59) ∧ (type_of% @pf60))) ∧ (((type_of% @pf61) ∧ (type_of% @pf62)) ∧ ((type_of% @pf63) ∧ ((type_of% @pf64) ∧ (type_of% @pf65)))))))) ∧ (((((((type_of% @pf66) ∧ (type_of% @pf67)) ∧ ((type_of% @pf68) ∧ (type_of% @pf69))) ∧ (((type_of% @pf70) ∧ (type_of% @pf71)) ∧ ((type_of% @pf72) ∧ (type_of% @pf73)))) ∧ ((((type_of% @pf74) ∧ (type_of% @pf75)) ∧ ((type_of% @pf76) ∧ (type_of% @pf77))) ∧ (((type_of% @pf78) ∧ (type_of% @pf79)) ∧ ((type_of% @pf80) ∧ (type_of% @pf81))))) ∧ (((((type_of% @pf82) ∧ (type_of% @pf83)) ∧ ((type_of% @pf84) ∧ (type_of% @pf85))) ∧ (((type_of% @pf86) ∧ (type_of% @pf87)) ∧ ((type_of% @pf88) ∧ (type_of% @pf89)))) ∧ ((((type_of% @pf90) ∧ (type_of% @pf91)) ∧ ((type_of% @pf92) ∧ (type_of% @pf93))) ∧ (((type_of% @pf94) ∧ (type_of% @pf95)) ∧ ((type_of% @pf96) ∧ ((type_of% @pf97) ∧ (type_of% @pf98))))))) ∧ ((((((type_of% @pf99) ∧ (type_of% @pf100)) ∧ ((type_of% @pf101) ∧ (type_of% @pf102))) ∧ (((type_of% @pf103) ∧ (type_of% @pf104)) ∧ ((type_of% @pf105) ∧ (type_of% @pf106)))) ∧ ((((type_of% @pf107) ∧ (type_of% @pf108)) ∧ ((type_of% @pf109) ∧ (type_of% @pf110))) ∧ (((type_of% @pf111) ∧ (type_of% @pf112)) ∧ ((type_of% @pf113) ∧ ((type_of% @pf114) ∧ (type_of% @pf115)))))) ∧ (((((type_of% @pf116) ∧ (type_of% @pf117)) ∧ ((type_of% @pf118) ∧ (type_of% @pf119))) ∧ (((type_of% @pf120) ∧ (type_of% @pf121)) ∧ ((type_of% @pf122) ∧ (type_of% @pf123)))) ∧ ((((type_of% @pf124) ∧ (type_of% @pf125)) ∧ ((type_of% @pf126) ∧ (type_of% @pf127))) ∧ (((type_of% @pf128) ∧ (type_of% @pf129)) ∧ ((type_of% @pf130) ∧ ((type_of% @pf131) ∧ (type_of% @pf132))))))))) := ⟨⟨⟨⟨⟨⟨⟨@pf0, @pf1⟩, ⟨@pf2, @pf3⟩⟩, ⟨⟨@pf4, @pf5⟩, ⟨@pf6, @pf7⟩⟩⟩, ⟨⟨⟨@pf8, @pf9⟩, ⟨@pf10, @pf11⟩⟩, ⟨⟨@pf12, @pf13⟩, ⟨@pf14, @pf15⟩⟩⟩⟩, ⟨⟨⟨⟨@pf16, @pf17⟩, ⟨@pf18, @pf19⟩⟩, ⟨⟨@pf20, @pf21⟩, ⟨@pf22, @pf23⟩⟩⟩, ⟨⟨⟨@pf24, @pf25⟩, ⟨@pf26, @pf27⟩⟩, ⟨⟨@pf28, @pf29⟩, ⟨@pf30, ⟨@pf31, @pf32⟩⟩⟩⟩⟩⟩, ⟨⟨⟨⟨⟨@pf33, @pf34⟩, ⟨@pf35, @pf36⟩⟩, ⟨⟨@pf37, @pf38⟩, ⟨@pf39, @pf40⟩⟩⟩, ⟨⟨⟨@pf41, @pf42⟩, ⟨@pf43, @pf44⟩⟩, ⟨⟨@pf45, @pf46⟩, ⟨@pf47, @pf48⟩⟩⟩⟩, ⟨⟨⟨⟨@pf49, @pf50⟩, ⟨@pf51, @pf52⟩⟩, ⟨⟨@pf53, @pf54⟩, ⟨@pf55, @pf56⟩⟩⟩, ⟨⟨⟨@pf57, @pf58⟩, ⟨@pf59, @pf60⟩⟩, ⟨⟨@pf61, @pf62⟩, ⟨@pf63, ⟨@pf64, @pf65⟩⟩⟩⟩⟩⟩⟩, ⟨⟨⟨⟨⟨⟨@pf66, @pf67⟩, ⟨@pf68, @pf69⟩⟩, ⟨⟨@pf70, @pf71⟩, ⟨@pf72, @pf73⟩⟩⟩, ⟨⟨⟨@pf74, @pf75⟩, ⟨@pf76, @pf77⟩⟩, ⟨⟨@pf78, @pf79⟩, ⟨@pf80, @pf81⟩⟩⟩⟩, ⟨⟨⟨⟨@pf82, @pf83⟩, ⟨@pf84, @pf85⟩⟩, ⟨⟨@pf86, @pf87⟩, ⟨@pf88, @pf89⟩⟩⟩, ⟨⟨⟨@pf90, @pf91⟩, ⟨@pf92, @pf93⟩⟩, ⟨⟨@pf94, @pf95⟩, ⟨@pf96, ⟨@pf97, @pf98⟩⟩⟩⟩⟩⟩, ⟨⟨⟨⟨⟨@pf99, @pf100⟩, ⟨@pf101, @pf102⟩⟩, ⟨⟨@pf103, @pf104⟩, ⟨@pf105, @pf106⟩⟩⟩, ⟨⟨⟨@pf107, @pf108⟩, ⟨@pf109, @pf110⟩⟩, ⟨⟨@pf111, @pf112⟩, ⟨@pf113, ⟨@pf114, @pf115⟩⟩⟩⟩⟩, ⟨⟨⟨⟨@pf116, @pf117⟩, ⟨@pf118, @pf119⟩⟩, ⟨⟨@pf120, @pf121⟩, ⟨@pf122, @pf123⟩⟩⟩, ⟨⟨⟨@pf124, @pf125⟩, ⟨@pf126, @pf127⟩⟩, ⟨⟨@pf128, @pf129⟩, ⟨@pf130, ⟨@pf131, @pf132⟩⟩⟩⟩⟩⟩⟩⟩
end
end Go.Proofs.YtegbkihgnofkfaaGreatDoor.Ev

/-
The engine, part 33: slices that grow in loops; cells of a row that are written.
-/
namespace Go.Proofs.YtegbkihgnofkfaaGreatDoor.Ev
section
set_option linter.unusedVariables false
set_option linter.unusedSimpArgs false
open Go Go.RowKit
set_option linter.unusedVariables false
set_option linter.unusedSimpArgs false
variable {I : Tab} {C : Sem1} {pf : FuncId → Nat} {m : Nat} {e : Nat → AV} {σ : Sto} {key : Nat}

/-- A slice that was made empty or grown here: n elements, the cells cs. -/
def Lst (σ : Sto) (nx E sz : Nat) (v : AV) (n : Nat) (cs : List AV) : Prop :=
  (v = .s true 0 [] ∧ n = 0 ∧ cs = []) ∨ ∃ id, id < nx ∧ v = .w id 0 n ∧ σ id = some (.row E sz n cs) ∧ cs.length = n * sz
/-- The store behind an append. -/
def appSto (σ : Sto) (key E sz : Nat) (v : AV) (n : Nat) (cs : List AV) : Sto :=
  match v with
  | .w id _ _ => upd (upd σ id none) key (some (.row E sz n cs))
  | _ => upd σ key (some (.row E sz n cs))
theorem appSto_key (E sz : Nat) (v : AV) (n : Nat) (cs : List AV) : appSto σ key E sz v n cs key = some (.row E sz n cs) := by
  cases v <;> simp [appSto, upd]
theorem appSto_other {E sz : Nat} {v : AV} {n : Nat} {cs : List AV} {i : Nat} (h1 : i ≠ key) (h2 : ∀ id lo k, v = .w id lo k → i ≠ id) : appSto σ key E sz v n cs i = σ i := by
  cases v
  case w id lo k => simp [appSto, upd, h1, h2 id lo k rfl]
  all_goals simp [appSto, upd, h1]
theorem lst_app {nx E sz by_ : Nat} {k : TK} {z : List Value} {v : AV} {n m : Nat} {cs news : List AV} (h : Lst σ nx E sz v n cs) (h1 : 0 < sz) (h2 : news.length = m * sz) (h3 : news.all leafOk = true) (h4 : m ≠ 0) (h5 : (n + m) * by_ ≤ 140737488355328) (h6 : n + m ≤ 9223372036854775807) (hk : nx ≤ key) :
    appK σ key E ⟨k, sz, by_, z⟩ v (some (m, news)) = some (.w key 0 (n + m), appSto σ key E sz v (n + m) (cs ++ news)) := by
  rcases h with ⟨rfl, rfl, rfl⟩ | ⟨id, hid, rfl, hσ, hl⟩
  · rw [app_s h1 h2 h3 (by simp) h6 h5 (.inl h4)]
    rfl
  · rw [app_w hσ h1 h2 h3 hl h6 h5 (by omega)]
    rfl
theorem lst_key {E sz : Nat} {v : AV} {n nx : Nat} {cs : List AV} (hl : cs.length = n * sz) (hk : key < nx) : Lst (appSto σ key E sz v n cs) nx E sz (.w key 0 n) n cs := .inr ⟨key, hk, rfl, appSto_key E sz v n cs, hl⟩
theorem lst_nil (σ : Sto) (nx E sz : Nat) : Lst σ nx E sz (.s true 0 []) 0 [] := .inl ⟨rfl, rfl, rfl⟩
theorem lst_mono {nx nx' E sz : Nat} {v : AV} {n : Nat} {cs : List AV} (h : Lst σ nx E sz v n cs) (hn : nx ≤ nx') : Lst σ nx' E sz v n cs := by
  rcases h with h | ⟨id, h1, h2⟩
  · exact .inl h
  · exact .inr ⟨id, by omega, h2⟩
/-- What a function hands over that way: a row, or the empty slice that it made. -/
def lstR (E sz n : Nat) (cs : List AV) (v : AV) : AV := match v with | .w .. => .o E sz n cs | v => v
theorem give_lst {nx E sz : Nat} {v : AV} {n : Nat} {cs : List AV} (h : Lst σ nx E sz v n cs) (hc : closedL cs = true) : giveAll σ [v] = some (lstR E sz n cs v) := by
  rcases h with ⟨rfl, rfl, rfl⟩ | ⟨id, _, rfl, hσ, _⟩
  · exact giveAll_s rfl
  · exact give_row hσ hc
theorem lstR_pos {nx E sz : Nat} {v : AV} {n : Nat} {cs : List AV} (h : Lst σ nx E sz v n cs) (hn : n ≠ 0) : lstR E sz n cs v = .o E sz n cs := by
  rcases h with ⟨rfl, rfl, rfl⟩ | ⟨id, _, rfl, hσ, _⟩
  · exact absurd rfl hn
  · rfl
theorem len_lst {nx E sz : Nat} {v : AV} {n : Nat} {cs : List AV} (h : Lst σ nx E sz v n cs) {t : Nat} {a b : Nat} {c : List Value} : lenK σ v (some ⟨.sl t, a, b, c⟩) = some (N n, σ) := by
  rcases h with ⟨rfl, rfl, rfl⟩ | ⟨id, _, rfl, hσ, _⟩ <;> rfl
/-- The front of a row. -/
theorem cut_w_hi (sz : Nat) (id lo n : Nat) (k : IntKind) (i : Int) : cut sz (.w id lo n) none (some (.v (.int k i))) = if 0 ≤ i ∧ i ≤ (n : Int) then some (.w id lo i.toNat) else none := by
  simp only [cut, bound]
  split
  · simp
  · rfl
theorem cut_w_lo (sz : Nat) (id lo n : Nat) (k : IntKind) (i : Int) : cut sz (.w id lo n) (some (.v (.int k i))) none = if 0 ≤ i ∧ i ≤ (n : Int) then some (.w id (lo + i.toNat * sz) (n - i.toNat)) else none := by
  simp only [cut, bound, Option.bind_some]
  split
  · simp
  · rfl
/-- A cell written. -/
theorem set_at {pre post : List AV} {x y : AV} {i : Nat} (h : pre.length = i) : setRange (pre ++ x :: post) i [y] = some (pre ++ y :: post) := by
  subst h
  rw [setRange_eq, if_pos (by simp)]
  simp
end
end Go.Proofs.YtegbkihgnofkfaaGreatDoor.Ev

/-
The engine, part 34: objects that are lent with rows of their own.
-/
namespace Go.Proofs.YtegbkihgnofkfaaGreatDoor.Ev
section
set_option linter.unusedVariables false
set_option linter.unusedSimpArgs false
open Go Go.RowKit
set_option linter.unusedVariables false
set_option linter.unusedSimpArgs false
section
variable {I : Tab} {C : Sem1} {pf : FuncId → Nat} {m : Nat} {e : Nat → AV} {σ : Sto} {key : Nat}

/-- A row of an object: is it there, its elements' type, how many cells each, how many, the cells. -/
structure RS where
  b : Bool
  E : Nat
  sz : Nat
  n : Nat
  cs : List AV
def rsV (o : RS) : AV := if o.b = true then .o o.E o.sz o.n o.cs else .s true 0 []
def rsOk (o : RS) : Prop := o.cs.length = o.n * o.sz ∧ closedL o.cs = true ∧ (o.b = false → o.n = 0 ∧ o.cs = [])
/-- Cells of an object that are rows, and their numbers. -/
inductive RwL (σ : Sto) : List RS → List AV → List Nat → Prop
  | nil : RwL σ [] [] []
  | no {o : RS} {os : List RS} {ds : List AV} {L : List Nat} (h : rsOk o) (hb : o.b = false) (k : RwL σ os ds L) : RwL σ (o :: os) (.s true 0 [] :: ds) L
  | yes {o : RS} {os : List RS} {ds : List AV} {L : List Nat} {r : Nat} (h : rsOk o) (hb : o.b = true) (hσ : σ r = some (.row o.E o.sz o.n o.cs)) (k : RwL σ os ds L) : RwL σ (o :: os) (.w r 0 o.n :: ds) (r :: L)
theorem leafP_row {r E sz n : Nat} {cs : List AV} (hσ : σ r = some (.row E sz n cs)) (hc : closedL cs = true) : leafP σ (.w r 0 n) = some (.o E sz n cs, [r]) := by
  simp only [leafP, hσ, Nat.le_refl, if_true, tk]
  have h2 : deepC (deep σ 8) cs = some (cs, []) := deepL_closed 8 hc
  rw [h2]
  simp
theorem RwL.leaf : ∀ {os : List RS} {ds : List AV} {L : List Nat}, RwL σ os ds L → deepC (leafP σ) ds = some (os.map rsV, L)
  | _, _, _, .nil => rfl
  | _, _, _, .no h hb k => by
    simp only [deepC, leaf_closed (show closed (.s true 0 []) = true from rfl), Option.bind_some, k.leaf, Option.map_some, List.map_cons, rsV, hb, List.nil_append]
    rfl
  | _, _, _, .yes h hb hσ k => by
    simp only [deepC, leafP_row hσ h.2.1, Option.bind_some, k.leaf, Option.map_some, List.map_cons, rsV, hb, if_true, List.singleton_append]
theorem RwL.frame {σ' : Sto} : ∀ {os : List RS} {ds : List AV} {L : List Nat}, RwL σ os ds L → (∀ r ∈ L, σ' r = σ r) → RwL σ' os ds L
  | _, _, _, .nil, _ => .nil
  | _, _, _, .no h hb k, hr => .no h hb (k.frame hr)
  | _, _, _, .yes h hb hσ k, hr => .yes h hb (by rw [hr _ (List.mem_cons_self ..), hσ]) (k.frame fun r h => hr r (List.mem_cons_of_mem _ h))
theorem RwL.ok : ∀ {os : List RS} {ds : List AV} {L : List Nat}, RwL σ os ds L → ∀ o ∈ os, rsOk o
  | _, _, _, .nil, o, h => by cases h
  | _, _, _, .no h hb k, o, ho => by
    rcases List.mem_cons.1 ho with rfl | ho
    · exact h
    · exact k.ok o ho
  | _, _, _, .yes h hb hσ k, o, ho => by
    rcases List.mem_cons.1 ho with rfl | ho
    · exact h
    · exact k.ok o ho
theorem rowsIn_rs : ∀ (os : List RS) (σ : Sto) (k : Nat), (∀ o ∈ os, rsOk o) → ∃ ds σ1 k1 L, rowsIn σ k (os.map rsV) = (ds, σ1, k1) ∧ RwL σ1 os ds L ∧ L.Nodup ∧ (∀ r ∈ L, k ≤ r ∧ r < k1) ∧ k ≤ k1 ∧ k1 ≤ k + os.length ∧ ∀ j, (j < k ∨ k1 ≤ j) → σ1 j = σ j
  | [], σ, k, _ => ⟨[], σ, k, [], rfl, .nil, List.nodup_nil, fun r h => absurd h List.not_mem_nil, Nat.le_refl _, Nat.le_refl _, fun _ _ => rfl⟩
  | o :: os, σ, k, hok => by
    have ho := hok o (List.mem_cons_self ..)
    have hos : ∀ o ∈ os, rsOk o := fun o h => hok o (List.mem_cons_of_mem _ h)
    cases hb : o.b
    · obtain ⟨ds, σ1, k1, L, h1, h2, h3, h4, h5, h6, h7⟩ := rowsIn_rs os σ k hos
      refine ⟨.s true 0 [] :: ds, σ1, k1, L, ?_, .no ho hb h2, h3, h4, h5, by simp only [List.length_cons]; omega, h7⟩
      have : rsV o = .s true 0 [] := by simp [rsV, hb]
      rw [List.map_cons, this]
      simp only [rowsIn, h1]
    · obtain ⟨ds, σ1, k1, L, h1, h2, h3, h4, h5, h6, h7⟩ := rowsIn_rs os (upd σ k (some (.row o.E o.sz o.n o.cs))) (k + 1) hos
      refine ⟨.w k 0 o.n :: ds, σ1, k1, k :: L, ?_, .yes ho hb (by rw [h7 k (.inl (by omega))]; simp [upd]) h2, ?_, ?_, by omega, by simp only [List.length_cons]; omega, ?_⟩
      · have : rsV o = .o o.E o.sz o.n o.cs := by simp [rsV, hb]
        rw [List.map_cons, this]
        simp only [rowsIn, h1]
      · exact List.nodup_cons.2 ⟨fun h => by have := (h4 k h).1; omega, h3⟩
      · intro r hr
        rcases List.mem_cons.1 hr with rfl | hr
        · omega
        · have := h4 r hr; omega
      · intro j hj
        rw [h7 j (by omega), upd, if_neg (by omega)]
/-- A call that is lent an object with rows. -/
theorem call_ob_rows {f : FuncId} {id T : Nat} {ds ps xs : List AV} {L : List Nat} {os' : List RS} {x : AV} {T' : Nat} (hp : pf f = 2) (hσ : σ id = some (.ob T ds)) (hl : deepC (leafP σ) ds = some (ps, L)) (hn : (id :: L).Nodup) (hx : xs.all goes = true) (hid : id < key)
    (hr : C f (lent T ps :: xs) = some (.t [x, .t (lent T' (os'.map rsV) :: xs)])) (hok : ∀ o ∈ os', rsOk o) (h1 : closed x = true) (h2 : os'.length + room x ≤ 4) :
    ∃ ds' L' σ', callOp C pf σ key f (.r id 0 :: xs) = some (x, σ') ∧ σ' id = some (.ob T' ds') ∧ RwL σ' os' ds' L' ∧ (id :: L').Nodup ∧ (∀ r ∈ L', key ≤ r ∧ r < key + 4) ∧ ∀ j, j ≠ id → j ∉ L → (j < key ∨ key + 4 ≤ j) → σ' j = σ j := by
  obtain ⟨ds', σ1, k1, L', g1, g2, g3, g4, g5, g6, g7⟩ := rowsIn_rs os' (killL σ (id :: L)) key hok
  refine ⟨ds', L', upd σ1 id (some (.ob T' ds')), ?_, by simp [upd], ?_, ?_, fun r hr => ⟨(g4 r hr).1, by have := (g4 r hr).2; omega⟩, ?_⟩
  · rw [call2_eq hp]
    have e1 : needs σ (.r id 0 :: xs) = [] := by
      simp only [needs, needs_goes hx, List.append_nil]
      rfl
    have e2 : deepC (pack1 σ) (.r id 0 :: xs) = some (lent T ps :: xs, id :: L) := by
      simp only [deepC, pack1, hσ, hl, Option.map_some, Option.bind_some, packL_goes hx, List.append_nil]
    rw [e1]
    simp only [frz0, e2, Option.bind_some, lend1]
    rw [if_pos hn, hr]
    simp only [Option.bind_some, lend2, e1, frz0, back, lent, ni, g1, Int.toNat_natCast, back_goes hx]
    rw [if_pos (by omega)]
    cases x
    case t ys =>
      simp only [adopt]
      rw [if_pos (by simpa only [closed] using h1)]
    case o => simp [closed] at h1
    all_goals simp only [adopt, adopt1_closed h1]
  · exact g2.frame fun r hr => by
      have := (g4 r hr).1
      simp only [upd]
      rw [if_neg (by omega)]
  · exact List.nodup_cons.2 ⟨fun h => by have := (g4 id h).1; omega, g3⟩
  · intro j hj hjL hk
    simp only [upd, if_neg hj]
    rw [g7 j (by omega)]
    simp [killL, hj, hjL]
/-- The store behind a call that was lent an object with rows. -/
def aftS (σ : Sto) (key id : Nat) (L : List Nat) (T' : Nat) (os' : List RS) : Sto := upd (rowsIn (killL σ (id :: L)) key (os'.map rsV)).2.1 id (some (.ob T' (rowsIn (killL σ (id :: L)) key (os'.map rsV)).1))
/-- The same as an equation. -/
theorem call_ob_eq {f : FuncId} {id T : Nat} {ds ps xs : List AV} {L : List Nat} {os' : List RS} {x : AV} {T' : Nat} (hp : pf f = 2) (hσ : σ id = some (.ob T ds)) (hl : deepC (leafP σ) ds = some (ps, L)) (hn : (id :: L).Nodup) (hx : xs.all goes = true)
    (hr : C f (lent T ps :: xs) = some (.t [x, .t (lent T' (os'.map rsV) :: xs)])) (hok : ∀ o ∈ os', rsOk o) (h1 : closed x = true) (h2 : os'.length + room x ≤ 4) :
    callOp C pf σ key f (.r id 0 :: xs) = some (x, aftS σ key id L T' os') := by
  obtain ⟨ds', σ1, k1, L', g1, g2, g3, g4, g5, g6, g7⟩ := rowsIn_rs os' (killL σ (id :: L)) key hok
  unfold aftS
  rw [call2_eq hp]
  have e1 : needs σ (.r id 0 :: xs) = [] := by
    simp only [needs, needs_goes hx, List.append_nil]
    rfl
  have e2 : deepC (pack1 σ) (.r id 0 :: xs) = some (lent T ps :: xs, id :: L) := by
    simp only [deepC, pack1, hσ, hl, Option.map_some, Option.bind_some, packL_goes hx, List.append_nil]
  rw [e1]
  simp only [frz0, e2, Option.bind_some, lend1]
  rw [if_pos hn, hr]
  simp only [Option.bind_some, lend2, e1, frz0, back, lent, ni, g1, Int.toNat_natCast, back_goes hx]
  rw [if_pos (by omega)]
  cases x
  case t ys =>
    simp only [adopt]
    rw [if_pos (by simpa only [closed] using h1)]
  case o => simp [closed] at h1
  all_goals simp only [adopt, adopt1_closed h1]
theorem aft_facts {id T' : Nat} {L : List Nat} {os' : List RS} (hok : ∀ o ∈ os', rsOk o) (hid : id < key) :
    ∃ ds' L', aftS σ key id L T' os' id = some (.ob T' ds') ∧ RwL (aftS σ key id L T' os') os' ds' L' ∧ (id :: L').Nodup ∧ (∀ r ∈ L', key ≤ r ∧ r < key + os'.length) ∧ ∀ j, j ≠ id → j ∉ L → (j < key ∨ key + os'.length ≤ j) → aftS σ key id L T' os' j = σ j := by
  obtain ⟨ds', σ1, k1, L', g1, g2, g3, g4, g5, g6, g7⟩ := rowsIn_rs os' (killL σ (id :: L)) key hok
  have e : aftS σ key id L T' os' = upd σ1 id (some (.ob T' ds')) := by unfold aftS; rw [g1]
  rw [e]
  refine ⟨ds', L', by simp [upd], ?_, ?_, fun r hr => ⟨(g4 r hr).1, by have := (g4 r hr).2; omega⟩, ?_⟩
  · exact g2.frame fun r hr => by
      have := (g4 r hr).1
      simp only [upd]
      rw [if_neg (by omega)]
  · exact List.nodup_cons.2 ⟨fun h => by have := (g4 id h).1; omega, g3⟩
  · intro j hj hjL hk
    simp only [upd, if_neg hj]
    rw [g7 j (by omega)]
    simp [killL, hj, hjL]
theorem aft_of {τ : Sto} {id T' : Nat} {L : List Nat} {os' : List RS} (hτ : aftS σ key id L T' os' = τ) (hok : ∀ o ∈ os', rsOk o) (hid : id < key) :
    ∃ ds' L', τ id = some (.ob T' ds') ∧ RwL τ os' ds' L' ∧ (id :: L').Nodup ∧ (∀ r ∈ L', key ≤ r ∧ r < key + os'.length) ∧ ∀ j, j ≠ id → j ∉ L → (j < key ∨ key + os'.length ≤ j) → τ j = σ j := by
  subst hτ
  exact aft_facts hok hid
/-- A function that is lent an object with rows. -/
theorem evM_rows {fn : Func} {c : Code} {T : Nat} {os : List RS} {xs : List AV} (hN : xs.length + 1 ≤ fn.ntmps) (hok : ∀ o ∈ os, rsOk o) (hx : xs.all goes = true) :
    ∃ ds σ k L, RwL σ os ds L ∧ (0 :: L).Nodup ∧ σ 0 = some (.ob T ds) ∧ (∀ r ∈ L, 1 ≤ r ∧ r < k) ∧ 1 ≤ k ∧ k ≤ 1 + os.length ∧ evM I C pf m fn c (lent T (os.map rsV) :: xs) = (evC I C pf m c ⟨fun t => (.r 0 0 :: xs).getD t (.v undef), σ, k⟩).bind (outK I fn.results.toList (.r 0 0 :: xs)) := by
  obtain ⟨ds, σ1, k1, L, g1, g2, g3, g4, g5, g6, g7⟩ := rowsIn_rs os (fun _ => none) 1 hok
  refine ⟨ds, upd σ1 0 (some (.ob T ds)), k1, L, g2.frame fun r hr => ?_, List.nodup_cons.2 ⟨fun h => by have := (g4 0 h).1; omega, g3⟩, by simp [upd], g4, g5, g6, ?_⟩
  · have := (g4 r hr).1
    simp only [upd]
    rw [if_neg (by omega)]
  unfold evM
  simp only [lent, ni, inits, g1, inits_goes hx, Int.toNat_natCast]
  rw [if_pos ⟨by simpa using hN, by simp⟩]
  congr 1
  funext ⟨x, s⟩
  cases x <;> rfl
theorem packO_rows {T : Nat} {ds xs : List AV} {ps : List AV} {L : List Nat} (hσ : σ 0 = some (.ob T ds)) (hl : deepC (leafP σ) ds = some (ps, L)) (hx : xs.all goes = true) : deepC (packO σ) (.r 0 0 :: xs) = some (lent T ps :: xs, 0 :: L) := by
  simp only [deepC, packO, hσ, pack1, hl, Option.map_some, Option.bind_some, packOL_goes hx, List.append_nil]
theorem out_rows_one {rs : List ResultVar} {xs : List AV} {s : St} {x : AV} {T : Nat} {ds : List AV} {ps : List AV} {L : List Nat} (h1 : evRes I s rs = some [x]) (h2 : goes x = true) (hσ : s.σ 0 = some (.ob T ds)) (hl : deepC (leafP s.σ) ds = some (ps, L)) (hn : (0 :: L).Nodup) (hx : xs.all goes = true) :
    outK I rs (.r 0 0 :: xs) (.ret, s) = some (.t [x, .t (lent T ps :: xs)]) := by
  have h3 : giveL s.σ [x] = some ([x], [], []) := giveL_closed (by simp only [closedL, goes_closed h2, Bool.and_self])
  simp only [outK, h1, Option.bind_some, h3, packO_rows hσ hl hx]
  rw [if_pos ⟨by simpa using hn, by simp⟩]
  cases x
  case t => simp [goes] at h2
  all_goals rfl
theorem out_rows_none {rs : List ResultVar} {xs : List AV} {s : St} {x : Ex} {T : Nat} {ds : List AV} {ps : List AV} {L : List Nat} (hx0 : ∀ i, x ≠ .exit i) (h1 : evRes I s rs = some []) (hσ : s.σ 0 = some (.ob T ds)) (hl : deepC (leafP s.σ) ds = some (ps, L)) (hn : (0 :: L).Nodup) (hx : xs.all goes = true) :
    outK I rs (.r 0 0 :: xs) (x, s) = some (.t [.t [], .t (lent T ps :: xs)]) := by
  cases x
  case exit i => exact absurd rfl (hx0 i)
  all_goals
    simp only [outK, h1, Option.bind_some, giveL, packO_rows hσ hl hx]
    rw [if_pos ⟨by simpa using hn, by simp⟩]
theorem out_rows_two {rs : List ResultVar} {xs : List AV} {s : St} {x y : AV} {zs : List AV} {T : Nat} {ds : List AV} {ps : List AV} {L : List Nat} (h1 : evRes I s rs = some (x :: y :: zs)) (h2 : closedL (x :: y :: zs) = true) (hσ : s.σ 0 = some (.ob T ds)) (hl : deepC (leafP s.σ) ds = some (ps, L)) (hn : (0 :: L).Nodup) (hx : xs.all goes = true) :
    outK I rs (.r 0 0 :: xs) (.ret, s) = some (.t [.t (x :: y :: zs), .t (lent T ps :: xs)]) := by
  simp only [outK, h1, Option.bind_some, giveL_closed h2, packO_rows hσ hl hx]
  rw [if_pos ⟨by simpa using hn, by simp⟩]
/-- A row of which the first n elements are left. -/
theorem leafP_part {r E sz n n' : Nat} {cs : List AV} (hσ : σ r = some (.row E sz n' cs)) (hc : closedL cs = true) (hn : n ≤ n') : leafP σ (.w r 0 n) = some (.o E sz n (tk n n' sz cs), [r]) := by
  simp only [leafP, hσ, hn, if_true]
  rw [deepL_closed 8 hc]
  simp
theorem leaf3 {da db dc pa pb pc : AV} {La Lb Lc : List Nat} (ha : leafP σ da = some (pa, La)) (hb : leafP σ db = some (pb, Lb)) (hc : leafP σ dc = some (pc, Lc)) : deepC (leafP σ) [da, db, dc] = some ([pa, pb, pc], La ++ (Lb ++ Lc)) := by
  simp only [deepC, ha, hb, hc, Option.bind_some, Option.map_some, List.append_nil]
end
theorem EE_rows {f : FuncId} {fn : Func} {T : Nat} {os : List RS} {xs : List AV} {r : AV} (hT : TT f = some (fn, bodyOf fn)) (hp : pf f = 2) (hN : xs.length + 1 ≤ fn.ntmps) (hok : ∀ o ∈ os, rsOk o) (hx : xs.all goes = true)
    (h : ∀ ds σ k L, RwL σ os ds L → (0 :: L).Nodup → σ 0 = some (.ob T ds) → (∀ r ∈ L, 1 ≤ r ∧ r < k) → 1 ≤ k → k ≤ 1 + os.length →
      (evC II EE (withOpt (opt f) pf) MX (strip (bodyOf fn)) ⟨fun t => (.r 0 0 :: xs).getD t (.v undef), σ, k⟩).bind (outK II fn.results.toList (.r 0 0 :: xs)) = some r) : EE f (lent T (os.map rsV) :: xs) = some r := by
  obtain ⟨ds, σ, k, L, h1, h2, h3, h4, h4', h5, h6⟩ := evM_rows (I := II) (C := EE) (pf := withOpt (opt f) pf) (m := MX) (fn := fn) (c := bodyOf fn) (T := T) (os := os) (xs := xs) hN hok hx
  refine EE_lent hT hp ?_
  rw [h6, ← evC_strip]
  exact h ds σ k L h1 h2 h3 h4 h4' h5
/-- One cell that is a row. -/
def Rw (σ : Sto) (o : RS) (d : AV) (L : List Nat) : Prop := rsOk o ∧ ((o.b = false ∧ d = .s true 0 [] ∧ L = []) ∨ ∃ r, o.b = true ∧ d = .w r 0 o.n ∧ L = [r] ∧ σ r = some (.row o.E o.sz o.n o.cs))
theorem RwL.inv {σ : Sto} {o : RS} {os : List RS} {ds : List AV} {L : List Nat} (h : RwL σ (o :: os) ds L) : ∃ d ds' L1 L2, ds = d :: ds' ∧ L = L1 ++ L2 ∧ Rw σ o d L1 ∧ RwL σ os ds' L2 := by
  cases h with
  | no h hb k => exact ⟨_, _, [], _, rfl, rfl, ⟨h, .inl ⟨hb, rfl, rfl⟩⟩, k⟩
  | yes h hb hσ k => exact ⟨_, _, [_], _, rfl, rfl, ⟨h, .inr ⟨_, hb, rfl, rfl, hσ⟩⟩, k⟩
theorem RwL.inv0 {σ : Sto} {ds : List AV} {L : List Nat} (h : RwL σ [] ds L) : ds = [] ∧ L = [] := by cases h; exact ⟨rfl, rfl⟩
theorem RwL.mk {σ : Sto} {o : RS} {os : List RS} {d : AV} {ds : List AV} {L1 L2 : List Nat} (h : Rw σ o d L1) (k : RwL σ os ds L2) : RwL σ (o :: os) (d :: ds) (L1 ++ L2) := by
  obtain ⟨h0, ⟨hb, rfl, rfl⟩ | ⟨r, hb, rfl, rfl, hσ⟩⟩ := h
  · exact .no h0 hb k
  · exact .yes h0 hb hσ k
theorem rw3 {σ : Sto} {a b c : RS} {ds : List AV} {L : List Nat} (h : RwL σ [a, b, c] ds L) : ∃ da db dc La Lb Lc, ds = [da, db, dc] ∧ L = La ++ (Lb ++ Lc) ∧ Rw σ a da La ∧ Rw σ b db Lb ∧ Rw σ c dc Lc := by
  obtain ⟨da, ds1, La, L1, rfl, rfl, ha, h⟩ := h.inv
  obtain ⟨db, ds2, Lb, L2, rfl, rfl, hb, h⟩ := h.inv
  obtain ⟨dc, ds3, Lc, L3, rfl, rfl, hc, h⟩ := h.inv
  obtain ⟨rfl, rfl⟩ := h.inv0
  exact ⟨da, db, dc, La, Lb, Lc, rfl, by simp, ha, hb, hc⟩
theorem rw3_mk {σ : Sto} {a b c : RS} {da db dc : AV} {La Lb Lc : List Nat} (ha : Rw σ a da La) (hb : Rw σ b db Lb) (hc : Rw σ c dc Lc) : RwL σ [a, b, c] [da, db, dc] (La ++ (Lb ++ Lc)) := by
  have := RwL.mk ha (RwL.mk hb (RwL.mk hc .nil))
  simpa using this
theorem Rw.frame {σ σ' : Sto} {o : RS} {d : AV} {L : List Nat} (h : Rw σ o d L) (hr : ∀ r ∈ L, σ' r = σ r) : Rw σ' o d L := by
  obtain ⟨h0, h | ⟨r, hb, rfl, rfl, hσ⟩⟩ := h
  · exact ⟨h0, .inl h⟩
  · exact ⟨h0, .inr ⟨r, hb, rfl, rfl, by rw [hr r (by simp), hσ]⟩⟩
theorem len_rw {σ : Sto} {o : RS} {d : AV} {L : List Nat} (h : Rw σ o d L) {t : Nat} {a b : Nat} {c : List Value} : lenK σ d (some ⟨.sl t, a, b, c⟩) = some (N o.n, σ) := by
  obtain ⟨h0, ⟨hb, rfl, rfl⟩ | ⟨r, hb, rfl, rfl, hσ⟩⟩ := h
  · rw [(h0.2.2 hb).1]
    rfl
  · rfl
/-- A row that holds something is there. -/
theorem Rw.pos {σ : Sto} {o : RS} {d : AV} {L : List Nat} (h : Rw σ o d L) (hn : o.n ≠ 0) : ∃ r, o.b = true ∧ d = .w r 0 o.n ∧ L = [r] ∧ σ r = some (.row o.E o.sz o.n o.cs) := by
  obtain ⟨h0, ⟨hb, rfl, rfl⟩ | h⟩ := h
  · exact absurd (h0.2.2 hb).1 hn
  · exact h
/-- Rows of an object as slices that grow. -/
theorem Rw.lst {σ : Sto} {o : RS} {d : AV} {L : List Nat} (h : Rw σ o d L) {nx : Nat} (hL : ∀ r ∈ L, r < nx) : Lst σ nx o.E o.sz d o.n o.cs := by
  obtain ⟨h0, ⟨hb, rfl, rfl⟩ | ⟨r, hb, rfl, rfl, hσ⟩⟩ := h
  · exact .inl ⟨rfl, h0.2.2 hb⟩
  · exact .inr ⟨r, hL r (by simp), rfl, hσ, h0.1⟩
theorem Rw.leaf {σ : Sto} {o : RS} {d : AV} {L : List Nat} (h : Rw σ o d L) : leafP σ d = some (rsV o, L) := by
  obtain ⟨h0, ⟨hb, rfl, rfl⟩ | ⟨r, hb, rfl, rfl, hσ⟩⟩ := h
  · rw [leaf_closed rfl]
    simp [rsV, hb]
  · rw [leafP_row hσ h0.2.1]
    simp [rsV, hb]
end
end Go.Proofs.YtegbkihgnofkfaaGreatDoor.Ev

/-
The engine, part 35: rows that are lent whole.
-/
namespace Go.Proofs.YtegbkihgnofkfaaGreatDoor.Ev
section
set_option linter.unusedVariables false
set_option linter.unusedSimpArgs false
open Go Go.RowKit
set_option linter.unusedVariables false
set_option linter.unusedSimpArgs false
section
variable {I : Tab} {C : Sem1} {pf : FuncId → Nat} {m : Nat} {e : Nat → AV} {σ : Sto} {key : Nat}
theorem evM_row {fn : Func} {c : Code} {n E sz : Nat} {cs xs : List AV} (hN : xs.length + 1 ≤ fn.ntmps) (hx : xs.all goes = true) :
    evM I C pf m fn c (lentR n E sz cs :: xs) = (evC I C pf m c ⟨fun t => (.w 0 0 n :: xs).getD t (.v undef), upd (fun _ => none) 0 (some (.row E sz n cs)), 1⟩).bind (outK I fn.results.toList (.w 0 0 n :: xs)) := by
  unfold evM
  simp only [lentR, ni, inits, inits_goes hx, Int.toNat_natCast]
  rw [if_pos ⟨by simpa using hN, by simp⟩]
  congr 1
  funext ⟨x, s⟩
  cases x <;> rfl
theorem packO_row {n E sz : Nat} {cs xs : List AV} (hσ : σ 0 = some (.row E sz n cs)) (hc : closedL cs = true) (hx : xs.all goes = true) : deepC (packO σ) (.w 0 0 n :: xs) = some (lentR n E sz cs :: xs, [0]) := by
  simp only [deepC, packO, pack1, hσ, deepL_closed 8 hc, Option.map_some, Option.bind_some, if_true, packOL_goes hx, List.append_nil]
theorem out_row_one {rs : List ResultVar} {xs : List AV} {s : St} {x : AV} {n E sz : Nat} {cs : List AV} (h1 : evRes I s rs = some [x]) (h2 : goes x = true) (hσ : s.σ 0 = some (.row E sz n cs)) (hc : closedL cs = true) (hx : xs.all goes = true) :
    outK I rs (.w 0 0 n :: xs) (.ret, s) = some (.t [x, .t (lentR n E sz cs :: xs)]) := by
  have h3 : giveL s.σ [x] = some ([x], [], []) := giveL_closed (by simp only [closedL, goes_closed h2, Bool.and_self])
  simp only [outK, h1, Option.bind_some, h3, packO_row hσ hc hx]
  rw [if_pos ⟨by simp, by simp⟩]
  cases x
  case t => simp [goes] at h2
  all_goals rfl
/-- A call that is lent a row. -/
theorem call_row_v {f : FuncId} {id n E sz : Nat} {cs cs' xs : List AV} {x : Value} (hp : pf f = 2) (hσ : σ id = some (.row E sz n cs)) (hc : closedL cs = true) (hx : xs.all goes = true) (hr : C f (lentR n E sz cs :: xs) = some (.t [.v x, .t (lentR n E sz cs' :: xs)])) :
    callOp C pf σ key f (.w id 0 n :: xs) = some (.v x, upd σ id (some (.row E sz n cs'))) := by
  rw [call2_eq hp]
  have h1 : needs σ (.w id 0 n :: xs) = [] := by
    simp only [needs, need, hσ, deepL_closed 8 hc, needs_goes hx, List.append_nil]
  have h2 : deepC (pack1 σ) (.w id 0 n :: xs) = some (lentR n E sz cs :: xs, [id]) := by
    simp only [deepC, pack1, hσ, deepL_closed 8 hc, Option.map_some, Option.bind_some, if_true, packL_goes hx, List.append_nil]
  rw [h1]
  simp only [frz0, h2, Option.bind_some, lend1]
  rw [if_pos (by simp), hr]
  have h3 : upd (killL σ [id]) id (some (.row E sz n cs')) = upd σ id (some (.row E sz n cs')) := by
    funext i
    unfold upd killL
    by_cases e : i = id <;> simp [e]
  simp only [Option.bind_some, lend2, h1, frz0, back, lentR, h3, back_goes hx]
  rw [if_pos (by simp [room])]
  rfl
/-- A call that is given two rows and gives a plain value. -/
theorem call0_ww {f : FuncId} {i j n k E sz E' sz' : Nat} {cs ds ys : List AV} {r : Value} (hi : σ i = some (.row E sz n cs)) (hj : σ j = some (.row E' sz' k ds)) (hp : pf f = 0) (hl : cs.length = n * sz) (hl' : ds.length = k * sz') (hc : closedL cs = true) (hd : closedL ds = true) (hy : closedL ys = true) (hr : C f (.s false n cs :: .s false k ds :: ys) = some (.v r)) :
    callOp C pf σ key f (.w i 0 n :: .w j 0 k :: ys) = some (.v r, σ) := by
  unfold callOp
  rw [if_neg (by omega), if_neg (by omega), if_neg (by omega)]
  have h1 : deep σ 8 (.w i 0 n) = some (.s false n cs, [i]) := by
    rw [deep_w 7 hi (by omega) hc, List.drop_zero, List.take_of_length_le (by omega)]
  have h1' : deep σ 8 (.w j 0 k) = some (.s false k ds, [j]) := by
    rw [deep_w 7 hj (by omega) hd, List.drop_zero, List.take_of_length_le (by omega)]
  have h2 : deepC (deep σ 8) (.w i 0 n :: .w j 0 k :: ys) = some (.s false n cs :: .s false k ds :: ys, [i] ++ [j]) := by
    simp only [deepC, h1, h1', Option.bind_some, deepL_closed 8 hy, Option.map_some, List.append_nil]
  rw [h2]
  simp only [Option.bind_some, hr, flat, flat1, or_true, if_true]
  rfl
end
theorem EE_lendR {f : FuncId} {fn : Func} {n E sz : Nat} {cs xs : List AV} {r : AV} (hT : TT f = some (fn, bodyOf fn)) (hp : pf f = 2) (hN : xs.length + 1 ≤ fn.ntmps) (hx : xs.all goes = true)
    (h : (evC II EE (withOpt (opt f) pf) MX (strip (bodyOf fn)) ⟨fun t => (.w 0 0 n :: xs).getD t (.v undef), upd (fun _ => none) 0 (some (.row E sz n cs)), 1⟩).bind (outK II fn.results.toList (.w 0 0 n :: xs)) = some r) : EE f (lentR n E sz cs :: xs) = some r :=
  EE_lent hT hp (by rw [evM_row hN hx, ← evC_strip]; exact h)
/-- Marks from k on. -/
def markL : Int → Nat → List Int
  | _, 0 => []
  | k, n + 1 => k :: markL (k + 1) n
theorem markL_len : ∀ (n : Nat) (k : Int), (markL k n).length = n
  | 0, k => rfl
  | n + 1, k => by simp [markL, markL_len n]
theorem markL_snoc : ∀ (n : Nat) (k : Int), markL k (n + 1) = markL k n ++ [k + n]
  | 0, k => by simp [markL]
  | n + 1, k => by
    rw [markL, markL_snoc n (k + 1)]
    simp only [markL, List.cons_append]
    congr 3
    omega
theorem markL_drop : ∀ (i n : Nat) (k : Int), i < n → (markL k n).drop i = (k + i) :: (markL k n).drop (i + 1)
  | 0, n + 1, k, h => by simp [markL]
  | i + 1, n + 1, k, h => by
    simp only [markL, List.drop_succ_cons]
    rw [markL_drop i n (k + 1) (by omega)]
    congr 1
    omega
end
end Go.Proofs.YtegbkihgnofkfaaGreatDoor.Ev

/-
The engine, part 36: slices of bytes as arguments of a law.
-/
namespace Go.Proofs.YtegbkihgnofkfaaGreatDoor.Ev
section
set_option linter.unusedVariables false
set_option linter.unusedSimpArgs false
open Go Go.RowKit
/-- A row of bytes as it stands in memory. -/
def IsBytes (w : World) (a : Option Addr) (len cap : Nat) (zs : List Int) : Prop :=
  (a = none ∧ len = 0 ∧ cap = 0 ∧ zs = []) ∨
  ∃ x, a = some x ∧ len ≤ cap ∧ zs.length = cap ∧ (∀ i, i < zs.length → w.cell? (x.add i) = some (.int .u8 (zs.getD i 0))) ∧ ∀ n ∈ zs, (Lit.int .u8 n).wf = true
/-- Bytes told. -/
def bytesV (l : List UInt8) : AV := .s false l.length (l.map fun c => U c)
theorem rep_bytes {w : World} {a : Option Addr} {len cap : Nat} {zs : List Int} (h : IsBytes w a len cap zs) : ∃ l : List UInt8, Rep w (gV fun b => b < w.heap.size) (bytesV l) (.slice a len cap) := by
  rcases h with ⟨rfl, rfl, rfl, rfl⟩ | ⟨x, rfl, hle, hl, hc, hw⟩
  · exact ⟨[], .s _ _ _ _ _ (fun _ => undef) (Nat.le_refl _) (fun h => by cases h) (fun j x h => by simp at h) (fun j x h => by simp at h)⟩
  · refine ⟨(zs.take len).map fun z => UInt8.ofNat z.toNat, ?_⟩
    have hlen : ((zs.take len).map fun z => UInt8.ofNat z.toNat).length = len := by
      rw [List.length_map, List.length_take]
      omega
    unfold bytesV
    rw [hlen]
    have hcell : ∀ (j : Nat) (c : AV), (((zs.take len).map fun z => UInt8.ofNat z.toNat).map fun c => U c)[j]? = some c → j < zs.length ∧ c = .v (.int .u8 (zs.getD j 0)) := by
      intro j c hj
      simp only [List.getElem?_map, List.getElem?_take] at hj
      split at hj
      · rename_i hlt
        have hjl : j < zs.length := by omega
        rw [List.getElem?_eq_getElem hjl] at hj
        simp only [Option.map_some, Option.some.injEq] at hj
        refine ⟨hjl, ?_⟩
        obtain ⟨b1, b2⟩ := bounds_u8 (hw _ (List.getElem_mem hjl))
        have ht : (UInt8.ofNat (zs[j]).toNat).toNat = (zs[j]).toNat := by
          rw [UInt8.toNat_ofNat', Nat.mod_eq_of_lt (by omega)]
        rw [← hj]
        show AV.v (.int .u8 ((UInt8.ofNat (zs[j]).toNat).toNat : Int)) = _
        rw [ht, Int.toNat_of_nonneg b1]
        simp [List.getD_eq_getElem?_getD, List.getElem?_eq_getElem hjl]
      · simp at hj
    refine .s _ _ _ _ _ (fun j => .int .u8 (zs.getD j 0)) hle (fun h => by cases h) (fun j c hj => ?_) (fun j c hj => ?_)
    · obtain ⟨h1, _⟩ := hcell j c hj
      have hz := hc j h1
      refine ⟨x, rfl, ?_, hz⟩
      have := World.block_lt_of_cell? _ _ hz
      rw [add_block] at this
      exact this
    · obtain ⟨_, rfl⟩ := hcell j c hj
      exact .v _
theorem calls_true_1 {P : Program} {f : FuncId} {w : World} {a : Option Addr} {len cap : Nat} {zs : List Int} (h : IsBytes w a len cap zs) (hp : ∀ l, PureOk P f [bytesV l] (B true)) :
    Calls P f #[.slice a len cap] w fun e w' => e = .returned (.bool true) ∧ Below w.heap.size w w' := by
  obtain ⟨l, hl⟩ := rep_bytes h
  refine calls_true (us := [.slice a len cap]) (hp l) w (fun b => b < w.heap.size) (fun b hb => hb) rfl ?_
  intro j y u hj hu
  match j with
  | 0 =>
    cases hj
    cases hu
    exact hl
  | j + 1 => simp at hj
theorem calls_true_2 {P : Program} {f : FuncId} {w : World} {a a' : Option Addr} {len cap len' cap' : Nat} {zs zs' : List Int} (h : IsBytes w a len cap zs) (h' : IsBytes w a' len' cap' zs') (hp : ∀ l l', PureOk P f [bytesV l, bytesV l'] (B true)) :
    Calls P f #[.slice a len cap, .slice a' len' cap'] w fun e w' => e = .returned (.bool true) ∧ Below w.heap.size w w' := by
  obtain ⟨l, hl⟩ := rep_bytes h
  obtain ⟨l', hl'⟩ := rep_bytes h'
  refine calls_true (us := [.slice a len cap, .slice a' len' cap']) (hp l l') w (fun b => b < w.heap.size) (fun b hb => hb) rfl ?_
  intro j y u hj hu
  match j with
  | 0 =>
    cases hj
    cases hu
    exact hl
  | 1 =>
    cases hj
    cases hu
    exact hl'
  | j + 2 => simp at hj
end
end Go.Proofs.YtegbkihgnofkfaaGreatDoor.Ev
