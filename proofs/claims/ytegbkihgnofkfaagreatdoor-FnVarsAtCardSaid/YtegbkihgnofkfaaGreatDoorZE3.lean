/-
Texts Ev20 to Ev29 of the work.
-/
import Derived.Test.YtegbkihgnofkfaaGreatDoorZE2
/-
The engine, part 20: code.
-/
namespace Go.Proofs.YtegbkihgnofkfaaGreatDoor.Ev
section
set_option linter.unusedVariables false
set_option linter.unusedSimpArgs false
open Go Go.RowKit
set_option linter.unusedVariables false
set_option linter.unusedSimpArgs false
variable {P : Program} {I : Tab} {C : Sem1} {pf : FuncId → Nat}

/-- Of each operation: what must come before it (a bit each), by the edges that bind. -/
def autoMask (ops : Array Oper) : List Nat :=
  (List.range ops.size).foldl (fun (M : List Nat) i => M ++ [match ops[i]? with
    | some o => o.after.toList.foldl (fun k e => if Region.binds .any e then k ||| (1 <<< e.on) ||| M.getD e.on 0 else k) 0
    | none => 0]) []

/-- What is asked of code ahead of its run (MM is left for texts that name it). -/
def okC (N : Nat) (pf : FuncId → Nat) (MM : Nat → List Nat) : Code → Bool
  | .region id ops draw => (ops.all fun o => match o.dst with | some d => decide (d < N) | none => true) && (!draw || drawOk (inReg pf id) (autoMask ops) ops)
  | .seq a b => okC N pf MM a && okC N pf MM b
  | .cond _ a b => okC N pf MM a && okC N pf MM b
  | .block _ c => okC N pf MM c
  | .loop c => okC N pf MM c
  | _ => true

theorem put_nx (s : St) (d : Option Nat) (x : AV) : (s.put d x).nx = s.nx := by cases d <;> rfl
theorem ev1_nx {ops : Array Oper} {base i : Nat} {s s1 : St} (h : ev1 I C pf ops base i s = some s1) : s1.nx = s.nx := by
  unfold ev1 at h
  split at h
  · exact (Option.some.inj h) ▸ rfl
  · split at h
    · cases h
    · rw [← Option.some.inj h, put_nx]
    · obtain ⟨q, _, rfl⟩ := Option.map_eq_some_iff.1 h
      rw [put_nx]
theorem evL_nx {ops : Array Oper} {base : Nat} : ∀ (L : List Nat) (s s1 : St), evL I C pf ops base L s = some s1 → s1.nx = s.nx
  | [], s, s1, h => (Option.some.inj h) ▸ rfl
  | i :: L, s, s1, h => by
    obtain ⟨s2, h1, h2⟩ := Option.bind_eq_some_iff.1 h
    rw [evL_nx L s2 s1 h2, ev1_nx h1]

theorem Sim.nx {w0 : World} {V0 L0 : Nat → Prop} {g0 : G} {N : Nat} {s : St} {a : Act} {w : World} {g : G} (h : Sim w0 V0 L0 g0 N s a w g) (n : Nat) : Sim w0 V0 L0 g0 N { s with nx := n } a w g :=
  ⟨h.os, h.tape, h.output, h.size, h.keep, h.V0V, h.VV0, h.rho, h.env, h.tsz, h.dfr, h.inv, h.live⟩

/-- Functions have numbers below the options'. -/
theorem fok_lt (hz : P.funcs.size ≤ 1000000000) {f : FuncId} {xs : List AV} {x : AV} (h : FOk P pf f xs x) : Nat.lt f 1000000000 := by
  have : ∃ fn, P.funcs[f]? = some fn := by
    unfold FOk at h
    split at h
    · obtain ⟨⟨fn, h1, _⟩, _⟩ := h
      exact ⟨fn, h1⟩
    split at h
    · obtain ⟨⟨fn, h1, _⟩, _⟩ := h
      exact ⟨fn, h1⟩
    · obtain ⟨⟨fn, h1, _⟩, _⟩ := h
      exact ⟨fn, h1⟩
  obtain ⟨fn, h1⟩ := this
  exact Nat.lt_of_lt_of_le (Array.getElem?_eq_some_iff.1 h1).1 hz
theorem fok_inReg (hz : P.funcs.size ≤ 1000000000) {id : Nat} {f : FuncId} {xs : List AV} {x : AV} (h : FOk P pf f xs x) : FOk P (inReg pf id) f xs x := by
  have hlt := fok_lt hz h
  have hne : ∀ n : Nat, 1000000000 ≤ n → ¬ f = n := fun n hn he => by
    rw [he] at hlt
    exact absurd (show n < 1000000000 from hlt) (by omega)
  have : inReg pf id f = pf f ∨ (pf f = 2 ∧ inReg pf id f = 4) := by
    unfold inReg
    split
    · exact .inl (if_neg (hne _ (by decide)))
    split
    · exact .inl (if_neg (hne _ (by decide)))
    split
    · by_cases h2 : pf f = 2
      · refine .inr ⟨h2, ?_⟩
        show (if f = oFlOn then 1 else if pf f = 2 then 4 else pf f) = 4
        rw [if_neg (hne _ (by decide)), if_pos h2]
      · refine .inl ?_
        show (if f = oFlOn then 1 else if pf f = 2 then 4 else pf f) = pf f
        rw [if_neg (hne _ (by decide)), if_neg h2]
    · exact .inl rfl
  unfold FOk at h ⊢
  rcases this with e | ⟨e1, e2⟩
  · rw [e]
    exact h
  · rw [if_pos (.inl e1)] at h
    rw [if_pos (.inr e2)]
    exact h
theorem fok_base (hz : P.funcs.size ≤ 1000000000) {b : Nat} {f : FuncId} {xs : List AV} {x : AV} (h : FOk P pf f xs x) : FOk P (atBase pf b) f xs x := by
  have hlt := fok_lt hz h
  have : atBase pf b f = pf f := atBase_ne (by
    intro he
    rw [he] at hlt
    exact absurd (show (1000000000 : Nat) < 1000000000 from hlt) (by decide))
  unfold FOk
  rw [this]
  exact h
theorem fok_withOpt (hz : P.funcs.size ≤ 1000000000) {L : List Nat} {f : FuncId} {xs : List AV} {x : AV} (h : FOk P pf f xs x) : FOk P (withOpt L pf) f xs x := by
  have hlt := fok_lt hz h
  have : (withOpt L pf f = 2) = (pf f = 2) := by
    unfold withOpt
    rw [if_neg (Nat.not_le.2 hlt)]
    split
    · rename_i hc
      rw [hc.2]
      simp
    · rfl
  have h3 : (withOpt L pf f = 3) = (pf f = 3) := by
    unfold withOpt
    rw [if_neg (Nat.not_le.2 hlt)]
    split
    · rename_i hc
      rw [hc.2]
      simp
    · rfl
  have h4 : (withOpt L pf f = 4) = (pf f = 4) := by
    unfold withOpt
    rw [if_neg (Nat.not_le.2 hlt)]
    split
    · rename_i hc
      rw [hc.2]
      simp
    · rfl
  unfold FOk
  simp only [this, h3, h4]
  exact h

theorem code_sound (hz : P.funcs.size ≤ 1000000000) (hI : I.Ok P) (hC : ∀ f xs x, C f xs = some x → FOk P pf f xs x) (hm : P.follows .mixedOrders = true) {w0 : World} {V0 L0 : Nat → Prop} {g0 : G} {N : Nat} {MM : Nat → List Nat} (m : Nat) : ∀ (c : Code), okC N pf MM c = true →
    ∀ (Q : Exit → Act → World → Prop) (s s' : St) (ex : Ex) (a : Act) (w : World) (g : G), Sim w0 V0 L0 g0 N s a w g → (∀ i, g.D i → i < s.nx) → evC I C pf m c s = some (ex, s') →
      (∀ a' w' g', Sim w0 V0 L0 g0 N s' a' w' g' → (∀ i, g'.D i → i < s'.nx) → Q ex.out a' w') → c.wp P Q a w := by
  intro c
  induction c with
  | skip =>
    intro _ Q s s' ex a w g hS hD he hQ
    simp only [evC, Option.some.injEq, Prod.mk.injEq] at he
    obtain ⟨rfl, rfl⟩ := he
    exact wp_skip (hQ a w g hS hD)
  | region id ops draw =>
    intro hok Q s s' ex a w g hS hD he hQ
    simp only [okC, Bool.and_eq_true] at hok
    obtain ⟨hdst, hdraw⟩ := hok
    simp only [evC] at he
    obtain ⟨s1, h1, h2⟩ := Option.map_eq_some_iff.1 he
    simp only [Prod.mk.injEq] at h2
    obtain ⟨rfl, rfl⟩ := h2
    have hd : ∀ (i : Nat) (o : Oper), ops[i]? = some o → ∀ t, o.dst = some t → t < N := by
      intro i o ho t ht
      have := Array.all_eq_true_iff_forall_mem.1 hdst o (Array.mem_of_getElem? ho)
      rw [ht] at this
      simpa using this
    have hS2 := hS.nx (s.nx + 4 * ops.size)
    have hW : ∀ L, Within s.nx ops.size L g := fun L i hi => .inl (hD i hi)
    have hfin : ∀ a' w' g', Sim w0 V0 L0 g0 N s1 a' w' g' → Within s.nx ops.size [] g' → Q .normal a' w' := by
      intro a' w' g' hS' hW'
      refine hQ a' w' g' hS' fun i hi => ?_
      rw [evL_nx _ _ _ h1]
      show i < s.nx + 4 * ops.size
      rcases hW' i hi with h | ⟨j, h3, _, h4, h5⟩
      · omega
      · omega
    cases draw with
    | false => exact wp_region (evL_sound hI (fun f xs x h => fok_base hz (fok_inReg hz (hC f xs x h))) hd s.nx (List.range ops.size) List.nodup_range (fun i hi => List.mem_range.1 hi) _ s1 a w g hS2 (hW _) h1 hfin)
    | true =>
      simp only [Bool.not_true, Bool.false_or] at hdraw
      refine wp_region_draw fun t => ?_
      have hsch : Region.schedule (P.follows .mixedOrders) ops t = Region.linearise .any ops t := by simp only [Region.schedule, hm, Bool.true_or, if_true]
      rw [hsch]
      have htopo : topoOk ops = true := by
        simp only [drawOk, Bool.and_eq_true] at hdraw
        exact hdraw.1.1
      obtain ⟨hperm, hnd, _⟩ := linearise_ok htopo t
      exact evL_sound hI (fun f xs x h => fok_base hz (fok_inReg hz (hC f xs x h))) hd s.nx _ hnd (fun i hi => List.mem_range.1 (hperm.subset hi)) _ s1 a _ g (hS2.draw _) (hW _) (by rw [draw_same (by rw [drawOk_base]; exact hdraw) _ _ (atBase_le _)]; exact h1) hfin
  | seq x y ihx ihy =>
    intro hok Q s s' ex a w g hS hD he hQ
    simp only [okC, Bool.and_eq_true] at hok
    simp only [evC] at he
    obtain ⟨⟨ex1, s1⟩, h1, h2⟩ := Option.bind_eq_some_iff.1 he
    refine wp_seq (ihx hok.1 _ s s1 ex1 a w g hS hD h1 fun a' w' g' hS' hD' => ?_)
    cases ex1 with
    | normal => exact ihy hok.2 Q s1 s' ex a' w' g' hS' hD' h2 hQ
    | exit id =>
      simp only [Option.some.injEq, Prod.mk.injEq] at h2
      obtain ⟨rfl, rfl⟩ := h2
      exact hQ a' w' g' hS' hD'
    | ret =>
      simp only [Option.some.injEq, Prod.mk.injEq] at h2
      obtain ⟨rfl, rfl⟩ := h2
      exact hQ a' w' g' hS' hD'
  | cond cnd x y ihx ihy =>
    intro hok Q s s' ex a w g hS hD he hQ
    simp only [okC, Bool.and_eq_true] at hok
    simp only [evC] at he
    split at he
    · rename_i t ht
      have hr := hS.env.val cnd
      rw [ht] at hr
      have hv := rep_v_inv hr
      cases t with
      | true => exact wp_cond_true hv (ihx hok.1 Q s s' ex a w g hS hD he hQ)
      | false => exact wp_cond_false hv (ihy hok.2 Q s s' ex a w g hS hD he hQ)
    · cases he
  | block id c ih =>
    intro hok Q s s' ex a w g hS hD he hQ
    simp only [okC] at hok
    simp only [evC] at he
    obtain ⟨⟨ex1, s1⟩, h1, h2⟩ := Option.map_eq_some_iff.1 he
    refine wp_block (ih hok _ s s1 ex1 a w g hS hD h1 fun a' w' g' hS' hD' => ?_)
    cases ex1 with
    | normal =>
      simp only [Prod.mk.injEq] at h2
      obtain ⟨rfl, rfl⟩ := h2
      exact hQ a' w' g' hS' hD'
    | exit id' =>
      simp only [Ex.out, Exit.inBlock]
      by_cases e : id' = id
      · simp only [e, if_true, Prod.mk.injEq] at h2 ⊢
        obtain ⟨rfl, rfl⟩ := h2
        exact hQ a' w' g' hS' hD'
      · simp only [e, if_false, Prod.mk.injEq] at h2 ⊢
        obtain ⟨rfl, rfl⟩ := h2
        exact hQ a' w' g' hS' hD'
    | ret =>
      simp only [Prod.mk.injEq] at h2
      obtain ⟨rfl, rfl⟩ := h2
      exact hQ a' w' g' hS' hD'
  | loop c ih =>
    intro hok Q s s' ex a w g hS hD he hQ
    simp only [okC] at hok
    simp only [evC] at he
    have key : ∀ (n : Nat) (s : St) (a : Act) (w : World) (g : G), Sim w0 V0 L0 g0 N s a w g → (∀ i, g.D i → i < s.nx) → roundsE (evC I C pf m c) n s = some (ex, s') → Code.rounds P c Q n a w := by
      intro n
      induction n with
      | zero => intro s a w g _ _ h; cases h
      | succ n ihn =>
        intro s a w g hS hD h
        simp only [roundsE] at h
        obtain ⟨⟨ex1, s1⟩, h1, h2⟩ := Option.bind_eq_some_iff.1 h
        rw [rounds_succ]
        refine ih hok _ s s1 ex1 a w g hS hD h1 fun a' w' g' hS' hD' => ?_
        cases ex1 with
        | normal => exact ihn s1 a' w' g' hS' hD' h2
        | exit id =>
          simp only [Option.some.injEq, Prod.mk.injEq] at h2
          obtain ⟨rfl, rfl⟩ := h2
          exact hQ a' w' g' hS' hD'
        | ret =>
          simp only [Option.some.injEq, Prod.mk.injEq] at h2
          obtain ⟨rfl, rfl⟩ := h2
          exact hQ a' w' g' hS' hD'
    exact wp_loop_rounds m (key m s a w g hS hD he)
  | exit id =>
    intro _ Q s s' ex a w g hS hD he hQ
    simp only [evC, Option.some.injEq, Prod.mk.injEq] at he
    obtain ⟨rfl, rfl⟩ := he
    exact wp_exit (hQ a w g hS hD)
  | label l =>
    intro _ Q s s' ex a w g hS hD he hQ
    simp only [evC, Option.some.injEq, Prod.mk.injEq] at he
    obtain ⟨rfl, rfl⟩ := he
    exact wp_label (hQ a w g hS hD)
  | ret =>
    intro _ Q s s' ex a w g hS hD he hQ
    simp only [evC, Option.some.injEq, Prod.mk.injEq] at he
    obtain ⟨rfl, rfl⟩ := he
    exact wp_ret (hQ a w g hS hD)
  | _ =>
    intro _ Q s s' ex a w g hS hD he hQ
    simp [evC] at he
end
end Go.Proofs.YtegbkihgnofkfaaGreatDoor.Ev

/-
The engine, part 21: a function.
-/
namespace Go.Proofs.YtegbkihgnofkfaaGreatDoor.Ev
section
set_option linter.unusedVariables false
set_option linter.unusedSimpArgs false
open Go Go.RowKit
set_option linter.unusedVariables false
set_option linter.unusedSimpArgs false
variable {P : Program} {I : Tab} {C : Sem1} {pf : FuncId → Nat} {w : World} {g : G} {σ : Sto}

def rv (a : Act) (r : ResultVar) : Sem Value :=
  match r with
  | .tmp t => pure (a.tmps.getD t undef)
  | .cell c ty => do loadVar ty (← asAddr (a.tmps.getD c undef))

theorem evRes_sound (hI : I.Ok P) {s : St} {a : Act} (hv : Inv w g s.σ) (henv : Env w g s.e a) : ∀ (rs : List ResultVar) (xs : List AV), evRes I s rs = some xs →
    ∃ us : List Value, us.length = xs.length ∧ (∀ (j : Nat) (x : AV) (u : Value), xs[j]? = some x → us[j]? = some u → Rep w g x u) ∧
      (rs.mapM (rv a)).run P w = Result.ok us w
  | [], xs, h => by
    simp only [evRes, Option.some.injEq] at h
    subst h
    exact ⟨[], rfl, fun j x u hj => by simp at hj, by simp [Sem.run_pure]⟩
  | .tmp t :: rs, xs, h => by
    simp only [evRes] at h
    obtain ⟨ys, h1, rfl⟩ := Option.map_eq_some_iff.1 h
    obtain ⟨us, i1, i2, i3⟩ := evRes_sound hI hv henv rs ys h1
    refine ⟨a.tmps.getD t undef :: us, by simp [i1], fun j x u hj hu => ?_, ?_⟩
    · cases j with
      | zero =>
        simp only [List.getElem?_cons_zero, Option.some.injEq] at hj hu
        subst hj hu
        exact henv t
      | succ j => exact i2 j x u (by simpa using hj) (by simpa using hu)
    · rw [List.mapM_cons]
      simp only [rv, pure_bind, Sem.run_bind, i3, Result.andThen_ok, Sem.run_pure]
  | .cell c ty :: rs, xs, h => by
    simp only [evRes] at h
    obtain ⟨i, hi, h⟩ := Option.bind_eq_some_iff.1 h
    obtain ⟨cs, hcs, h⟩ := Option.bind_eq_some_iff.1 h
    obtain ⟨x, hx, h⟩ := Option.bind_eq_some_iff.1 h
    obtain ⟨ys, h1, rfl⟩ := Option.map_eq_some_iff.1 h
    obtain ⟨us, i1, i2, i3⟩ := evRes_sound hI hv henv rs ys h1
    obtain ⟨ad, had, hat⟩ := cellsAt_sound hv (henv c) hcs
    obtain ⟨u, hu1, hu2⟩ := load_sound (P := P) hI hi hat hx
    refine ⟨u :: us, by simp [i1], fun j y v hj hu => ?_, ?_⟩
    · cases j with
      | zero =>
        simp only [List.getElem?_cons_zero, Option.some.injEq] at hj hu
        subst hj hu
        exact hu2
      | succ j => exact i2 j y v (by simpa using hj) (by simpa using hu)
    · rw [List.mapM_cons]
      simp only [rv, had, asAddr, pure_bind, Sem.run_bind, hu1, i3, Result.andThen_ok, Sem.run_pure]

def ofRes : List Value → Value
  | [u] => u
  | us => .tuple us.toArray

theorem results_run {fn : Func} {a : Act} {us : List Value} (h : (fn.results.toList.mapM (rv a)).run P w = Result.ok us w) :
    (results fn a.tmps).run P w = .ok (ofRes us) w := by
  have h1 : results fn a.tmps = (fn.results.mapM (rv a)) >>= fun vs => pure (if h : vs.size = 1 then vs[0] else .tuple vs) := rfl
  rw [h1, Array.mapM_eq_mapM_toList, Sem.run_bind, Sem.run_map, h]
  simp only [Result.andThen_ok, Sem.run_pure]
  match us with
  | [] => rfl
  | [u] => rfl
  | u :: v :: us => rfl
end
end Go.Proofs.YtegbkihgnofkfaaGreatDoor.Ev

/-
The engine, part 22: a function as a whole.
-/
namespace Go.Proofs.YtegbkihgnofkfaaGreatDoor.Ev
section
set_option linter.unusedVariables false
set_option linter.unusedSimpArgs false
open Go Go.RowKit
set_option linter.unusedVariables false
set_option linter.unusedSimpArgs false
variable {P : Program} {I : Tab} {C : Sem1} {pf : FuncId → Nat} {w : World} {g : G} {σ : Sto}

theorem Sim.init {w : World} {V : Nat → Prop} {N : Nat} {args : List AV} {us : List Value} (hV : ∀ b, V b → b < w.heap.size) (hl : us.length = args.length) (hN : args.length ≤ N)
    (hr : ∀ (j : Nat) (y : AV) (u : Value), args[j]? = some y → us[j]? = some u → Rep w (gV V) y u) :
    Sim w V (fun _ => False) (gV V) N (St.init args) { tmps := us.toArray ++ Array.replicate (N - us.toArray.size) undef, defers := [] } w (gV V) := by
  refine ⟨rfl, rfl, rfl, Nat.le_refl _, fun _ _ _ => rfl, fun _ h => h, fun _ h => .inl h, fun _ h => h.elim, fun t => ?_, by simp; omega, rfl, ⟨hV, fun i s h => by simp [St.init] at h, fun i s h => by simp [St.init] at h, fun i j s t b _ h => by simp [St.init] at h⟩, fun i t b h => by simp [St.init] at h⟩
  simp only [St.init]
  by_cases ht : t < args.length
  · have h1 : args[t]? = some args[t] := List.getElem?_eq_getElem ht
    have h2 : us[t]? = some us[t] := List.getElem?_eq_getElem (by omega)
    have h3 : (us.toArray ++ Array.replicate (N - us.toArray.size) undef).getD t undef = us[t] := by
      simp [Array.getD_eq_getD_getElem?, Array.getElem?_append, hl, ht, h2]
    rw [h3, List.getD_eq_getElem?_getD, h1]
    exact hr t _ _ h1 h2
  · have h1 : args[t]? = none := List.getElem?_eq_none (by omega)
    have h3 : (us.toArray ++ Array.replicate (N - us.toArray.size) undef).getD t undef = undef := by
      rw [Array.getD_eq_getD_getElem?, Array.getElem?_append]
      simp only [List.size_toArray, hl, ht, if_false]
      rw [Array.getElem?_replicate]
      split <;> rfl
    rw [h3, List.getD_eq_getElem?_getD, h1]
    exact .v undef

theorem evF_sound (hz : P.funcs.size ≤ 1000000000) (hI : I.Ok P) (hC : ∀ f xs x, C f xs = some x → FOk P pf f xs x) (hm : P.follows .mixedOrders = true) {f : FuncId} {fn : Func} {c : Code} {MM : Nat → List Nat} {m : Nat} {args : List AV} {x : AV}
    (hf : P.funcs[f]? = some fn) (hb : fn.body = some c) (hnm : (fn.name == "runtime.NumGoroutine") = false) (hok : okC fn.ntmps pf MM c = true) (h : evF I C pf m fn c args = some x) : PureOk P f args x := by
  refine ⟨⟨fn, hf, hnm, by simp [hb]⟩, fun w V us hV hl hr => ?_⟩
  unfold evF at h
  split at h
  case isFalse => cases h
  rename_i hg
  obtain ⟨hN, hcl⟩ := hg
  obtain ⟨⟨ex, s⟩, he, h⟩ := Option.bind_eq_some_iff.1 h
  refine calls_of_wp hf hb ?_
  refine code_sound hz hI hC hm m c hok _ (St.init args) s ex _ w (gV V) (Sim.init hV hl hN hr) (fun i hi => hi.elim) he fun a' w' g' hS hD' => ?_
  have main : ((evRes I s fn.results.toList).bind fun xs => giveAll s.σ xs) = some x → bodyPost P fn (fun en w' => ∃ V' u B, en = .returned u ∧ Below w.heap.size w w' ∧ (∀ b, V b → V' b) ∧ (∀ b, V' b → (V b ∨ w.heap.size ≤ b) ∧ b < w'.heap.size) ∧ Res w' V' x u B ∧ B.Nodup ∧ ∀ b ∈ B, w.heap.size ≤ b ∧ b < w'.heap.size) .ret a' w' := by
    intro h
    obtain ⟨xs, hx1, hx2⟩ := Option.bind_eq_some_iff.1 h
    obtain ⟨us', i1, i2, i3⟩ := evRes_sound hI hS.inv hS.env _ xs hx1
    refine ⟨hS.dfr, ofRes us', results_run i3, ?_⟩
    unfold giveAll at hx2
    obtain ⟨⟨ys, os, is⟩, hy, hx2⟩ := Option.bind_eq_some_iff.1 hx2
    simp only at hx2
    split at hx2
    case isFalse => cases hx2
    rename_i hdis
    obtain ⟨hnd, hdis⟩ := hdis
    let V' : Nat → Prop := fun k => k < w'.heap.size ∧ (V k ∨ w.heap.size ≤ k) ∧ k ∉ blocksOf g' s.σ os
    have hlt : ∀ i t b, s.σ i = some t → blockOf g' i t = some b → b < w'.heap.size ∧ ¬ g'.V b := fun i t b h1 h2 => (hS.inv.lies i t h1).lt h2
    have hnew : ∀ i t b, s.σ i = some t → blockOf g' i t = some b → w.heap.size ≤ b := fun i t b h1 h2 => (hS.live i t b h1 h2).elim False.elim id
    have hV1 : ∀ b, g'.V b → V' b := fun b hb => ⟨hS.inv.vlt b hb, (hS.VV0 b hb).elim .inl (fun h => h.elim False.elim .inr), fun hm => by
      obtain ⟨i, _, t, h1, h2⟩ := mem_blocksOf.1 hm
      exact (hlt i t b h1 h2).2 hb⟩
    have hR : ResL w' V' ys us' (blocksOf g' s.σ os) := by
      refine giveL_sound hS.inv V' hV1 xs ys us' os is i1 i2 hy (fun i hi t ht b hb => ⟨(hlt i t b ht hb).1, .inr (hnew i t b ht hb), fun hm => ?_⟩) fun i hi t ht b hb hV' => hV'.2.2 (mem_blocksOf.2 ⟨i, hi, t, ht, hb⟩)
      obtain ⟨j, hj, t', h1, h2⟩ := mem_blocksOf.1 hm
      exact hS.inv.apart i j t t' b (fun e => hdis j hj (e ▸ hi)) ht h1 hb h2
    refine ⟨V', ofRes us', blocksOf g' s.σ os, rfl, ⟨hS.os, hS.tape, hS.output, hS.size, fun k hk => hS.keep k hk fun hf => hf⟩, fun b hb => hV1 b (hS.V0V b hb), fun b hb => ⟨hb.2.1, hb.1⟩, ?_, blocksOf_nodup hS.inv os hnd, fun b hb => ?_⟩
    · split at hx2
      · cases hx2
      · rename_i y hnt
        obtain rfl := Option.some.inj hx2
        generalize blocksOf g' s.σ os = B at hR ⊢
        cases hR with
        | cons h1 k =>
          cases k
          rw [List.append_nil]
          simp only [ofRes]
          cases y with
          | t zs => exact (hnt zs rfl).elim
          | _ => exact h1
      · rename_i hn1 hn2
        obtain rfl := Option.some.inj hx2
        refine ⟨us'.toArray, ?_, hR⟩
        clear hx2
        generalize blocksOf g' s.σ os = B at hR
        cases hR with
        | nil => rfl
        | cons h1 k =>
          cases k with
          | nil => exact (hn2 _ rfl).elim
          | cons h2 k => rfl
    · obtain ⟨i, _, t, h1, h2⟩ := mem_blocksOf.1 hb
      exact ⟨hnew i t b h1 h2, (hlt i t b h1 h2).1⟩
  cases ex with
  | exit id => cases h
  | ret => exact main h
  | normal => exact main h

theorem evN_sound (hz : P.funcs.size ≤ 1000000000) (hI : I.Ok P) (hC : ∀ f xs x, C f xs = some x → FOk P pf f xs x) (hm : P.follows .mixedOrders = true) {f : FuncId} {fn : Func} {c : Code} {MM : Nat → List Nat} {m : Nat} {args : List AV} {x : AV}
    (hf : P.funcs[f]? = some fn) (hb : fn.body = some c) (hnm : (fn.name == "runtime.NumGoroutine") = false) (hok : okC fn.ntmps pf MM c = true) (h : evN I C pf m fn c args = some x) : NewOk P f args x := by
  refine ⟨⟨fn, hf, hnm, by simp [hb]⟩, ?_⟩
  unfold evN at h
  split at h
  case isFalse => cases h
  rename_i hg
  obtain ⟨hN, hcl⟩ := hg
  obtain ⟨⟨ex, s⟩, he, h⟩ := Option.bind_eq_some_iff.1 h
  have main : ((evRes I s fn.results.toList).bind fun xs => match xs with
        | [.r id 0] => match s.σ id with
          | some (.ob T cs) => if closedL cs then some (.o T 0 0 cs) else none
          | _ => none
        | _ => none) = some x → (∃ i, ex = .exit i) ∨ ∃ id T cs, x = .o T 0 0 cs ∧ s.σ id = some (.ob T cs) ∧ closedL cs = true ∧ evRes I s fn.results.toList = some [.r id 0] := by
    intro h
    obtain ⟨xs, hx1, hx2⟩ := Option.bind_eq_some_iff.1 h
    split at hx2
    · rename_i id
      split at hx2
      · rename_i T cs hs
        split at hx2
        · rename_i hcs
          obtain rfl := Option.some.inj hx2
          exact .inr ⟨id, T, cs, rfl, hs, hcs, hx1⟩
        · cases hx2
      · cases hx2
    · cases hx2
  have hex : ∃ id T cs, x = .o T 0 0 cs ∧ s.σ id = some (.ob T cs) ∧ closedL cs = true ∧ evRes I s fn.results.toList = some [.r id 0] ∧ ∀ i, ex ≠ .exit i := by
    cases ex with
    | exit id => cases h
    | ret =>
      rcases main h with ⟨i, hi⟩ | ⟨id, T, cs, h1, h2, h3, h4⟩
      · cases hi
      · exact ⟨id, T, cs, h1, h2, h3, h4, fun i => by simp⟩
    | normal =>
      rcases main h with ⟨i, hi⟩ | ⟨id, T, cs, h1, h2, h3, h4⟩
      · cases hi
      · exact ⟨id, T, cs, h1, h2, h3, h4, fun i => by simp⟩
  obtain ⟨id, T, cs, rfl, hs, hcs, hres, hne⟩ := hex
  refine ⟨T, 0, cs, rfl, fun w V us hV hl hr => ?_⟩
  refine calls_of_wp hf hb ?_
  refine code_sound hz hI hC hm m c hok _ (St.init args) s ex _ w (gV V) (Sim.init hV hl hN hr) (fun i hi => hi.elim) he fun a' w' g' hS hD' => ?_
  have post : bodyPost P fn (fun en w' => ∃ V' b vs, en = .returned (.pointer (some ⟨b, 0, none⟩)) ∧ Below w.heap.size w w' ∧ (∀ b, V b → V' b) ∧ (∀ b, V' b → (V b ∨ w.heap.size ≤ b) ∧ b < w'.heap.size) ∧
      w.heap.size ≤ b ∧ w'.heap[b]? = some (.cells vs T (0, 0)) ∧ vs.size = cs.length ∧ Cells w' (gV V') cs vs ∧ ¬ V' b) .ret a' w' := by
    obtain ⟨us', i1, i2, i3⟩ := evRes_sound hI hS.inv hS.env _ _ hres
    refine ⟨hS.dfr, ofRes us', results_run i3, ?_⟩
    obtain ⟨u, rfl⟩ : ∃ u, us' = [u] := by
      cases us' with
      | nil => simp at i1
      | cons u r => cases r with
        | nil => exact ⟨u, rfl⟩
        | cons v r => simp at i1
    have hrep := i2 0 _ u rfl rfl
    cases hrep
    rename_i b hD hA
    obtain ⟨b', vs, e1, e2, e3, e4, e5⟩ := hS.inv.lies id _ hs
    rw [hA] at e1
    simp only [Option.some.injEq, Addr.mk.injEq, and_true] at e1
    subst e1
    have hbl : blockOf g' id (.ob T cs) = some b := by simp [blockOf, hA]
    refine ⟨g'.V, b, vs, rfl, ⟨hS.os, hS.tape, hS.output, hS.size, fun k hk => hS.keep k hk fun hf => hf⟩, hS.V0V, fun b hb => ⟨(hS.VV0 b hb).elim .inl (fun h => h.elim False.elim .inr), hS.inv.vlt b hb⟩, (hS.live id _ b hs hbl).elim False.elim (fun h => h), e2, e3, fun j c hj => ?_, e5⟩
    obtain ⟨u, h4, h5⟩ := e4 j c hj
    exact ⟨u, h4, h5.closed_to (closedL_mem _ hcs j c hj) fun _ h => h⟩
  cases ex with
  | exit id => exact (hne id rfl).elim
  | ret => exact post
  | normal => exact post
end
end Go.Proofs.YtegbkihgnofkfaaGreatDoor.Ev

/-
The engine, part 22a: a function as a whole that may change what it is given.
-/
namespace Go.Proofs.YtegbkihgnofkfaaGreatDoor.Ev
section
set_option linter.unusedVariables false
set_option linter.unusedSimpArgs false
open Go Go.RowKit
set_option linter.unusedVariables false
set_option linter.unusedSimpArgs false
variable {P : Program} {I : Tab} {C : Sem1} {pf : FuncId → Nat} {w : World} {g : G} {σ : Sto}

/-- A world without a heap, from which everything is new. -/
theorem adv_from0 (hv : Inv w g σ) (key : Nat) : Adv { w with heap := #[] } ⟨fun _ => False, g.ρ, g.D⟩ (fun _ => none) key w g σ :=
  ⟨⟨fun _ h => h.elim, fun _ h => h.elim, fun _ h => h, fun _ _ => rfl⟩, hv, rfl, rfl, rfl, Nat.zero_le _, fun b hb => by simp at hb, fun b _ => .inr (.inl (Nat.zero_le _)), fun _ _ b _ _ => .inl (Nat.zero_le _), fun i hi => .inl hi⟩

theorem rowsIn_inv : ∀ (xs : List AV) (us : List Value) (B : List Nat) (k : Nat) (g : G) (σ : Sto), Inv w g σ → (∀ i, g.D i → i < k) → ResL w g.V xs us B → B.Nodup → (∀ b ∈ B, ∀ j t, σ j = some t → blockOf g j t ≠ some b) →
    ∃ g2, Inv w g2 (rowsIn σ k xs).2.1 ∧ Onto w g w g2 ∧ g2.V = g.V ∧ (∀ i, g2.D i → i < (rowsIn σ k xs).2.2) ∧ (∀ i, g2.D i → g.D i ∨ k ≤ i) ∧ (rowsIn σ k xs).1.length = us.length ∧
      (∀ (j : Nat) (y : AV) (u : Value), (rowsIn σ k xs).1[j]? = some y → us[j]? = some u → Rep w g2 y u) ∧ (∀ j t b, (rowsIn σ k xs).2.1 j = some t → blockOf g2 j t = some b → b ∈ B ∨ ∃ j0 t0, σ j0 = some t0 ∧ blockOf g j0 t0 = some b)
  | [], us, B, k, g, σ, hv, hD, hr, hnd, hB => by
    cases hr
    exact ⟨g, hv, Onto.refl _ _, rfl, hD, fun i hi => .inl hi, rfl, fun j y u hj => by simp [rowsIn] at hj, fun j t b hj hb => .inr ⟨j, t, hj, hb⟩⟩
  | x :: xs, _, _, k, g, σ, hv, hD, .cons (u := u) (B := B) (us := us) (Bs := Bs) hr1 hr2, hnd, hB => by
    rw [List.nodup_append] at hnd
    by_cases ho : ∃ E sz n cs, x = .o E sz n cs
    · obtain ⟨E, sz, n, cs, rfl⟩ := ho
      have hrow : rowsIn σ k (.o E sz n cs :: xs) = (.w k 0 n :: (rowsIn (upd σ k (some (.row E sz n cs))) (k + 1) xs).1, (rowsIn (upd σ k (some (.row E sz n cs))) (k + 1) xs).2) := rfl
      rw [hrow]
      simp only
      have hcc : closedL cs = true := by
        obtain ⟨A, c, _, _, _, _, _, hcc, _⟩ := hr1
        exact hcc
      obtain ⟨g2, h2, hrep, hon, hV, hDD, hlv⟩ := adopt1_sound (y := .w k 0 n) (σ2 := upd σ k (some (.row E sz n cs))) (adv_from0 hv k) (k := k) (fun h => Nat.lt_irrefl _ (hD k h)) ⟨Nat.le_refl _, by omega⟩ hr1 (fun b hb => ⟨.inl (Nat.zero_le _), hB b (List.mem_append_left _ hb)⟩) (by simp only [adopt1, hcc, if_true])
      obtain ⟨g3, h3, hon3, hV3, hD3, hk3, hl3, hr3, hlv3⟩ := rowsIn_inv xs us Bs (k + 1) g2 (upd σ k (some (.row E sz n cs))) h2.inv (fun i h6 => by
        rcases hDD i h6 with h7 | h7
        · exact Nat.lt_succ_of_lt (hD i h7)
        · omega) (by rw [hV]; exact hr2) hnd.2.1 (fun b hb j t hj hbl => by
          rcases hlv j t b hj hbl with h7 | ⟨j0, t0, h7, h8⟩
          · exact hnd.2.2 b h7 b hb rfl
          · exact hB b (List.mem_append_right _ hb) j0 t0 h7 h8)
      refine ⟨g3, h3, hon.trans hon3, hV3.trans hV, hD3, fun i hi => (hk3 i hi).elim (fun h => (hDD i h).elim .inl fun h => .inr (by omega)) fun h => .inr (by omega), by simp [hl3], fun j y' u' hj hu => ?_, fun j t b hj hb => ?_⟩
      · cases j with
        | zero =>
          simp at hj hu
          subst hj hu
          exact hrep.onto hon3
        | succ j => exact hr3 j y' u' (by simpa using hj) (by simpa using hu)
      · rcases hlv3 j t b hj hb with h7 | ⟨j0, t0, h7, h8⟩
        · exact .inl (List.mem_append_right _ h7)
        · rcases hlv j0 t0 b h7 h8 with h9 | h9
          · exact .inl (List.mem_append_left _ h9)
          · exact .inr h9
    · have hrow : rowsIn σ k (x :: xs) = (x :: (rowsIn σ k xs).1, (rowsIn σ k xs).2) := by
        cases x
        case o E sz n cs => exact (ho ⟨E, sz, n, cs, rfl⟩).elim
        all_goals rfl
      have hone : B = [] ∧ closed x = true ∧ Rep w (gV g.V) x u := by
        cases x
        case o E sz n cs => exact (ho ⟨E, sz, n, cs, rfl⟩).elim
        all_goals exact hr1
      obtain ⟨rfl, hc, hrep⟩ := hone
      rw [hrow]
      simp only
      obtain ⟨g3, h3, hon3, hV3, hD3, hk3, hl3, hr3, hlv3⟩ := rowsIn_inv xs us Bs k g σ hv hD hr2 hnd.2.1 (fun b hb => hB b (List.mem_append_right _ hb))
      refine ⟨g3, h3, hon3, hV3, hD3, hk3, by simp [hl3], fun j y' u' hj hu => ?_, fun j t b hj hb => ?_⟩
      · cases j with
        | zero =>
          simp at hj hu
          subst hj hu
          exact (hrep.closed_to (g' := g) hc fun _ h => h).onto hon3
        | succ j => exact hr3 j y' u' (by simpa using hj) (by simpa using hu)
      · rcases hlv3 j t b hj hb with h7 | h7
        · exact .inl (List.mem_append_right _ h7)
        · exact .inr h7

def place0 (g : G) : AV → CR
  | .r id 0 => ⟨(g.ρ id).A, 0⟩
  | .w id _ _ => g.ρ id
  | .p [.w id _ _] => g.ρ id
  | _ => ⟨none, 0⟩

theorem place0_onto {w1 : World} {g1 : G} (h : Onto w g w1 g1) {x : AV} {u : Value} (hx : Rep w g x u) : place0 g1 x = place0 g x := by
  cases hx
  case r id off b hD hA =>
    cases off with
    | zero => simp [place0, h.ρ _ hD]
    | succ n => rfl
  case w id lo n c A hD _ _ _ => simp [place0, h.ρ _ hD]
  case p cs ad us hV h1 h2 =>
    cases cs with
    | nil => rfl
    | cons c cs =>
      cases cs with
      | cons _ _ => cases c <;> rfl
      | nil =>
        cases c
        case w id lo n =>
          have r := h2 0 _ rfl
          generalize us 0 = u0 at r
          cases r
          rename_i hD _ _ _
          exact h.ρ _ hD
        all_goals rfl
  all_goals rfl

theorem place0_closed {x : AV} (hc : closed x = true) : place0 g x = ⟨none, 0⟩ := by
  cases x
  case p cs =>
    cases cs with
    | nil => rfl
    | cons c cs =>
      cases cs with
      | cons _ _ => cases c <;> rfl
      | nil =>
        cases c
        case w => simp [closed, closedL] at hc
        all_goals rfl
  all_goals first | rfl | (simp [closed] at hc)

theorem inits_sound : ∀ (xs : List AV) (us : List Value) (cs : List CR) (B : List Nat) (k : Nat) (g : G) (σ : Sto), Inv w g σ → (∀ i, g.D i → i < k) → LentL w g.V xs us cs B → B.Nodup → (∀ b ∈ B, ∀ j t, σ j = some t → blockOf g j t ≠ some b) →
    ∃ g2, Inv w g2 (inits σ k xs).2.1 ∧ Onto w g w g2 ∧ g2.V = g.V ∧ (∀ i, g2.D i → i < (inits σ k xs).2.2) ∧ (inits σ k xs).1.length = us.length ∧
      (∀ (j : Nat) (y : AV) (u : Value), (inits σ k xs).1[j]? = some y → us[j]? = some u → Rep w g2 y u) ∧ (inits σ k xs).1.map (place0 g2) = cs ∧ (∀ j t b, (inits σ k xs).2.1 j = some t → blockOf g2 j t = some b → b ∈ B ∨ ∃ j0 t0, σ j0 = some t0 ∧ blockOf g j0 t0 = some b)
  | [], us, cs, B, k, g, σ, hv, hD, hr, hnd, hB => by
    cases hr
    exact ⟨g, hv, Onto.refl _ _, rfl, hD, rfl, fun j y u hj => by simp [inits] at hj, rfl, fun j t b hj hb => .inr ⟨j, t, hj, hb⟩⟩
  | x :: xs, _, _, _, k, g, σ, hv, hD, .cons (u := u) (c := c) (B := B) (us := us) (cs := cs) (Bs := Bs) hr1 hr2, hnd, hB => by
    rw [List.nodup_append] at hnd
    -- one more value in front
    have fin : ∀ (v : AV) (k1 : Nat) (g1 : G) (σ1 : Sto), Inv w g1 σ1 → Onto w g w g1 → g1.V = g.V → (∀ i, g1.D i → i < k1) → Rep w g1 v u → place0 g1 v = c → (∀ j t b, σ1 j = some t → blockOf g1 j t = some b → b ∈ B ∨ ∃ j0 t0, σ j0 = some t0 ∧ blockOf g j0 t0 = some b) →
        inits σ k (x :: xs) = (v :: (inits σ1 k1 xs).1, (inits σ1 k1 xs).2) →
        ∃ g2, Inv w g2 (inits σ k (x :: xs)).2.1 ∧ Onto w g w g2 ∧ g2.V = g.V ∧ (∀ i, g2.D i → i < (inits σ k (x :: xs)).2.2) ∧ (inits σ k (x :: xs)).1.length = (u :: us).length ∧
          (∀ (j : Nat) (y : AV) (q : Value), (inits σ k (x :: xs)).1[j]? = some y → (u :: us)[j]? = some q → Rep w g2 y q) ∧ (inits σ k (x :: xs)).1.map (place0 g2) = c :: cs ∧ (∀ j t b, (inits σ k (x :: xs)).2.1 j = some t → blockOf g2 j t = some b → b ∈ B ++ Bs ∨ ∃ j0 t0, σ j0 = some t0 ∧ blockOf g j0 t0 = some b) := by
      intro v k1 g1 σ1 hv1 hon hV hD1 hrep hpl hlv he
      rw [he]
      obtain ⟨g2, h2, hon2, hV2, hD2, hl2, hr2', hp2, hlv2⟩ := inits_sound xs us cs Bs k1 g1 σ1 hv1 hD1 (by rw [hV]; exact hr2) hnd.2.1 (fun b hb j t hj hbl => by
        rcases hlv j t b hj hbl with h7 | ⟨j0, t0, h7, h8⟩
        · exact hnd.2.2 b h7 b hb rfl
        · exact hB b (List.mem_append_right _ hb) j0 t0 h7 h8)
      refine ⟨g2, h2, hon.trans hon2, hV2.trans hV, hD2, by simp [hl2], fun j y q hj hq => ?_, by simp only [List.map_cons, hp2, place0_onto hon2 hrep, hpl], fun j t b hj hb => ?_⟩
      · cases j with
        | zero =>
          simp at hj hq
          subst hj hq
          exact hrep.onto hon2
        | succ j => exact hr2' j y q (by simpa using hj) (by simpa using hq)
      · rcases hlv2 j t b hj hb with h7 | ⟨j0, t0, h7, h8⟩
        · exact .inl (List.mem_append_right _ h7)
        · rcases hlv j0 t0 b h7 h8 with h9 | h9
          · exact .inl (List.mem_append_left _ h9)
          · exact .inr h9
    cases hr1 with
    | pl ht hc hrep =>
      refine fin x k g σ hv (Onto.refl _ _) rfl hD (hrep.closed_to hc fun _ h => h) (place0_closed hc) (fun j t b hj hb => .inr ⟨j, t, hj, hb⟩) ?_
      cases x
      case t q => exact (ht q rfl).elim
      all_goals rfl
    | ob hh hres hnv =>
      rename_i T ps b vs Bo
      rw [List.nodup_cons] at hnd
      obtain ⟨g1, h1, hon1, hV1, hD1, hk1, hl1, hr1, hlv1⟩ := rowsIn_inv ps vs.toList Bo (k + 1) g σ hv (fun i hi => Nat.lt_succ_of_lt (hD i hi)) hres hnd.1.2 (fun b' hb' => hB b' (List.mem_append_left _ (List.mem_cons_of_mem _ hb')))
      have hkD : ¬ g1.D k := fun h => (hk1 k h).elim (fun h => Nat.lt_irrefl _ (hD k h)) fun h => by omega
      have hon2 : Onto w g1 w (g1.add k ⟨some ⟨b, 0, none⟩, 0⟩) := onto_add _ hkD fun _ _ => rfl
      have hlies : Lies w (g1.add k ⟨some ⟨b, 0, none⟩, 0⟩) k (.ob T (rowsIn σ (k + 1) ps).1) := by
        refine ⟨b, vs, by simp [G.add], hh, by simpa using hl1.symm, fun j c hj => ?_, by show ¬ g1.V b; rw [hV1]; exact hnv⟩
        have hlt : j < vs.size := by
          have := (List.getElem?_eq_some_iff.1 hj).1
          simp at hl1
          omega
        exact ⟨vs[j], by simp [hlt], (hr1 j c vs[j] hj (by simp [hlt])).onto hon2⟩
      have hadd := (adv_from0 h1 k).adopt hkD ⟨Nat.le_refl _, by omega⟩ ⟨some ⟨b, 0, none⟩, 0⟩ _ hlies (fun b' hb' => by
        simp only [blockOf, G.add, if_true, Option.map_some, Option.some.injEq] at hb'
        subst hb'
        refine ⟨.inl (Nat.zero_le _), fun j t hj hbl => ?_⟩
        rcases hlv1 j t b hj hbl with h7 | ⟨j0, t0, h7, h8⟩
        · exact hnd.1.1 h7
        · exact hB b (List.mem_append_left _ List.mem_cons_self) j0 t0 h7 h8)
      have hkk : ∀ (xs : List AV) (σ : Sto) (k : Nat), k ≤ (rowsIn σ k xs).2.2 := by
        intro xs
        induction xs with
        | nil => exact fun _ _ => Nat.le_refl _
        | cons x xs ih =>
          intro σ k
          cases x
          case o E sz n cs => exact Nat.le_of_succ_le (ih _ (k + 1))
          all_goals exact ih _ k
      have hk2 := hkk ps σ (k + 1)
      refine fin (.r k 0) (rowsIn σ (k + 1) ps).2.2 _ _ hadd.inv (hon1.trans hon2) hV1 (fun i hi => ?_) (.r _ _ b (.inr rfl) (by simp [G.add])) (by simp [place0, G.add]) (fun j t b' hj hbl => ?_) (by simp only [inits, ni, Int.toNat_natCast])
      · rcases hi with hi | hi
        · exact hD1 i hi
        · omega
      · by_cases e : j = k
        · subst e
          simp only [upd, if_true, Option.some.injEq] at hj
          subst hj
          simp only [blockOf, G.add, if_true, Option.map_some, Option.some.injEq] at hbl
          exact .inl (hbl ▸ List.mem_cons_self)
        · rw [blockOf_add _ e] at hbl
          rcases hlv1 j t b' (by simpa [upd, e] using hj) hbl with h7 | h7
          · exact .inl (List.mem_cons_of_mem _ h7)
          · exact .inr h7
    | row hres hn h0 h1 =>
      rename_i lo n E sz N ds A0 c0 A c1
      have hkD : ¬ g.D k := fun h => Nat.lt_irrefl _ (hD k h)
      have hcc : closedL ds = true := by
        obtain ⟨A, c, _, _, _, _, _, hcc, _⟩ := hres
        exact hcc
      have hl : Res1 w g.V (.o E sz N ds) (.slice A0 N c0) B := hres
      obtain ⟨A1, c2, e0, l1, l2, l3, l4, _, hblk⟩ := hres
      simp only [Value.slice.injEq, true_and] at e0
      obtain ⟨rfl, rfl⟩ := e0
      have hon2 : Onto w g w (g.add k ⟨A0, c0⟩) := onto_add _ hkD fun _ _ => rfl
      have hlies : Lies w (g.add k ⟨A0, c0⟩) k (.row E sz N ds) := by
        refine ⟨l1, by simpa [G.add] using l2, by simpa [G.add] using l3, l4, ?_⟩
        rcases hblk with ⟨q1, q2⟩ | ⟨b, vs, q1, q2, q3, q4, q5, q6⟩
        · exact .inl (by simpa [G.add] using q1)
        · exact .inr ⟨b, vs, by simpa [G.add] using q2, q3, by simpa [G.add] using q4, fun j c hj => by
            obtain ⟨v, f1, f2⟩ := q5 j c hj
            exact ⟨v, f1, f2.closed_to (closedL_mem ds hcc j c hj) fun _ h => h⟩, q6⟩
      have hbo : ∀ b, blockOf (g.add k ⟨A0, c0⟩) k (.row E sz N ds) = some b → b ∈ B := by
        intro b hb'
        simp only [blockOf, G.add, if_true] at hb'
        split at hb'
        · cases hb'
        · rcases hblk with ⟨q1, q2⟩ | ⟨b2, vs, q1, q2, _⟩
          · contradiction
          · rw [q2] at hb'
            simp only [Option.map_some, Option.some.injEq] at hb'
            rw [q1, ← hb']
            exact List.mem_cons_self
      have hadd := (adv_from0 hv k).adopt hkD ⟨Nat.le_refl _, by omega⟩ ⟨A0, c0⟩ _ hlies (fun b' hb' => ⟨.inl (Nat.zero_le _), fun j t hj hbl => hB b' (List.mem_append_left _ (hbo b' hb')) j t hj hbl⟩)
      refine fin (.w k lo n) (k + 1) _ _ hadd.inv hon2 rfl (fun i hi => ?_) ?_ (by simp [place0, G.add]) (fun j t b' hj hbl => ?_) (by simp only [inits, ni, Int.toNat_natCast])
      · rcases hi with hi | hi
        · exact Nat.lt_succ_of_lt (hD i hi)
        · omega
      · exact .w _ _ _ _ _ (.inr rfl) hn (fun h => by simpa [G.add] using h0 h) (fun h => by simpa [G.add] using h1 h)
      · by_cases e : j = k
        · subst e
          simp only [upd, if_true, Option.some.injEq] at hj
          subst hj
          exact .inl (hbo b' hbl)
        · rw [blockOf_add _ e] at hbl
          exact .inr ⟨j, t, by simpa [upd, e] using hj, hbl⟩
    | pw hres hn h0 h1 hpV hpc =>
      rename_i lo n E sz N ds A0 c0 A c1 ad
      have hkD : ¬ g.D k := fun h => Nat.lt_irrefl _ (hD k h)
      have hcc : closedL ds = true := by
        obtain ⟨A, c, _, _, _, _, _, hcc, _⟩ := hres
        exact hcc
      have hl : Res1 w g.V (.o E sz N ds) (.slice A0 N c0) B := hres
      obtain ⟨A1, c2, e0, l1, l2, l3, l4, _, hblk⟩ := hres
      simp only [Value.slice.injEq, true_and] at e0
      obtain ⟨rfl, rfl⟩ := e0
      have hon2 : Onto w g w (g.add k ⟨A0, c0⟩) := onto_add _ hkD fun _ _ => rfl
      have hlies : Lies w (g.add k ⟨A0, c0⟩) k (.row E sz N ds) := by
        refine ⟨l1, by simpa [G.add] using l2, by simpa [G.add] using l3, l4, ?_⟩
        rcases hblk with ⟨q1, q2⟩ | ⟨b, vs, q1, q2, q3, q4, q5, q6⟩
        · exact .inl (by simpa [G.add] using q1)
        · exact .inr ⟨b, vs, by simpa [G.add] using q2, q3, by simpa [G.add] using q4, fun j c hj => by
            obtain ⟨v, f1, f2⟩ := q5 j c hj
            exact ⟨v, f1, f2.closed_to (closedL_mem ds hcc j c hj) fun _ h => h⟩, q6⟩
      have hbo : ∀ b, blockOf (g.add k ⟨A0, c0⟩) k (.row E sz N ds) = some b → b ∈ B := by
        intro b hb'
        simp only [blockOf, G.add, if_true] at hb'
        split at hb'
        · cases hb'
        · rcases hblk with ⟨q1, q2⟩ | ⟨b2, vs, q1, q2, _⟩
          · contradiction
          · rw [q2] at hb'
            simp only [Option.map_some, Option.some.injEq] at hb'
            rw [q1, ← hb']
            exact List.mem_cons_self
      have hadd := (adv_from0 hv k).adopt hkD ⟨Nat.le_refl _, by omega⟩ ⟨A0, c0⟩ _ hlies (fun b' hb' => ⟨.inl (Nat.zero_le _), fun j t hj hbl => hB b' (List.mem_append_left _ (hbo b' hb')) j t hj hbl⟩)
      refine fin (.p [.w k lo n]) (k + 1) _ _ hadd.inv hon2 rfl (fun i hi => ?_) ?_ (by simp [place0, G.add]) (fun j t b' hj hbl => ?_) (by simp only [inits, ni, Int.toNat_natCast])
      · rcases hi with hi | hi
        · exact Nat.lt_succ_of_lt (hD i hi)
        · omega
      · refine .p _ ad (fun _ => .slice A n c1) hpV (fun j c hj => ?_) (fun j c hj => ?_)
        · cases j with
          | zero => exact hpc
          | succ j => simp at hj
        · cases j with
          | zero =>
            obtain rfl := Option.some.inj hj
            exact .w _ _ _ _ _ (.inr rfl) hn (fun h => by simpa [G.add] using h0 h) (fun h => by simpa [G.add] using h1 h)
          | succ j => simp at hj
      · by_cases e : j = k
        · subst e
          simp only [upd, if_true, Option.some.injEq] at hj
          subst hj
          exact .inl (hbo b' hbl)
        · rw [blockOf_add _ e] at hbl
          exact .inr ⟨j, t, by simpa [upd, e] using hj, hbl⟩

theorem packO_sound (hv : Inv w g σ) {x y : AV} {u : Value} {is : List Nat} (hx : Rep w g x u) (h : packO σ x = some (y, is)) (V : Nat → Prop) (h1 : ∀ b, g.V b → V b) (h3 : ∀ i ∈ is, ∀ s, σ i = some s → ∀ b, blockOf g i s = some b → ¬ V b) :
    Lent1 w V y u (place0 g x) (blocksOf g σ is) := by
  unfold packO at h
  split at h
  · rename_i id
    split at h
    · rename_i T cs hs
      have := pack1_sound hv hx h V h1 h3
      have hp : placeOf g σ (.r id 0) = place0 g (.r id 0) := by simp [placeOf, place0, hs]
      rwa [hp] at this
    · cases h
  · rename_i hn
    have := pack1_sound hv hx h V h1 h3
    have hp : placeOf g σ x = place0 g x := by
      cases x
      case r id off =>
        cases off with
        | zero => exact (hn id rfl).elim
        | succ o => rfl
      case p cs =>
        cases cs with
        | nil => rfl
        | cons c cs =>
          cases cs with
          | cons _ _ => cases c <;> rfl
          | nil => cases c <;> rfl
      all_goals rfl
    rwa [hp] at this

theorem packOL_sound (hv : Inv w g σ) (V : Nat → Prop) (h1 : ∀ b, g.V b → V b) : ∀ (xs ys : List AV) (us : List Value) (is : List Nat), us.length = xs.length → (∀ (j : Nat) (x : AV) (u : Value), xs[j]? = some x → us[j]? = some u → Rep w g x u) → deepC (packO σ) xs = some (ys, is) →
    (∀ i ∈ is, ∀ s, σ i = some s → ∀ b, blockOf g i s = some b → ¬ V b) → LentL w V ys us (xs.map (place0 g)) (blocksOf g σ is)
  | [], ys, us, is, hl, hr, h, h3 => by
    simp only [deepC, Option.some.injEq, Prod.mk.injEq] at h
    obtain ⟨rfl, rfl⟩ := h
    have : us = [] := List.eq_nil_of_length_eq_zero (by simpa using hl)
    subst this
    exact .nil
  | x :: xs, ys, us, is, hl, hr, h, h3 => by
    simp only [deepC] at h
    obtain ⟨⟨y, js⟩, e1, h⟩ := Option.bind_eq_some_iff.1 h
    obtain ⟨⟨ys', ks⟩, e2, h⟩ := Option.map_eq_some_iff.1 h
    simp only [Prod.mk.injEq] at h
    obtain ⟨rfl, rfl⟩ := h
    match us, hl with
    | u :: us, hl =>
      rw [blocksOf_append]
      exact .cons (packO_sound hv (hr 0 x u rfl rfl) e1 V h1 fun i hi => h3 i (List.mem_append_left _ hi))
        (packOL_sound hv V h1 xs ys' us ks (by simpa using hl) (fun j x u hj hu => hr (j + 1) x u (by simpa using hj) (by simpa using hu)) e2 fun i hi => h3 i (List.mem_append_right _ hi))
end
end Go.Proofs.YtegbkihgnofkfaaGreatDoor.Ev

/-
The engine, part 22b: a function that may change what it is given keeps its contract.
-/
namespace Go.Proofs.YtegbkihgnofkfaaGreatDoor.Ev
section
set_option linter.unusedVariables false
set_option linter.unusedSimpArgs false
open Go Go.RowKit
set_option linter.unusedVariables false
set_option linter.unusedSimpArgs false
variable {P : Program} {I : Tab} {C : Sem1} {pf : FuncId → Nat} {w : World} {g : G} {σ : Sto}

theorem env_init {N : Nat} {vs : List AV} {us : List Value} (hl : us.length = vs.length) (hr : ∀ (j : Nat) (y : AV) (u : Value), vs[j]? = some y → us[j]? = some u → Rep w g y u) :
    Env w g (fun t => vs.getD t (.v undef)) { tmps := us.toArray ++ Array.replicate (N - us.toArray.size) undef, defers := [] } := by
  intro t
  by_cases ht : t < vs.length
  · have h1 : vs[t]? = some vs[t] := List.getElem?_eq_getElem ht
    have h2 : us[t]? = some us[t] := List.getElem?_eq_getElem (by omega)
    have h3 : (us.toArray ++ Array.replicate (N - us.toArray.size) undef).getD t undef = us[t] := by
      simp [Array.getD_eq_getD_getElem?, Array.getElem?_append, hl, ht, h2]
    simp only [h3, List.getD_eq_getElem?_getD, h1]
    exact hr t _ _ h1 h2
  · have h1 : vs[t]? = none := List.getElem?_eq_none (by omega)
    have h3 : (us.toArray ++ Array.replicate (N - us.toArray.size) undef).getD t undef = undef := by
      rw [Array.getD_eq_getD_getElem?, Array.getElem?_append]
      simp only [List.size_toArray, hl, ht, if_false]
      rw [Array.getElem?_replicate]
      split <;> rfl
    simp only [h3, List.getD_eq_getElem?_getD, h1]
    exact .v undef

theorem evM_sound (hz : P.funcs.size ≤ 1000000000) (hI : I.Ok P) (hC : ∀ f xs x, C f xs = some x → FOk P pf f xs x) (hm : P.follows .mixedOrders = true) {f : FuncId} {fn : Func} {c : Code} {MM : Nat → List Nat} {m : Nat} {args : List AV} {r : AV}
    (hf : P.funcs[f]? = some fn) (hb : fn.body = some c) (hnm : (fn.name == "runtime.NumGoroutine") = false) (hok : okC fn.ntmps pf MM c = true) (h : evM I C pf m fn c args = some r) : LentOk P f args r := by
  refine ⟨⟨fn, hf, hnm, by simp [hb]⟩, ?_⟩
  unfold evM at h
  generalize hin : inits (fun _ => none) 0 args = q at h
  obtain ⟨vs, σ, k⟩ := q
  simp only at h
  split at h
  case isFalse => cases h
  rename_i hg
  obtain ⟨hN, hvl⟩ := hg
  obtain ⟨⟨ex, s⟩, he, h⟩ := Option.bind_eq_some_iff.1 h
  have hfin : (∀ id, ex ≠ .exit id) ∧ ((evRes I s fn.results.toList).bind fun xs => (giveL s.σ xs).bind fun (ys, os, is) => (deepC (packO s.σ) vs).bind fun (outs, L) =>
        if (os ++ L).Nodup ∧ ∀ i ∈ os ++ L, i ∉ is then (match ys with | [.t _] => none | [y] => some (.t [y, .t outs]) | ys => some (.t [.t ys, .t outs])) else none) = some r := by
    cases ex with
    | exit id => cases h
    | ret => exact ⟨fun id h => (by cases h), h⟩
    | normal => exact ⟨fun id h => (by cases h), h⟩
  obtain ⟨hex, h⟩ := hfin
  obtain ⟨xs, hx1, h⟩ := Option.bind_eq_some_iff.1 h
  obtain ⟨⟨ys, os, is⟩, hy, h⟩ := Option.bind_eq_some_iff.1 h
  obtain ⟨⟨outs, L⟩, ho, h⟩ := Option.bind_eq_some_iff.1 h
  simp only at h
  split at h
  case isFalse => cases h
  rename_i hdis
  obtain ⟨hnd, hdis⟩ := hdis
  obtain ⟨x, hr, hx⟩ : ∃ x, r = .t [x, .t outs] ∧ ((∃ y, ys = [y] ∧ x = y ∧ ∀ zs, y ≠ .t zs) ∨ (x = .t ys ∧ ∀ y, ys ≠ [y])) := by
    split at h
    · cases h
    · rename_i y hnt _
      exact ⟨y, (Option.some.inj h).symm, .inl ⟨y, rfl, rfl, fun zs e => hnt zs e⟩⟩
    · rename_i h1 h2 h3
      exact ⟨.t ys, (Option.some.inj h).symm, .inr ⟨rfl, fun y e => by first | exact h3 y e | exact h2 y e | exact h1 y e⟩⟩
  refine ⟨x, outs, hr, fun w V us cs B hV hL hndB => ?_⟩
  obtain ⟨g0, hv0, hon0, hV0, hD0, hl0, hr0, hp0, hb0⟩ := inits_sound args us cs B 0 (gV V) (fun _ => none) ⟨hV, fun i s h => by simp at h, fun i s h => by simp at h, fun i j s t b _ h => by simp at h⟩ (fun i hi => hi.elim) hL hndB (fun b _ j t hj => by simp at hj)
  rw [hin] at hv0 hD0 hl0 hr0 hp0 hb0
  simp only at hv0 hD0 hl0 hr0 hp0 hb0
  have hblk : ∀ j t b, σ j = some t → blockOf g0 j t = some b → b ∈ B := fun j t b hj hb => (hb0 j t b hj hb).elim id fun ⟨j0, t0, h1, _⟩ => by simp at h1
  have hBV : ∀ b, b ∈ B → ¬ V b ∨ True := fun _ _ => .inr trivial
  refine calls_of_wp hf hb ?_
  have hS0 : Sim w V (· ∈ B) g0 fn.ntmps ⟨fun t => vs.getD t (.v undef), σ, k⟩ { tmps := us.toArray ++ Array.replicate (fn.ntmps - us.toArray.size) undef, defers := [] } w g0 :=
    ⟨rfl, rfl, rfl, Nat.le_refl _, fun _ _ _ => rfl, fun b hb => by rw [hV0]; exact hb, fun b hb => .inl (by rw [hV0] at hb; exact hb), fun i hi => ⟨hi, rfl⟩, env_init hl0.symm hr0, by simp; omega, rfl, hv0, fun i t b hi hb => .inl (hblk i t b hi hb)⟩
  refine code_sound hz hI hC hm m c hok _ _ s ex _ w g0 hS0 hD0 he fun a' w' g' hS hD' => ?_
  have main : bodyPost P fn (fun en w' => ∃ V' u B1 B2, en = .returned u ∧ w'.os = w.os ∧ w'.tape = w.tape ∧ w'.output = w.output ∧ w.heap.size ≤ w'.heap.size ∧ (∀ k, k < w.heap.size → k ∉ B → w'.heap[k]? = w.heap[k]?) ∧
      (∀ b, V b → V' b) ∧ (∀ b, V' b → (V b ∨ w.heap.size ≤ b ∨ b ∈ B) ∧ b < w'.heap.size) ∧ Res w' V' x u B1 ∧ LentO w' V' outs us cs B2 ∧ (B1 ++ B2).Nodup ∧ ∀ b ∈ B1 ++ B2, b ∈ B ∨ w.heap.size ≤ b) .ret a' w' := by
    obtain ⟨us', i1, i2, i3⟩ := evRes_sound hI hS.inv hS.env _ xs hx1
    refine ⟨hS.dfr, ofRes us', results_run i3, ?_⟩
    have hlt : ∀ i t b, s.σ i = some t → blockOf g' i t = some b → b < w'.heap.size ∧ ¬ g'.V b := fun i t b h1 h2 => (hS.inv.lies i t h1).lt h2
    have hlive : ∀ i t b, s.σ i = some t → blockOf g' i t = some b → b ∈ B ∨ w.heap.size ≤ b := fun i t b h1 h2 => hS.live i t b h1 h2
    let V' : Nat → Prop := fun k => k < w'.heap.size ∧ (V k ∨ w.heap.size ≤ k ∨ k ∈ B) ∧ k ∉ blocksOf g' s.σ (os ++ L)
    have hV1 : ∀ b, g'.V b → V' b := fun b hb => ⟨hS.inv.vlt b hb, (hS.VV0 b hb).elim .inl (fun h => h.elim (fun h => .inr (.inr h)) fun h => .inr (.inl h)), fun hm => by
      obtain ⟨i, _, t, h1, h2⟩ := mem_blocksOf.1 hm
      exact (hlt i t b h1 h2).2 hb⟩
    have hown : ∀ i ∈ os ++ L, ∀ t, s.σ i = some t → ∀ b, blockOf g' i t = some b → ¬ V' b := fun i hi t ht b hb hV' => hV'.2.2 (mem_blocksOf.2 ⟨i, hi, t, ht, hb⟩)
    have hR : ResL w' V' ys us' (blocksOf g' s.σ os) := by
      refine giveL_sound hS.inv V' hV1 xs ys us' os is i1 i2 hy (fun i hi t ht b hb => ⟨(hlt i t b ht hb).1, (hlive i t b ht hb).elim (fun h => .inr (.inr h)) (fun h => .inr (.inl h)), fun hm => ?_⟩) fun i hi t ht b hb => hown i (List.mem_append_left _ hi) t ht b hb
      obtain ⟨j, hj, t', h1, h2⟩ := mem_blocksOf.1 hm
      exact hS.inv.apart i j t t' b (fun e => hdis j hj (e ▸ hi)) ht h1 hb h2
    -- what was lent
    have hmono : Onto w g0 w' g' := by
      refine ⟨fun b hb => hS.V0V b (by rw [hV0] at hb; exact hb), fun b hb => ?_, fun i hi => (hS.rho i hi).1, fun i hi => (hS.rho i hi).2⟩
      have hbV : V b := by rw [hV0] at hb; exact hb
      refine hS.keep b (hV b hbV) fun hbB => ?_
      have hno : ∀ (xs : List AV) (us : List Value) (cs : List CR) (B : List Nat), LentL w V xs us cs B → ∀ b ∈ B, ¬ V b := by
        intro xs us cs B hL
        have res1 : ∀ {x : AV} {u : Value} {B : List Nat}, Res1 w V x u B → ∀ b ∈ B, ¬ V b := by
          intro x u B h b hb
          cases x
          case o E sz n cs =>
            obtain ⟨A, c, _, _, _, _, _, _, h⟩ := h
            rcases h with ⟨_, h⟩ | ⟨b', vs, h, _, _, _, _, h6⟩
            · subst h
              cases hb
            · subst h
              simp only [List.mem_singleton] at hb
              exact hb ▸ h6
          all_goals
            obtain ⟨h, _⟩ := h
            subst h
            cases hb
        have resl : ∀ {xs : List AV} {us : List Value} {B : List Nat}, ResL w V xs us B → ∀ b ∈ B, ¬ V b := by
          intro xs us B h
          induction h with
          | nil => intro b hb; cases hb
          | cons h k ih =>
            intro b hb
            rcases List.mem_append.1 hb with h1 | h1
            · exact res1 h b h1
            · exact ih b h1
        induction hL with
        | nil => intro b hb; cases hb
        | cons h k ih =>
          intro b hb
          rcases List.mem_append.1 hb with h1 | h1
          · cases h with
            | pl => cases h1
            | ob hh hr hn =>
              rcases List.mem_cons.1 h1 with h2 | h2
              · exact h2 ▸ hn
              · exact resl hr b h2
            | row hr => exact res1 hr b h1
            | pw hr => exact res1 hr b h1
          · exact ih b h1
      exact hno _ _ _ _ hL b hbB hbV
    have hrep' : ∀ (j : Nat) (y : AV) (u : Value), vs[j]? = some y → us[j]? = some u → Rep w' g' y u := fun j y u hj hu => (hr0 j y u hj hu).onto hmono
    have hLent := packOL_sound hS.inv V' hV1 vs outs us L hl0.symm hrep' ho fun i hi t ht b hb => hown i (List.mem_append_right _ hi) t ht b hb
    have hpl : vs.map (place0 g') = cs := by
      rw [← hp0]
      refine List.map_congr_left fun v hv => ?_
      obtain ⟨j, hj⟩ := List.getElem?_of_mem hv
      have hju : j < us.length := by
        have := (List.getElem?_eq_some_iff.1 hj).1
        omega
      exact place0_onto hmono (hr0 j v us[j] hj (List.getElem?_eq_getElem hju))
    rw [hpl] at hLent
    refine ⟨V', ofRes us', blocksOf g' s.σ os, blocksOf g' s.σ L, rfl, hS.os, hS.tape, hS.output, hS.size, hS.keep, fun b hb => hV1 b (hS.V0V b hb), fun b hb => ⟨hb.2.1, hb.1⟩, ?_, hLent.o, by rw [← blocksOf_append]; exact blocksOf_nodup hS.inv _ hnd, fun b hb => ?_⟩
    · generalize blocksOf g' s.σ os = B1 at hR ⊢
      rcases hx with ⟨y, rfl, rfl, hnt⟩ | ⟨rfl, hn⟩
      · cases hR with
        | cons h1 k =>
          cases k
          rw [List.append_nil]
          simp only [ofRes]
          cases x with
          | t zs => exact (hnt zs rfl).elim
          | _ => exact h1
      · refine ⟨us'.toArray, ?_, hR⟩
        cases hR with
        | nil => rfl
        | cons h1 k =>
          cases k with
          | nil => exact (hn _ rfl).elim
          | cons h2 k => rfl
    · rw [← blocksOf_append] at hb
      obtain ⟨i, _, t, h1, h2⟩ := mem_blocksOf.1 hb
      exact hlive i t b h1 h2
  cases ex with
  | exit id => exact (hex id rfl).elim
  | ret => exact main
  | normal => exact main
end
end Go.Proofs.YtegbkihgnofkfaaGreatDoor.Ev

/-
The engine, part 23: a program's functions: the types' table, calls so and so deep.
-/
namespace Go.Proofs.YtegbkihgnofkfaaGreatDoor.Ev
section
set_option linter.unusedVariables false
set_option linter.unusedSimpArgs false
open Go Go.RowKit
set_option linter.unusedVariables false
set_option linter.unusedSimpArgs false

def kindOf (P : Program) (t : Nat) : Option TK :=
  match P.underlying t with
  | some .string => some .str
  | some .bool => some .bool
  | some (.int k) => some (.int k)
  | some (.pointer e) => some (.ptr e)
  | some (.slice e) => some (.sl e)
  | some (.array n e) => some (.arr n e)
  | some (.struct F) => if F.toList.all (fun f => match P.info? f.type with | some q => q.size != 0 | none => false) then some (.st (F.toList.map fun f => (f.offset, f.type))) else none
  | some (.map K E) => match P.underlying K, P.info? E with
    | some .string, some j => match j.zero with | some (.int .i64 0) => some .mp | _ => none
    | _, _ => none
  | _ => none

/-- The table of a program's types. -/
def tabOf (P : Program) : Tab := fun t =>
  (kindOf P t).bind fun k => (P.info? t).bind fun j => match j.zero with
    | some z => if z.cells.toList.length = j.size ∧ z.cells.toList.all (·.oneCell') then some ⟨k, j.size, j.bytes, z.cells.toList⟩ else none
    | none => none

theorem kindOf_tie {P : Program} {t : Nat} {k : TK} (h : kindOf P t = some k) : k.tie P t := by
  unfold kindOf at h
  split at h
  case h_8 K E e =>
    split at h
    · rename_i j hK hE
      split at h
      · rename_i hz
        obtain rfl := Option.some.inj h
        exact ⟨K, E, j, e, hK, hE, hz⟩
      · cases h
    · cases h
  all_goals first
    | (rename_i e; obtain rfl := Option.some.inj h; simpa [TK.tie] using e)
    | skip
  · rename_i F e
    split at h
    · rename_i ha
      obtain rfl := Option.some.inj h
      refine ⟨F, e, rfl, fun f hf => ?_⟩
      have := List.all_eq_true.1 ha f hf
      split at this
      · rename_i q hq
        exact ⟨q, hq, by simpa using this⟩
      · cases this
    · cases h
  · cases h

theorem tabOf_ok (P : Program) : (tabOf P).Ok P := by
  intro t i h
  unfold tabOf at h
  obtain ⟨k, hk, h⟩ := Option.bind_eq_some_iff.1 h
  obtain ⟨j, hj, h⟩ := Option.bind_eq_some_iff.1 h
  split at h
  · rename_i z hz
    split at h
    · rename_i hc
      obtain rfl := Option.some.inj h
      exact ⟨kindOf_tie hk, ⟨j, z, hj, rfl, rfl, hz, rfl⟩, hc.1, fun u hu => List.all_eq_true.1 hc.2 u hu⟩
    · cases h
  · cases h

/-- What the functions give whose code T tells, so and so deep; hand: what is known of others. -/
noncomputable def evCall (I : Tab) (T : FuncId → Option (Func × Code)) (hand : Sem1) (pf : FuncId → Nat) (opt : FuncId → List Nat) : Nat → Sem1
  | 0 => hand
  | k + 1 => fun f args => match T f with
    | some (fn, c) => if pf f = 2 ∨ pf f = 4 then evM I (evCall I T hand pf opt k) (withOpt (opt f) pf) k fn c args else if pf f = 3 then evN I (evCall I T hand pf opt k) (withOpt (opt f) pf) k fn c args else evF I (evCall I T hand pf opt k) (withOpt (opt f) pf) k fn c args
    | none => hand f args

theorem evCall_sound {P : Program} {I : Tab} {T : FuncId → Option (Func × Code)} {hand : Sem1} {pf : FuncId → Nat} {opt : FuncId → List Nat} (hz : P.funcs.size ≤ 1000000000) (hI : I.Ok P) (hm : P.follows .mixedOrders = true) (MM : FuncId → Nat → List Nat)
    (hT : ∀ f fn c, T f = some (fn, c) → P.funcs[f]? = some fn ∧ fn.body = some c ∧ (fn.name == "runtime.NumGoroutine") = false ∧ okC fn.ntmps (withOpt (opt f) pf) (MM f) c = true)
    (hh : ∀ f xs x, hand f xs = some x → FOk P pf f xs x) : ∀ (k : Nat) (f : FuncId) (xs : List AV) (x : AV), evCall I T hand pf opt k f xs = some x → FOk P pf f xs x
  | 0, f, xs, x, h => hh f xs x h
  | k + 1, f, xs, x, h => by
    simp only [evCall] at h
    split at h
    · rename_i fn c hf
      obtain ⟨h1, h2, h3, h4⟩ := hT f fn c hf
      unfold FOk
      split at h
      · rename_i hp
        rw [if_pos hp]
        exact evM_sound hz hI (fun f xs x h => fok_withOpt hz (evCall_sound hz hI hm MM hT hh k f xs x h)) hm h1 h2 h3 h4 h
      split at h
      · rename_i hp hp3
        rw [if_neg hp, if_pos hp3]
        exact evN_sound hz hI (fun f xs x h => fok_withOpt hz (evCall_sound hz hI hm MM hT hh k f xs x h)) hm h1 h2 h3 h4 h
      · rename_i hp hp3
        rw [if_neg hp, if_neg hp3]
        exact evF_sound hz hI (fun f xs x h => fok_withOpt hz (evCall_sound hz hI hm MM hT hh k f xs x h)) hm h1 h2 h3 h4 h
    · exact hh f xs x h

/-- The functions of a program whose code is fit for it. -/
def fitT (P : Program) (pf : FuncId → Nat) (opt : FuncId → List Nat) (MM : FuncId → Nat → List Nat) : FuncId → Option (Func × Code) := fun f =>
  (P.funcs[f]?).bind fun fn => fn.body.bind fun c => if (fn.name == "runtime.NumGoroutine") = false ∧ okC fn.ntmps (withOpt (opt f) pf) (MM f) c = true then some (fn, c) else none

theorem fitT_ok {P : Program} {pf : FuncId → Nat} {opt : FuncId → List Nat} {MM : FuncId → Nat → List Nat} (f : FuncId) (fn : Func) (c : Code) (h : fitT P pf opt MM f = some (fn, c)) :
    P.funcs[f]? = some fn ∧ fn.body = some c ∧ (fn.name == "runtime.NumGoroutine") = false ∧ okC fn.ntmps (withOpt (opt f) pf) (MM f) c = true := by
  unfold fitT at h
  obtain ⟨fn', h1, h⟩ := Option.bind_eq_some_iff.1 h
  obtain ⟨c', h2, h⟩ := Option.bind_eq_some_iff.1 h
  split at h
  · rename_i hc
    simp only [Option.some.injEq, Prod.mk.injEq] at h
    obtain ⟨rfl, rfl⟩ := h
    exact ⟨h1, h2, hc.1, hc.2⟩
  · cases h
end
end Go.Proofs.YtegbkihgnofkfaaGreatDoor.Ev

/-
The engine, part 24: rules by which code is run on values that are not all known.
-/
namespace Go.Proofs.YtegbkihgnofkfaaGreatDoor.Ev
section
set_option linter.unusedVariables false
set_option linter.unusedSimpArgs false
open Go Go.RowKit
set_option linter.unusedVariables false
set_option linter.unusedSimpArgs false
variable {I : Tab} {C : Sem1} {pf : FuncId → Nat} {m : Nat}

/-! ### code: what follows is told by name, so that nothing is run before its state is known -/
noncomputable def seqK (I : Tab) (C : Sem1) (pf : FuncId → Nat) (m : Nat) (b : Code) : Ex × St → Option (Ex × St)
  | (.normal, s) => evC I C pf m b s
  | (.exit id, s) => some (.exit id, s)
  | (.ret, s) => some (.ret, s)
def blockK (id : Nat) : Ex × St → Ex × St
  | (.normal, s) => (.normal, s)
  | (.exit id', s) => if id' = id then (.normal, s) else (.exit id', s)
  | (.ret, s) => (.ret, s)
noncomputable def condK (I : Tab) (C : Sem1) (pf : FuncId → Nat) (m : Nat) (a b : Code) (s : St) : AV → Option (Ex × St)
  | .v (.bool t) => if t then evC I C pf m a s else evC I C pf m b s
  | _ => none
def normK (s : St) : Ex × St := (.normal, s)

theorem evC_seq (a b : Code) (s : St) : evC I C pf m (.seq a b) s = (evC I C pf m a s).bind (seqK I C pf m b) := by
  simp only [evC]
  congr 1
  funext ⟨x, s1⟩
  cases x <;> rfl
theorem evC_block (id : Nat) (c : Code) (s : St) : evC I C pf m (.block id c) s = (evC I C pf m c s).map (blockK id) := by
  simp only [evC]
  congr 1
  funext ⟨x, s1⟩
  cases x <;> rfl
theorem evC_cond (c : Operand) (a b : Code) (s : St) : evC I C pf m (.cond c a b) s = condK I C pf m a b s (val s.e c) := by
  simp only [evC, condK]
  split <;> simp_all
theorem evC_region (id : Nat) (ops : Array Oper) (d : Bool) (s : St) : evC I C pf m (.region id ops d) s = (evL I C (atBase (inReg pf id) s.nx) ops s.nx (List.range ops.size) ⟨s.e, s.σ, s.nx + 4 * ops.size⟩).map normK := rfl
theorem evC_loop (c : Code) (s : St) : evC I C pf m (.loop c) s = roundsE (evC I C pf m c) m s := by simp only [evC]
theorem evC_exit (id : Nat) (s : St) : evC I C pf m (.exit id) s = some (.exit id, s) := by simp only [evC]
theorem evC_label (l : Nat) (s : St) : evC I C pf m (.label l) s = some (.normal, s) := by simp only [evC]
theorem evC_ret (s : St) : evC I C pf m .ret s = some (.ret, s) := by simp only [evC]
theorem evC_skip (s : St) : evC I C pf m .skip s = some (.normal, s) := by simp only [evC]

theorem seqK_normal (b : Code) (s : St) : seqK I C pf m b (.normal, s) = evC I C pf m b s := rfl
theorem seqK_exit (b : Code) (id : Nat) (s : St) : seqK I C pf m b (.exit id, s) = some (.exit id, s) := rfl
theorem seqK_ret (b : Code) (s : St) : seqK I C pf m b (.ret, s) = some (.ret, s) := rfl
theorem blockK_normal (id : Nat) (s : St) : blockK id (.normal, s) = (.normal, s) := rfl
theorem blockK_exit (id id' : Nat) (s : St) : blockK id (.exit id', s) = if id' = id then (.normal, s) else (.exit id', s) := rfl
theorem blockK_ret (id : Nat) (s : St) : blockK id (.ret, s) = (.ret, s) := rfl
theorem condK_bool (a b : Code) (s : St) (t : Bool) : condK I C pf m a b s (.v (.bool t)) = if t then evC I C pf m a s else evC I C pf m b s := rfl

/-! ### regions -/
def putK (s : St) (d : Option Nat) (r : AV × Sto) : St := (⟨s.e, r.2, s.nx⟩ : St).put d r.1
noncomputable def ev1K (I : Tab) (C : Sem1) (pf : FuncId → Nat) (key : Nat) (o : Oper) (s : St) : Option Bool → Option St
  | none => none
  | some false => some (s.put o.dst (.v undef))
  | some true => (evOp I C pf s.e s.σ key o.op).map (putK s o.dst)

theorem evL_nil (ops : Array Oper) (base : Nat) (s : St) : evL I C pf ops base [] s = some s := rfl
theorem evL_cons (ops : Array Oper) (base i : Nat) (is : List Nat) (s : St) : evL I C pf ops base (i :: is) s = (ev1 I C pf ops base i s).bind (evL I C pf ops base is) := rfl
theorem ev1_of {ops : Array Oper} {base i : Nat} {s : St} {o : Oper} (h : ops[i]? = some o) : ev1 I C pf ops base i s = ev1K I C pf (base + 4 * i) o s (wantedE ops s.e o) := by
  simp only [ev1, h]
  cases wantedE ops s.e o with
  | none => rfl
  | some b => cases b <;> rfl
theorem ev1K_true (key : Nat) (o : Oper) (s : St) : ev1K I C pf key o s (some true) = (evOp I C pf s.e s.σ key o.op).map (putK s o.dst) := rfl
theorem ev1K_false (key : Nat) (o : Oper) (s : St) : ev1K I C pf key o s (some false) = some (s.put o.dst (.v undef)) := rfl
theorem putK_some (e : Nat → AV) (σ : Sto) (nx d : Nat) (x : AV) (σ1 : Sto) : putK ⟨e, σ, nx⟩ (some d) (x, σ1) = ⟨fun t => if t = d then x else e t, σ1, nx⟩ := rfl
theorem putK_none (e : Nat → AV) (σ : Sto) (nx : Nat) (x : AV) (σ1 : Sto) : putK ⟨e, σ, nx⟩ none (x, σ1) = ⟨e, σ1, nx⟩ := rfl
theorem put_some (e : Nat → AV) (σ : Sto) (nx d : Nat) (x : AV) : (⟨e, σ, nx⟩ : St).put (some d) x = ⟨fun t => if t = d then x else e t, σ, nx⟩ := rfl
theorem put_none (e : Nat → AV) (σ : Sto) (nx : Nat) (x : AV) : (⟨e, σ, nx⟩ : St).put none x = ⟨e, σ, nx⟩ := rfl

/-! ### operations that look at their operands alone -/
variable {e : Nat → AV} {σ : Sto} {key : Nat}
theorem evOp_move (x : Operand) : evOp I C pf e σ key (.move x) = some (val e x, σ) := rfl
theorem evOp_assign (x : Operand) : evOp I C pf e σ key (.assign x) = some (val e x, σ) := rfl
def pickK (a b : AV) (σ : Sto) : AV → Option (AV × Sto)
  | .v (.bool t) => some (if t then a else b, σ)
  | _ => none
theorem evOp_pick (c a b : Operand) : evOp I C pf e σ key (.pick c a b) = pickK (val e a) (val e b) σ (val e c) := by
  simp only [evOp, pickK]
  split <;> simp_all
theorem pickK_bool (a b : AV) (t : Bool) : pickK a b σ (.v (.bool t)) = some (if t then a else b, σ) := rfl
def pairK (σ : Sto) (x : AV) : AV × Sto := (x, σ)
theorem evOp_bin {op : BinOp} {T yT : TypeId} {i : TI} (h : I T = some i) (x y : Operand) : evOp I C pf e σ key (.binOp op T x y yT) = (bin op i.k (val e x) (val e y)).map (pairK σ) := by
  simp only [evOp, h]
  rfl
theorem bin_str (op : BinOp) (k : TK) (a b : ByteArray) : bin op k (.v (.string a)) (.v (.string b)) = strBin op a b := by cases k <;> rfl
theorem bin_int (op : BinOp) (k : TK) (q : IntKind) (a b : Int) : bin op k (.v (.int q a)) (.v (.int q b)) = intBin op q a b := by simp [bin]

/-! ### branches -/
theorem ite_bind {α β : Type} {c : Prop} [Decidable c] (x y : Option α) (f : α → Option β) : (if c then x else y).bind f = if c then x.bind f else y.bind f := by split <;> rfl
theorem ite_map {α β : Type} {c : Prop} [Decidable c] (x y : Option α) (f : α → β) : (if c then x else y).map f = if c then x.map f else y.map f := by split <;> rfl

/-! ### results -/
theorem deepC_closed {f : AV → Option (AV × List Nat)} : ∀ (xs : List AV), (∀ (j : Nat) (x : AV), xs[j]? = some x → f x = some (x, [])) → deepC f xs = some (xs, [])
  | [], _ => rfl
  | x :: xs, h => by
    simp only [deepC, h 0 x rfl, Option.bind_some, deepC_closed xs fun j x hj => h (j + 1) x (by simpa using hj), Option.map_some, List.append_nil]
theorem deep_closed : ∀ (d : Nat) (x : AV), closed x = true → deep σ d x = some (x, [])
  | 0, x, h => by simp only [deep, h, if_true]
  | d + 1, x, h => by
    cases x
    case a cs =>
      have hc : closedL cs = true := by simpa only [closed] using h
      simp only [deep, deepC_closed cs fun j x hj => deep_closed d x (closedL_mem cs hc j x hj), Option.map_some]
    case r => simp [closed] at h
    case w => simp [closed] at h
    all_goals simp only [deep, h, if_true]
theorem deepL_closed (d : Nat) {xs : List AV} (h : closedL xs = true) : deepC (deep σ d) xs = some (xs, []) := deepC_closed xs fun j x hj => deep_closed d x (closedL_mem xs h j x hj)
theorem give1_closed {x : AV} (h : closed x = true) : give1 σ x = some (x, [], []) := by
  cases x
  case w => simp [closed] at h
  all_goals simp only [give1, deep_closed 8 _ h, Option.map_some]
theorem giveL_closed : ∀ {xs : List AV}, closedL xs = true → giveL σ xs = some (xs, [], [])
  | [], _ => rfl
  | x :: xs, h => by
    simp only [closedL, Bool.and_eq_true] at h
    simp only [giveL, give1_closed h.1, Option.bind_some, giveL_closed h.2, Option.map_some, List.append_nil]
theorem giveAll_two {x y : AV} {xs : List AV} (h : closedL (x :: y :: xs) = true) : giveAll σ (x :: y :: xs) = some (.t (x :: y :: xs)) := by
  simp [giveAll, giveL_closed h]
theorem giveAll_v (x : Value) : giveAll σ [.v x] = some (.v x) := by simp [giveAll, giveL_closed, closedL, closed]
theorem giveAll_p {cs : List AV} (h : closedL cs = true) : giveAll σ [.p cs] = some (.p cs) := by simp [giveAll, giveL_closed, closedL, closed, h]
theorem giveAll_s {ex : Bool} {n : Nat} {cs : List AV} (h : closedL cs = true) : giveAll σ [.s ex n cs] = some (.s ex n cs) := by simp [giveAll, giveL_closed, closedL, closed, h]
theorem giveAll_a {cs : List AV} (h : closedL cs = true) : giveAll σ [.a cs] = some (.a cs) := by simp [giveAll, giveL_closed, closedL, closed, h]

def resK (I : Tab) (rs : List ResultVar) : Ex × St → Option AV
  | (.exit _, _) => none
  | (_, s) => (evRes I s rs).bind (giveAll s.σ)
theorem resK_ret (rs : List ResultVar) (s : St) : resK I rs (.ret, s) = (evRes I s rs).bind (giveAll s.σ) := rfl
theorem resK_normal (rs : List ResultVar) (s : St) : resK I rs (.normal, s) = (evRes I s rs).bind (giveAll s.σ) := rfl
theorem evF_run {fn : Func} {c : Code} {args : List AV} (h1 : args.length ≤ fn.ntmps) (h2 : closedL args = true) : evF I C pf m fn c args = (evC I C pf m c (St.init args)).bind (resK I fn.results.toList) := by
  unfold evF
  rw [if_pos ⟨h1, h2⟩]
  congr 1
  funext ⟨x, s⟩
  cases x <;> rfl
theorem evRes_nil (s : St) : evRes I s [] = some [] := rfl
theorem evRes_tmp (s : St) (t : Nat) (rs : List ResultVar) : evRes I s (.tmp t :: rs) = (evRes I s rs).map fun xs => s.e t :: xs := rfl
end
end Go.Proofs.YtegbkihgnofkfaaGreatDoor.Ev

/-
The engine, part 25: contracts of the shelf, taken in.
-/
namespace Go.Proofs.YtegbkihgnofkfaaGreatDoor.Ev
section
set_option linter.unusedVariables false
set_option linter.unusedSimpArgs false
open Go Go.RowKit
set_option linter.unusedVariables false
set_option linter.unusedSimpArgs false
variable {P : Program}

/-- A call that gives a plain value and leaves the world as it is. -/
theorem pureOk_of_calls {f : FuncId} {fn : Func} (hf : P.funcs[f]? = some fn) (hn : (fn.name == "runtime.NumGoroutine") = false) (hb : fn.body.isNone = false) (args : List Value) (u : Value)
    (h : ∀ w, Calls P f args.toArray w fun e w' => e = .returned u ∧ w' = w) : PureOk P f (args.map .v) (.v u) := by
  refine ⟨⟨fn, hf, hn, hb⟩, fun w V us hV hl hr => ?_⟩
  have hus : us = args := by
    apply List.ext_getElem?
    intro j
    by_cases hj : j < args.length
    · have hj2 : j < us.length := by
        simp only [List.length_map] at hl
        omega
      have h1 : (args.map AV.v)[j]? = some (.v args[j]) := by simp [hj]
      have h2 : us[j]? = some us[j] := List.getElem?_eq_getElem hj2
      have := hr j _ _ h1 h2
      rw [h2, List.getElem?_eq_getElem hj, rep_v_inv this]
    · simp only [List.length_map] at hl
      rw [List.getElem?_eq_none (by omega), List.getElem?_eq_none (by omega)]
  subst hus
  refine (h w).mono ?_
  rintro e w' ⟨rfl, rfl⟩
  exact ⟨V, u, [], rfl, Below.refl _ _, fun _ h => h, fun b hb => ⟨.inl hb, hV b hb⟩, ⟨rfl, rfl, .v u⟩, List.nodup_nil, fun b hb => by cases hb⟩
end
end Go.Proofs.YtegbkihgnofkfaaGreatDoor.Ev

/-
The engine, part 26: rules for calls and other operations.
-/
namespace Go.Proofs.YtegbkihgnofkfaaGreatDoor.Ev
section
set_option linter.unusedVariables false
set_option linter.unusedSimpArgs false
open Go Go.RowKit
set_option linter.unusedVariables false
set_option linter.unusedSimpArgs false
variable {I : Tab} {C : Sem1} {pf : FuncId → Nat} {m : Nat} {e : Nat → AV} {σ : Sto} {key : Nat}

noncomputable def opK (I : Tab) (C : Sem1) (pf : FuncId → Nat) (ops : Array Oper) (key : Nat) (s : St) : Option Oper → Option St
  | none => some s
  | some o => ev1K I C pf key o s (wantedE ops s.e o)
theorem ev1_opK (ops : Array Oper) (base i : Nat) (s : St) : ev1 I C pf ops base i s = opK I C pf ops (base + 4 * i) s ops[i]? := by
  cases h : ops[i]? with
  | none => simp only [ev1, h, opK]
  | some o => rw [ev1_of h]; rfl
theorem opK_some (ops : Array Oper) (key : Nat) (s : St) (o : Oper) : opK I C pf ops key s (some o) = ev1K I C pf key o s (wantedE ops s.e o) := rfl

def lenS (σ : Sto) : AV → Option (AV × Sto)
  | .v (.string s) => some (.v (.int .i64 s.size), σ)
  | _ => none
theorem lenS_str (s : ByteArray) : lenS σ (.v (.string s)) = some (.v (.int .i64 s.size), σ) := rfl
theorem evOp_len_str {t : TypeId} {a b : Nat} {c : List Value} (h : I t = some ⟨.str, a, b, c⟩) (x : Operand) : evOp I C pf e σ key (.call { callee := .builtin .len, args := #[x], argTypes := #[t] }) = lenS σ (val e x) := by
  simp only [evOp, builtinOf, List.map_cons, List.map_nil, List.getElem?_toArray, List.getElem?_cons_zero, h, lenS]
  rfl

def pureK (σ : Sto) (x : AV) : Option (AV × Sto) := if closed x then some (x, σ) else none
theorem pureK_v (x : Value) : pureK σ (.v x) = some (.v x, σ) := rfl
theorem evOp_call1 {f : FuncId} (h : pf f = 1) (args : Array Operand) (tys : Array TypeId) : evOp I C pf e σ key (.call { callee := .value (.func f), args := args, argTypes := tys }) =
    if closedL (args.toList.map (val e)) then (C f (args.toList.map (val e))).bind (pureK σ) else none := by
  simp only [evOp, callOp, h, if_true]
  rfl
def adoptK (σ : Sto) (key : Nat) (ids : List Nat) (x : AV) : Option (AV × Sto) := if ids = [] ∨ flat x = true then adopt σ key x else adopt (frz σ 8 ids) key x
theorem adoptK_closed {ids : List Nat} {x : AV} (h : ids = []) : adoptK σ key ids x = adopt σ key x := by simp [adoptK, h]
theorem evOp_call0 {f : FuncId} (h : pf f = 0) (args : Array Operand) (tys : Array TypeId) (hc : closedL (args.toList.map (val e)) = true) : evOp I C pf e σ key (.call { callee := .value (.func f), args := args, argTypes := tys }) =
    (C f (args.toList.map (val e))).bind (adopt σ key) := by
  simp only [evOp, callOp, h, deepL_closed 8 hc, Option.bind_some]
  simp

def nilK (σ : Sto) : AV → Option (AV × Sto)
  | .p cs => some (.p cs, σ)
  | .r id o => some (.r id o, σ)
  | _ => none
theorem evOp_nilCheck (x : Operand) : evOp I C pf e σ key (.nilCheck x) = nilK σ (val e x) := by
  simp only [evOp, nilK]
  split <;> simp_all
theorem nilK_p (cs : List AV) : nilK σ (.p cs) = some (.p cs, σ) := rfl
theorem nilK_r (id o : Nat) : nilK σ (.r id o) = some (.r id o, σ) := rfl
theorem evOp_fieldAddr {t : TypeId} {fs : List (Nat × Nat)} {a b : Nat} {c : List Value} (h : I t = some ⟨.st fs, a, b, c⟩) (x : Operand) (f : Nat) :
    evOp I C pf e σ key (.fieldAddr t x f) = (fs[f]?).bind fun fd => (addOff fd.1 (val e x)).map (pairK σ) := by
  simp only [evOp, h]
  rfl
theorem addOff_p (off : Nat) (cs : List AV) : addOff off (.p cs) = some (.p (cs.drop off)) := rfl
theorem addOff_r (off id o : Nat) : addOff off (.r id o) = some (.r id (o + off)) := rfl
def loadK (i : TI) (σ : Sto) (cs : List AV) : Option (AV × Sto) := (takeVal i cs).map (pairK σ)
theorem evOp_load {t : TypeId} {i : TI} (h : I t = some i) (x : Operand) : evOp I C pf e σ key (.load t x) = (cellsAt (lookAt pf σ) (val e x)).bind (loadK i σ) := by
  simp only [evOp, h]
  rfl
theorem cellsAt_p (cs : List AV) : cellsAt σ (.p cs) = some cs := rfl
end
end Go.Proofs.YtegbkihgnofkfaaGreatDoor.Ev

/-
The engine, part 27: calls however deep (EE): what a call gives at some depth it gives at every greater one; a function's code may be run over EE itself.
-/
namespace Go.Proofs.YtegbkihgnofkfaaGreatDoor.Ev
section
set_option linter.unusedVariables false
set_option linter.unusedSimpArgs false
open Go Go.RowKit
set_option linter.unusedVariables false
set_option linter.unusedSimpArgs false
variable {I : Tab} {pf : FuncId → Nat}

/-- D knows all that C knows. -/
def Knows (C D : Sem1) : Prop := ∀ f xs y, C f xs = some y → D f xs = some y

theorem callOp_mono {C D : Sem1} (hC : Knows C D) {σ : Sto} {key : Nat} {f : FuncId} {xs : List AV} {r : AV × Sto} (h : callOp C pf σ key f xs = some r) : callOp D pf σ key f xs = some r := by
  unfold callOp at h ⊢
  split at h
  · rename_i hp
    rw [if_pos hp]
    split at h
    · rename_i hc
      rw [if_pos hc]
      obtain ⟨x, h1, h2⟩ := Option.bind_eq_some_iff.1 h
      rw [hC _ _ _ h1]
      exact h2
    · cases h
  · rename_i hp
    rw [if_neg hp]
    split at h
    · rename_i hp2
      rw [if_pos hp2]
      split at h
      · rename_i hp3
        rw [if_pos hp3]
        split at h
        · rename_i hc
          rw [if_pos hc]
          obtain ⟨x, h1, h2⟩ := Option.bind_eq_some_iff.1 h
          rw [hC _ _ _ h1]
          exact h2
        · cases h
      rename_i hp3
      rw [if_neg hp3]
      obtain ⟨⟨ps, L⟩, h1, h2⟩ := Option.bind_eq_some_iff.1 h
      rw [h1]
      simp only [Option.bind_some] at h2 ⊢
      split at h2
      · rename_i hn
        rw [if_pos hn]
        obtain ⟨x, h3, h4⟩ := Option.bind_eq_some_iff.1 h2
        rw [hC _ _ _ h3]
        exact h4
      · cases h2
    · rename_i hp2
      rw [if_neg hp2]
      split at h
      · rename_i hp4
        rw [if_pos hp4]
        unfold callF callL at h ⊢
        obtain ⟨r0, h, hc⟩ := Option.bind_eq_some_iff.1 h
        obtain ⟨⟨ps, L⟩, h1, h2⟩ := Option.bind_eq_some_iff.1 h
        rw [h1]
        simp only [Option.bind_some] at h2 ⊢
        split at h2
        · rename_i hn
          rw [if_pos hn]
          obtain ⟨x, h3, h4⟩ := Option.bind_eq_some_iff.1 h2
          rw [hC _ _ _ h3, Option.bind_some, h4]
          exact hc
        · cases h2
      rename_i hp4
      rw [if_neg hp4]
      obtain ⟨⟨ys, ids⟩, h1, h2⟩ := Option.bind_eq_some_iff.1 h
      rw [h1]
      simp only [Option.bind_some] at h2 ⊢
      obtain ⟨x, h3, h4⟩ := Option.bind_eq_some_iff.1 h2
      rw [hC _ _ _ h3]
      exact h4

theorem evOp_mono {C D : Sem1} (hC : Knows C D) {e : Nat → AV} {σ : Sto} {key : Nat} {op : Op} {r : AV × Sto} (h : evOp I C pf e σ key op = some r) : evOp I D pf e σ key op = some r := by
  cases op
  case call c =>
    unfold evOp at h ⊢
    simp only at h ⊢
    split at h
    · exact h
    · exact callOp_mono hC h
    · cases h
  case slice t x lo hi mx => cases mx <;> exact h
  all_goals exact h

theorem ev1_mono {C D : Sem1} (hC : Knows C D) {ops : Array Oper} {base i : Nat} {s s1 : St} (h : ev1 I C pf ops base i s = some s1) : ev1 I D pf ops base i s = some s1 := by
  unfold ev1 at h ⊢
  split at h
  · exact h
  · split at h
    · cases h
    · exact h
    · obtain ⟨q, h1, h2⟩ := Option.map_eq_some_iff.1 h
      rw [evOp_mono hC h1]
      exact congrArg some h2

theorem evL_mono {C D : Sem1} (hC : Knows C D) {ops : Array Oper} {base : Nat} : ∀ (L : List Nat) {s s1 : St}, evL I C pf ops base L s = some s1 → evL I D pf ops base L s = some s1
  | [], s, s1, h => h
  | i :: L, s, s1, h => by
    obtain ⟨s2, h1, h2⟩ := Option.bind_eq_some_iff.1 h
    simp only [evL, ev1_mono hC h1, Option.bind_some]
    exact evL_mono hC L h2

theorem roundsE_mono {f g : St → Option (Ex × St)} (hf : ∀ s r, f s = some r → g s = some r) : ∀ (n m : Nat) (s : St) (r : Ex × St), n ≤ m → roundsE f n s = some r → roundsE g m s = some r
  | 0, m, s, r, _, h => by cases h
  | n + 1, 0, s, r, hm, _ => by omega
  | n + 1, m + 1, s, r, hm, h => by
    simp only [roundsE] at h ⊢
    obtain ⟨⟨x, s1⟩, h1, h2⟩ := Option.bind_eq_some_iff.1 h
    rw [hf _ _ h1]
    simp only [Option.bind_some] at h2 ⊢
    cases x with
    | normal => exact roundsE_mono hf n m s1 r (by omega) h2
    | exit id => exact h2
    | ret => exact h2

theorem evC_mono {C D : Sem1} (hC : Knows C D) {n m : Nat} (hm : n ≤ m) : ∀ (c : Code) (s : St) (r : Ex × St), evC I C pf n c s = some r → evC I D pf m c s = some r := by
  intro c
  induction c with
  | skip => intro s r h; simpa only [evC] using h
  | region id ops draw =>
    intro s r h
    simp only [evC] at h ⊢
    obtain ⟨s1, h1, h2⟩ := Option.map_eq_some_iff.1 h
    rw [evL_mono hC _ h1]
    exact congrArg some h2
  | seq x y ihx ihy =>
    intro s r h
    simp only [evC] at h ⊢
    obtain ⟨⟨ex1, s1⟩, h1, h2⟩ := Option.bind_eq_some_iff.1 h
    rw [ihx _ _ h1]
    simp only [Option.bind_some] at h2 ⊢
    cases ex1 with
    | normal => exact ihy _ _ h2
    | exit id => exact h2
    | ret => exact h2
  | cond cnd x y ihx ihy =>
    intro s r h
    simp only [evC] at h ⊢
    split at h
    · rename_i t ht
      cases t with
      | true => exact ihx _ _ h
      | false => exact ihy _ _ h
    · cases h
  | block id c ih =>
    intro s r h
    simp only [evC] at h ⊢
    obtain ⟨q, h1, h2⟩ := Option.map_eq_some_iff.1 h
    rw [ih _ _ h1]
    exact congrArg some h2
  | loop c ih =>
    intro s r h
    simp only [evC] at h ⊢
    exact roundsE_mono ih n m s r hm h
  | exit id => intro s r h; simpa only [evC] using h
  | label l => intro s r h; simpa only [evC] using h
  | ret => intro s r h; simpa only [evC] using h
  | _ => intro s r h; simp [evC] at h

theorem evF_mono {C D : Sem1} (hC : Knows C D) {n m : Nat} (hm : n ≤ m) {fn : Func} {c : Code} {args : List AV} {r : AV} (h : evF I C pf n fn c args = some r) : evF I D pf m fn c args = some r := by
  unfold evF at h ⊢
  split at h
  · rename_i hc
    rw [if_pos hc]
    obtain ⟨q, h1, h2⟩ := Option.bind_eq_some_iff.1 h
    rw [evC_mono hC hm _ _ _ h1]
    exact h2
  · cases h
theorem evM_mono {C D : Sem1} (hC : Knows C D) {n m : Nat} (hm : n ≤ m) {fn : Func} {c : Code} {args : List AV} {r : AV} (h : evM I C pf n fn c args = some r) : evM I D pf m fn c args = some r := by
  unfold evM at h ⊢
  simp only at h ⊢
  split at h
  · rename_i hc
    rw [if_pos hc]
    obtain ⟨q, h1, h2⟩ := Option.bind_eq_some_iff.1 h
    rw [evC_mono hC hm _ _ _ h1]
    exact h2
  · cases h

theorem evN_mono {C D : Sem1} (hC : Knows C D) {n m : Nat} (hm : n ≤ m) {fn : Func} {c : Code} {args : List AV} {r : AV} (h : evN I C pf n fn c args = some r) : evN I D pf m fn c args = some r := by
  unfold evN at h ⊢
  split at h
  · rename_i hc
    rw [if_pos hc]
    obtain ⟨q, h1, h2⟩ := Option.bind_eq_some_iff.1 h
    rw [evC_mono hC hm _ _ _ h1]
    exact h2
  · cases h

/-! ### from below -/
/-- All that E knows some C k knows. -/
structure Tower (C : Nat → Sem1) (E : Sem1) : Prop where
  up : ∀ i j, i ≤ j → Knows (C i) (C j)
  all : ∀ f xs y, E f xs = some y → ∃ k, C k f xs = some y

variable {C : Nat → Sem1} {E : Sem1}

theorem callOp_below (hT : Tower C E) {σ : Sto} {key : Nat} {f : FuncId} {xs : List AV} {r : AV × Sto} (h : callOp E pf σ key f xs = some r) : ∃ k, callOp (C k) pf σ key f xs = some r := by
  unfold callOp at h ⊢
  split at h
  · rename_i hp
    split at h
    · rename_i hc
      obtain ⟨x, h1, h2⟩ := Option.bind_eq_some_iff.1 h
      obtain ⟨k, hk⟩ := hT.all _ _ _ h1
      exact ⟨k, by rw [if_pos hp, if_pos hc, hk]; exact h2⟩
    · cases h
  · rename_i hp
    split at h
    · rename_i hp2
      split at h
      · rename_i hp3
        split at h
        · rename_i hc
          obtain ⟨x, h1, h2⟩ := Option.bind_eq_some_iff.1 h
          obtain ⟨k, hk⟩ := hT.all _ _ _ h1
          exact ⟨k, by rw [if_neg hp, if_pos hp2, if_pos hp3, if_pos hc, hk]; exact h2⟩
        · cases h
      rename_i hp3
      obtain ⟨⟨ps, L⟩, h1, h2⟩ := Option.bind_eq_some_iff.1 h
      simp only at h2
      split at h2
      · rename_i hn
        obtain ⟨x, h3, h4⟩ := Option.bind_eq_some_iff.1 h2
        obtain ⟨k, hk⟩ := hT.all _ _ _ h3
        exact ⟨k, by rw [if_neg hp, if_pos hp2, if_neg hp3, h1]; simp only [Option.bind_some]; rw [if_pos hn, hk]; exact h4⟩
      · cases h2
    · rename_i hp2
      split at h
      · rename_i hp4
        unfold callF callL at h
        obtain ⟨r0, h, hc⟩ := Option.bind_eq_some_iff.1 h
        obtain ⟨⟨ps, L⟩, h1, h2⟩ := Option.bind_eq_some_iff.1 h
        simp only at h2
        split at h2
        · rename_i hn
          obtain ⟨x, h3, h4⟩ := Option.bind_eq_some_iff.1 h2
          obtain ⟨k, hk⟩ := hT.all _ _ _ h3
          refine ⟨k, ?_⟩
          rw [if_neg hp, if_neg hp2, if_pos hp4]
          unfold callF callL
          rw [h1]
          simp only [Option.bind_some]
          rw [if_pos hn, hk, Option.bind_some, h4]
          exact hc
        · cases h2
      rename_i hp4
      obtain ⟨⟨ys, ids⟩, h1, h2⟩ := Option.bind_eq_some_iff.1 h
      simp only at h2
      obtain ⟨x, h3, h4⟩ := Option.bind_eq_some_iff.1 h2
      obtain ⟨k, hk⟩ := hT.all _ _ _ h3
      exact ⟨k, by rw [if_neg hp, if_neg hp2, if_neg hp4, h1]; simp only [Option.bind_some]; rw [hk]; exact h4⟩

theorem evOp_below (hT : Tower C E) {e : Nat → AV} {σ : Sto} {key : Nat} {op : Op} {r : AV × Sto} (h : evOp I E pf e σ key op = some r) : ∃ k, evOp I (C k) pf e σ key op = some r := by
  cases op
  case call c =>
    unfold evOp at h ⊢
    simp only at h ⊢
    split at h
    · exact ⟨0, h⟩
    · exact callOp_below hT h
    · cases h
  case slice t x lo hi mx => cases mx <;> exact ⟨0, h⟩
  all_goals exact ⟨0, h⟩

theorem ev1_below (hT : Tower C E) {ops : Array Oper} {base i : Nat} {s s1 : St} (h : ev1 I E pf ops base i s = some s1) : ∃ k, ev1 I (C k) pf ops base i s = some s1 := by
  unfold ev1 at h ⊢
  split at h
  · exact ⟨0, h⟩
  · split at h
    · cases h
    · exact ⟨0, h⟩
    · obtain ⟨q, h1, h2⟩ := Option.map_eq_some_iff.1 h
      obtain ⟨k, hk⟩ := evOp_below hT h1
      exact ⟨k, by rw [hk]; exact congrArg some h2⟩

theorem evL_below (hT : Tower C E) {ops : Array Oper} {base : Nat} : ∀ (L : List Nat) {s s1 : St}, evL I E pf ops base L s = some s1 → ∃ k, evL I (C k) pf ops base L s = some s1
  | [], s, s1, h => ⟨0, h⟩
  | i :: L, s, s1, h => by
    obtain ⟨s2, h1, h2⟩ := Option.bind_eq_some_iff.1 h
    obtain ⟨k1, hk1⟩ := ev1_below hT h1
    obtain ⟨k2, hk2⟩ := evL_below hT L h2
    refine ⟨max k1 k2, ?_⟩
    simp only [evL, ev1_mono (hT.up _ _ (Nat.le_max_left k1 k2)) hk1, Option.bind_some]
    exact evL_mono (hT.up _ _ (Nat.le_max_right k1 k2)) L hk2

theorem roundsE_below (hT : Tower C E) {m : Nat} {c : Code} (hc : ∀ (s : St) (r : Ex × St), evC I E pf m c s = some r → ∃ k, evC I (C k) pf m c s = some r) :
    ∀ (n : Nat) (s : St) (r : Ex × St), roundsE (evC I E pf m c) n s = some r → ∃ k, roundsE (evC I (C k) pf m c) n s = some r
  | 0, s, r, h => by cases h
  | n + 1, s, r, h => by
    simp only [roundsE] at h ⊢
    obtain ⟨⟨x, s1⟩, h1, h2⟩ := Option.bind_eq_some_iff.1 h
    obtain ⟨k1, hk1⟩ := hc _ _ h1
    cases x with
    | normal =>
      obtain ⟨k2, hk2⟩ := roundsE_below hT hc n s1 r h2
      refine ⟨max k1 k2, ?_⟩
      rw [evC_mono (hT.up _ _ (Nat.le_max_left k1 k2)) (Nat.le_refl _) _ _ _ hk1]
      simp only [Option.bind_some]
      exact roundsE_mono (fun s r hr => evC_mono (hT.up _ _ (Nat.le_max_right k1 k2)) (Nat.le_refl _) _ _ _ hr) n n s1 r (Nat.le_refl _) hk2
    | exit id => exact ⟨k1, by rw [hk1]; exact h2⟩
    | ret => exact ⟨k1, by rw [hk1]; exact h2⟩

theorem evC_below (hT : Tower C E) {m : Nat} : ∀ (c : Code) (s : St) (r : Ex × St), evC I E pf m c s = some r → ∃ k, evC I (C k) pf m c s = some r := by
  intro c
  induction c with
  | skip => intro s r h; exact ⟨0, by simpa only [evC] using h⟩
  | region id ops draw =>
    intro s r h
    simp only [evC] at h ⊢
    obtain ⟨s1, h1, h2⟩ := Option.map_eq_some_iff.1 h
    obtain ⟨k, hk⟩ := evL_below hT _ h1
    exact ⟨k, by rw [hk]; exact congrArg some h2⟩
  | seq x y ihx ihy =>
    intro s r h
    simp only [evC] at h ⊢
    obtain ⟨⟨ex1, s1⟩, h1, h2⟩ := Option.bind_eq_some_iff.1 h
    obtain ⟨k1, hk1⟩ := ihx _ _ h1
    cases ex1 with
    | normal =>
      obtain ⟨k2, hk2⟩ := ihy _ _ h2
      refine ⟨max k1 k2, ?_⟩
      rw [evC_mono (hT.up _ _ (Nat.le_max_left k1 k2)) (Nat.le_refl _) _ _ _ hk1]
      simp only [Option.bind_some]
      exact evC_mono (hT.up _ _ (Nat.le_max_right k1 k2)) (Nat.le_refl _) _ _ _ hk2
    | exit id => exact ⟨k1, by rw [hk1]; exact h2⟩
    | ret => exact ⟨k1, by rw [hk1]; exact h2⟩
  | cond cnd x y ihx ihy =>
    intro s r h
    simp only [evC] at h ⊢
    split at h
    · rename_i t ht
      cases t with
      | true => exact ihx _ _ h
      | false => exact ihy _ _ h
    · cases h
  | block id c ih =>
    intro s r h
    simp only [evC] at h ⊢
    obtain ⟨q, h1, h2⟩ := Option.map_eq_some_iff.1 h
    obtain ⟨k, hk⟩ := ih _ _ h1
    exact ⟨k, by rw [hk]; exact congrArg some h2⟩
  | loop c ih =>
    intro s r h
    simp only [evC] at h ⊢
    exact roundsE_below hT ih m s r h
  | exit id => intro s r h; exact ⟨0, by simpa only [evC] using h⟩
  | label l => intro s r h; exact ⟨0, by simpa only [evC] using h⟩
  | ret => intro s r h; exact ⟨0, by simpa only [evC] using h⟩
  | _ => intro s r h; simp [evC] at h

theorem evF_below (hT : Tower C E) {m : Nat} {fn : Func} {c : Code} {args : List AV} {r : AV} (h : evF I E pf m fn c args = some r) : ∃ k, evF I (C k) pf m fn c args = some r := by
  unfold evF at h ⊢
  split at h
  · rename_i hc
    obtain ⟨q, h1, h2⟩ := Option.bind_eq_some_iff.1 h
    obtain ⟨k, hk⟩ := evC_below hT _ _ _ h1
    exact ⟨k, by rw [if_pos hc, hk]; exact h2⟩
  · cases h
theorem evM_below (hT : Tower C E) {m : Nat} {fn : Func} {c : Code} {args : List AV} {r : AV} (h : evM I E pf m fn c args = some r) : ∃ k, evM I (C k) pf m fn c args = some r := by
  unfold evM at h ⊢
  simp only at h ⊢
  split at h
  · rename_i hc
    obtain ⟨q, h1, h2⟩ := Option.bind_eq_some_iff.1 h
    obtain ⟨k, hk⟩ := evC_below hT _ _ _ h1
    exact ⟨k, by rw [if_pos hc, hk]; exact h2⟩
  · cases h

theorem evN_below (hT : Tower C E) {m : Nat} {fn : Func} {c : Code} {args : List AV} {r : AV} (h : evN I E pf m fn c args = some r) : ∃ k, evN I (C k) pf m fn c args = some r := by
  unfold evN at h ⊢
  split at h
  · rename_i hc
    obtain ⟨q, h1, h2⟩ := Option.bind_eq_some_iff.1 h
    obtain ⟨k, hk⟩ := evC_below hT _ _ _ h1
    exact ⟨k, by rw [if_pos hc, hk]; exact h2⟩
  · cases h

/-! ### calls however deep -/
variable {T : FuncId → Option (Func × Code)} {hand : Sem1} {opt : FuncId → List Nat}

theorem evCall_succ (hd : ∀ f xs r, hand f xs = some r → T f = none) : ∀ k, Knows (evCall I T hand pf opt k) (evCall I T hand pf opt (k + 1))
  | 0 => fun f xs y h => by
    simp only [evCall] at h ⊢
    rw [hd _ _ _ h]
    exact h
  | k + 1 => fun f xs y h => by
    have ih := evCall_succ hd k
    simp only [evCall.eq_2 I T hand pf opt k] at h
    rw [evCall.eq_2 I T hand pf opt (k + 1)]
    dsimp only
    split at h
    · rename_i fn c hf
      split at h
      · rename_i hp
        rw [if_pos hp]
        exact evM_mono ih (Nat.le_succ _) h
      split at h
      · rename_i hp hp3
        rw [if_neg hp, if_pos hp3]
        exact evN_mono ih (Nat.le_succ _) h
      · rename_i hp hp3
        rw [if_neg hp, if_neg hp3]
        exact evF_mono ih (Nat.le_succ _) h
    · exact h
theorem evCall_up (hd : ∀ f xs r, hand f xs = some r → T f = none) (i j : Nat) (hij : i ≤ j) : Knows (evCall I T hand pf opt i) (evCall I T hand pf opt j) := by
  induction hij with
  | refl => exact fun _ _ _ h => h
  | step _ ih => exact fun f xs y h => evCall_succ hd _ f xs y (ih f xs y h)

open Classical in
/-- What a call gives at some depth. -/
noncomputable def evAll (I : Tab) (T : FuncId → Option (Func × Code)) (hand : Sem1) (pf : FuncId → Nat) (opt : FuncId → List Nat) : Sem1 := fun f xs =>
  if h : ∃ k r, evCall I T hand pf opt k f xs = some r then some h.choose_spec.choose else none

theorem evAll_tower (hd : ∀ f xs r, hand f xs = some r → T f = none) : Tower (evCall I T hand pf opt) (evAll I T hand pf opt) :=
  ⟨evCall_up hd, fun f xs y h => by
    unfold evAll at h
    split at h
    · rename_i hx
      obtain rfl := Option.some.inj h
      exact ⟨_, hx.choose_spec.choose_spec⟩
    · cases h⟩
theorem evAll_of (hd : ∀ f xs r, hand f xs = some r → T f = none) {k : Nat} {f : FuncId} {xs : List AV} {r : AV} (h : evCall I T hand pf opt k f xs = some r) : evAll I T hand pf opt f xs = some r := by
  have hx : ∃ k r, evCall I T hand pf opt k f xs = some r := ⟨k, r, h⟩
  unfold evAll
  rw [dif_pos hx]
  have h1 := hx.choose_spec.choose_spec
  have h2 := evCall_up (I := I) (pf := pf) hd _ _ (Nat.le_max_left k hx.choose) _ _ _ h
  have h3 := evCall_up (I := I) (pf := pf) hd _ _ (Nat.le_max_right k hx.choose) _ _ _ h1
  rw [h2] at h3
  exact h3.symm

theorem evAll_plain (hd : ∀ f xs r, hand f xs = some r → T f = none) {f : FuncId} {fn : Func} {c : Code} (hT : T f = some (fn, c)) (hp : pf f ≠ 2 ∧ pf f ≠ 3 ∧ pf f ≠ 4) {m : Nat} {args : List AV} {r : AV}
    (h : evF I (evAll I T hand pf opt) (withOpt (opt f) pf) m fn c args = some r) : evAll I T hand pf opt f args = some r := by
  obtain ⟨k, hk⟩ := evF_below (evAll_tower hd) h
  refine evAll_of hd (k := max k m + 1) ?_
  simp only [evCall, hT, if_neg (show ¬ (pf f = 2 ∨ pf f = 4) from fun h => h.elim hp.1 hp.2.2), if_neg hp.2.1]
  exact evF_mono (evCall_up hd _ _ (Nat.le_max_left k m)) (Nat.le_max_right k m) hk
theorem evAll_lent (hd : ∀ f xs r, hand f xs = some r → T f = none) {f : FuncId} {fn : Func} {c : Code} (hT : T f = some (fn, c)) (hp : pf f = 2) {m : Nat} {args : List AV} {r : AV}
    (h : evM I (evAll I T hand pf opt) (withOpt (opt f) pf) m fn c args = some r) : evAll I T hand pf opt f args = some r := by
  obtain ⟨k, hk⟩ := evM_below (evAll_tower hd) h
  refine evAll_of hd (k := max k m + 1) ?_
  simp only [evCall, hT, if_pos (show pf f = 2 ∨ pf f = 4 from .inl hp)]
  exact evM_mono (evCall_up hd _ _ (Nat.le_max_left k m)) (Nat.le_max_right k m) hk
theorem evAll_new (hd : ∀ f xs r, hand f xs = some r → T f = none) {f : FuncId} {fn : Func} {c : Code} (hT : T f = some (fn, c)) (hp : pf f = 3) {m : Nat} {args : List AV} {r : AV}
    (h : evN I (evAll I T hand pf opt) (withOpt (opt f) pf) m fn c args = some r) : evAll I T hand pf opt f args = some r := by
  obtain ⟨k, hk⟩ := evN_below (evAll_tower hd) h
  refine evAll_of hd (k := max k m + 1) ?_
  simp only [evCall, hT, if_neg (show ¬ (pf f = 2 ∨ pf f = 4) by rw [hp]; decide), if_pos hp]
  exact evN_mono (evCall_up hd _ _ (Nat.le_max_left k m)) (Nat.le_max_right k m) hk
theorem evAll_hand (hd : ∀ f xs r, hand f xs = some r → T f = none) {f : FuncId} {args : List AV} {r : AV} (h : hand f args = some r) : evAll I T hand pf opt f args = some r :=
  evAll_of hd (k := 0) h
theorem evAll_sound {P : Program} (hd : ∀ f xs r, hand f xs = some r → T f = none) (hs : ∀ k f xs x, evCall I T hand pf opt k f xs = some x → FOk P pf f xs x) (f : FuncId) (xs : List AV) (x : AV) (h : evAll I T hand pf opt f xs = some x) : FOk P pf f xs x := by
  obtain ⟨k, hk⟩ := (evAll_tower hd).all _ _ _ h
  exact hs k f xs x hk
end
end Go.Proofs.YtegbkihgnofkfaaGreatDoor.Ev

/-
The engine, part 28: rules by which code is run over EE, one for each kind of operation.
-/
namespace Go.Proofs.YtegbkihgnofkfaaGreatDoor.Ev
section
set_option linter.unusedVariables false
set_option linter.unusedSimpArgs false
open Go Go.RowKit
set_option linter.unusedVariables false
set_option linter.unusedSimpArgs false
variable {I : Tab} {C : Sem1} {pf : FuncId → Nat} {m : Nat} {e : Nat → AV} {σ : Sto} {key : Nat}

/-! ### values -/
abbrev N (n : Int) : AV := .v (.int .i64 n)
abbrev U (c : UInt8) : AV := .v (.int .u8 (c.toNat : Int))
abbrev B (b : Bool) : AV := .v (.bool b)
abbrev S (l : List UInt8) : AV := .v (.string ⟨List.toArray l⟩)
abbrev nilP : AV := .v (.pointer none)

theorem toList_mk (l : List UInt8) : (⟨List.toArray l⟩ : ByteArray).toList = l := by rw [ByteArray.toList_eq]
theorem size_mk (l : List UInt8) : (⟨List.toArray l⟩ : ByteArray).size = l.length := rfl
theorem append_mk (a b : List UInt8) : (⟨List.toArray a⟩ : ByteArray) ++ ⟨List.toArray b⟩ = ⟨List.toArray (a ++ b)⟩ := by
  apply ByteArray.ext
  simp
theorem extract_mk (l : List UInt8) (a b : Nat) : (⟨List.toArray l⟩ : ByteArray).extract a b = ⟨List.toArray ((l.take b).drop a)⟩ := by
  apply ByteArray.ext
  simp [List.extract_eq_take_drop, List.drop_take]

/-! ### unary, binary, convert -/
def binK (σ : Sto) (op : BinOp) (a b : AV) : Option TI → Option (AV × Sto)
  | some i => (bin op i.k a b).map (pairK σ)
  | none => none
theorem evOp_binOp (op : BinOp) (T yT : TypeId) (x y : Operand) : evOp I C pf e σ key (.binOp op T x y yT) = binK σ op (val e x) (val e y) (I T) := by
  simp only [evOp, binK]
  cases I T <;> rfl
theorem binK_some (op : BinOp) (a b : AV) (i : TI) : binK σ op a b (some i) = (bin op i.k a b).map (pairK σ) := rfl
theorem bin_bool (op : BinOp) (a b : Bool) : bin op .bool (B a) (B b) = eqB op (a == b) := rfl
theorem bin_nn (op : BinOp) (q : Nat) : bin op (.ptr q) nilP nilP = eqB op true := rfl
theorem bin_pn (op : BinOp) (q : Nat) (cs : List AV) : bin op (.ptr q) (.p cs) nilP = eqB op false := rfl
theorem bin_rn (op : BinOp) (q id o : Nat) : bin op (.ptr q) (.r id o) nilP = eqB op false := rfl
theorem eqB_eql (b : Bool) : eqB .eql b = some (B b) := rfl
theorem eqB_neq (b : Bool) : eqB .neq b = some (B (!b)) := rfl

theorem str_add {a b : List UInt8} (h : a.length + b.length ≤ 9223372036854775807) : strBin .add ⟨List.toArray a⟩ ⟨List.toArray b⟩ = some (S (a ++ b)) := by
  simp only [strBin, size_mk, if_pos h, append_mk]
theorem str_eql (a b : List UInt8) : strBin .eql ⟨List.toArray a⟩ ⟨List.toArray b⟩ = some (B (a == b)) := by simp only [strBin, toList_mk]
theorem str_neq (a b : List UInt8) : strBin .neq ⟨List.toArray a⟩ ⟨List.toArray b⟩ = some (B (!(a == b))) := by simp only [strBin, toList_mk]
theorem str_lss (a b : List UInt8) : strBin .lss ⟨List.toArray a⟩ ⟨List.toArray b⟩ = some (B (Op.bytesLess a b)) := by simp only [strBin, toList_mk]
theorem str_leq (a b : List UInt8) : strBin .leq ⟨List.toArray a⟩ ⟨List.toArray b⟩ = some (B (Op.bytesLess a b || a == b)) := by simp only [strBin, toList_mk]
theorem str_gtr (a b : List UInt8) : strBin .gtr ⟨List.toArray a⟩ ⟨List.toArray b⟩ = some (B (!(Op.bytesLess a b || a == b))) := by simp only [strBin, toList_mk]
theorem str_geq (a b : List UInt8) : strBin .geq ⟨List.toArray a⟩ ⟨List.toArray b⟩ = some (B (!(Op.bytesLess a b))) := by simp only [strBin, toList_mk]

theorem int_add (k : IntKind) (a b : Int) : intBin .add k a b = some (.v (.int k (k.wrap (a + b)))) := rfl
theorem int_sub (k : IntKind) (a b : Int) : intBin .sub k a b = some (.v (.int k (k.wrap (a - b)))) := rfl
theorem int_xor (k : IntKind) (a b : Int) : intBin .xor k a b = some (.v (.int k (bitsI .xor k a b))) := rfl
theorem int_mul (k : IntKind) (a b : Int) : intBin .mul k a b = some (.v (.int k (k.wrap (a * b)))) := rfl
theorem int_quo (k : IntKind) (a b : Int) : intBin .quo k a b = if b = 0 then none else some (.v (.int k (k.wrap (a.tdiv b)))) := rfl
theorem int_rem (k : IntKind) (a b : Int) : intBin .rem k a b = if b = 0 then none else some (.v (.int k (a.tmod b))) := rfl
theorem int_eql (k : IntKind) (a b : Int) : intBin .eql k a b = some (B (decide (a = b))) := by
  simp only [intBin]
  congr 4
theorem int_neq (k : IntKind) (a b : Int) : intBin .neq k a b = some (B (!decide (a = b))) := by
  have : (a != b) = !decide (a = b) := by
    rw [bne, show (a == b) = decide (a = b) from by rw [Bool.eq_iff_iff, beq_iff_eq, decide_eq_true_iff]]
  simp only [intBin, this]
theorem int_lss (k : IntKind) (a b : Int) : intBin .lss k a b = some (B (decide (a < b))) := rfl
theorem int_leq (k : IntKind) (a b : Int) : intBin .leq k a b = some (B (decide (a ≤ b))) := rfl
theorem int_gtr (k : IntKind) (a b : Int) : intBin .gtr k a b = some (B (decide (a > b))) := rfl
theorem int_geq (k : IntKind) (a b : Int) : intBin .geq k a b = some (B (decide (a ≥ b))) := rfl
theorem wrap64 {x : Int} (h1 : -9223372036854775808 ≤ x) (h2 : x ≤ 9223372036854775807) : IntKind.i64.wrap x = x := by
  unfold IntKind.wrap
  simp [IntKind.bits, IntKind.signed]
  omega
theorem wrap8 {x : Int} (h1 : 0 ≤ x) (h2 : x ≤ 255) : IntKind.u8.wrap x = x := by
  unfold IntKind.wrap
  simp [IntKind.bits, IntKind.signed]
  omega
theorem u8_lt (c : UInt8) : (c.toNat : Int) ≤ 255 := by
  have := c.toNat_lt
  omega

def unK (σ : Sto) (op : UnOp) : AV → Option (AV × Sto)
  | .v (.bool b) => match op with | .not => some (B (!b), σ) | _ => none
  | .v (.int k n) => match op with | .neg => some (.v (.int k (k.wrap (0 - n))), σ) | _ => none
  | _ => none
theorem evOp_unOp (op : UnOp) (T : TypeId) (x : Operand) : evOp I C pf e σ key (.unOp op T x) = unK σ op (val e x) := by
  simp only [evOp, unK]
  cases op <;> cases hv : val e x <;> try rfl
  all_goals (rename_i q; cases q <;> rfl)
theorem unK_not (b : Bool) : unK σ .not (B b) = some (B (!b), σ) := rfl
theorem unK_neg (k : IntKind) (n : Int) : unK σ .neg (.v (.int k n)) = some (.v (.int k (k.wrap (0 - n))), σ) := rfl

def convK (I : Tab) (σ : Sto) (x : AV) : Option TI → Option TI → Option (AV × Sto)
  | some si, some di => (conv I si di x).map (pairK σ)
  | _, _ => none
theorem evOp_convert (s d : TypeId) (x : Operand) : evOp I C pf e σ key (.convert s d x) = convK I σ (val e x) (I s) (I d) := by
  simp only [evOp, convK]
  cases I s <;> cases I d <;> rfl
theorem convK_some (x : AV) (a b : TI) : convK I σ x (some a) (some b) = (conv I a b x).map (pairK σ) := rfl
theorem conv_int (k k2 : IntKind) (n : Int) (a : TI) (q1 q2 : Nat) (z : List Value) : conv I a ⟨.int k, q1, q2, z⟩ (.v (.int k2 n)) = some (.v (.int k (k.wrap n))) := rfl
theorem conv_str (x : ByteArray) (q1 q2 q3 q4 : Nat) (z z2 : List Value) : conv I ⟨.str, q1, q2, z⟩ ⟨.str, q3, q4, z2⟩ (.v (.string x)) = some (.v (.string x)) := rfl
def bytesK (n : Nat) (cs : List AV) : Option TI → Option AV
  | some ⟨.int .u8, _, _, _⟩ => if cs.length = n then (bytesOf cs).map fun l => .v (.string ⟨l.toArray⟩) else none
  | _ => none
theorem conv_bytes (E : Nat) (ex : Bool) (n : Nat) (cs : List AV) (q1 q2 q3 q4 : Nat) (z z2 : List Value) : conv I ⟨.sl E, q1, q2, z⟩ ⟨.str, q3, q4, z2⟩ (.s ex n cs) = bytesK n cs (I E) := rfl
theorem bytesK_some (n : Nat) (cs : List AV) (q1 q2 : Nat) (z : List Value) : bytesK n cs (some ⟨.int .u8, q1, q2, z⟩) = if cs.length = n then (bytesOf cs).map fun l => .v (.string ⟨l.toArray⟩) else none := rfl
theorem bytesOf_one (c : UInt8) : bytesOf [U c] = some [c] := by simp [bytesOf]
theorem bytesOf_int {n : Int} (h0 : 0 ≤ n) (h : n ≤ 255) : bytesOf [.v (.int .u8 n)] = some [UInt8.ofNat n.toNat] := by simp [bytesOf]

/-! ### parts -/
def extK (σ : Sto) (i : Nat) : AV → Option (AV × Sto)
  | .t xs => (xs[i]?).map (pairK σ)
  | _ => none
theorem evOp_extract (x : Operand) (i : Nat) : evOp I C pf e σ key (.extract x i) = extK σ i (val e x) := by
  simp only [evOp]
  cases val e x <;> rfl
theorem extK_t (i : Nat) (xs : List AV) : extK σ i (.t xs) = (xs[i]?).map (pairK σ) := rfl
def faK (σ : Sto) (f : Nat) (x : AV) : Option TI → Option (AV × Sto)
  | some ⟨.st fs, _, _, _⟩ => (fs[f]?).bind fun fd => (addOff fd.1 x).map (pairK σ)
  | _ => none
theorem evOp_fa (t : TypeId) (x : Operand) (f : Nat) : evOp I C pf e σ key (.fieldAddr t x f) = faK σ f (val e x) (I t) := by
  simp only [evOp]
  cases I t with
  | none => rfl
  | some i =>
    obtain ⟨k, a, b, c⟩ := i
    cases k <;> rfl
theorem faK_st (f : Nat) (x : AV) (fs : List (Nat × Nat)) (a b : Nat) (c : List Value) : faK σ f x (some ⟨.st fs, a, b, c⟩) = (fs[f]?).bind fun fd => (addOff fd.1 x).map (pairK σ) := rfl
def fieldK (I : Tab) (σ : Sto) (f : Nat) (x : AV) : Option TI → Option (AV × Sto)
  | some ⟨.st fs, _, _, _⟩ => (fs[f]?).bind fun fd => (I fd.2).bind fun fi => match x with
      | .a cs => (takeVal fi (cs.drop fd.1)).map (pairK σ)
      | _ => none
  | _ => none
theorem evOp_field (t : TypeId) (x : Operand) (f : Nat) : evOp I C pf e σ key (.field t x f) = fieldK I σ f (val e x) (I t) := by
  simp only [evOp]
  cases I t with
  | none => rfl
  | some i =>
    obtain ⟨k, a, b, c⟩ := i
    cases k <;> rfl
theorem fieldK_st (f : Nat) (cs : List AV) (fs : List (Nat × Nat)) (a b : Nat) (c : List Value) : fieldK I σ f (.a cs) (some ⟨.st fs, a, b, c⟩) = (fs[f]?).bind fun fd => (I fd.2).bind fun fi => (takeVal fi (cs.drop fd.1)).map (pairK σ) := rfl

/-! ### memory -/
def ldK (σ : Sto) (x : Option (List AV)) : Option TI → Option (AV × Sto)
  | some i => x.bind fun cs => (takeVal i cs).map (pairK σ)
  | none => none
theorem evOp_ld (t : TypeId) (x : Operand) : evOp I C pf e σ key (.load t x) = ldK σ (cellsAt (lookAt pf σ) (val e x)) (I t) := by
  simp only [evOp, ldK]
  cases I t <;> rfl
def tvK (σ : Sto) (i : TI) (cs : List AV) : Option (AV × Sto) := (takeVal i cs).map (pairK σ)
theorem ldK_some (x : Option (List AV)) (i : TI) : ldK σ x (some i) = x.bind (tvK σ i) := rfl
theorem tvK_eq (i : TI) (cs : List AV) : tvK σ i cs = (takeVal i cs).map (pairK σ) := rfl
theorem cells_r (id o : Nat) : cellsAt σ (.r id o) = (σ id).map fun s => s.cells.drop o := rfl
def headK : List AV → Option AV
  | [] => none
  | x :: _ => some x
theorem tv_one (k : TK) (a b : Nat) (z : List Value) (cs : List AV) (h : (⟨k, a, b, z⟩ : TI).agg = false) : takeVal ⟨k, a, b, z⟩ cs = cs.head? := by simp only [takeVal, h, Bool.false_eq_true, if_false]
theorem tv_st (fs : List (Nat × Nat)) (a b : Nat) (z : List Value) (cs : List AV) : takeVal ⟨.st fs, a, b, z⟩ cs = if a ≤ cs.length then some (.a (cs.take a)) else none := rfl
theorem tv_arr (n q : Nat) (a b : Nat) (z : List Value) (cs : List AV) : takeVal ⟨.arr n q, a, b, z⟩ cs = if a ≤ cs.length then some (.a (cs.take a)) else none := rfl

def stK (σ : Sto) (ls : List AV) : AV → Option (AV × Sto)
  | .r id o => match σ id with
    | some (.ob T cs) => (setRange cs o ls).map fun cs1 => (.v undef, upd σ id (some (.ob T cs1)))
    | some (.row E sz n cs) => (setRange cs o ls).map fun cs1 => (.v undef, upd σ id (some (.row E sz n cs1)))
    | _ => none
  | _ => none
def storeK (σ : Sto) (x y : AV) : Option TI → Option (AV × Sto)
  | some i => (leaves y).bind fun ls => if ls.length = i.sz ∧ 0 < i.sz ∧ ls.all leafOk = true then stK σ ls x else none
  | none => none
theorem evOp_store (t : TypeId) (x y : Operand) : evOp I C pf e σ key (.store t x y) = if stOk pf t (val e x) = true then storeK σ (val e x) (val e y) (I t) else none := by
  simp only [evOp]
  split
  case isFalse => rfl
  simp only [putAt]
  cases I t with
  | none => rfl
  | some i =>
    simp only [Option.bind_some, storeK]
    cases leaves (val e y) with
    | none => rfl
    | some ls =>
      simp only [Option.bind_some]
      split
      · cases val e x <;> rfl
      · rfl
theorem storeK_some (x y : AV) (i : TI) : storeK σ x y (some i) = (leaves y).bind fun ls => if ls.length = i.sz ∧ 0 < i.sz ∧ ls.all leafOk = true then stK σ ls x else none := rfl
theorem leaves_v {x : Value} (h : x.oneCell' = true) : leaves (.v x) = some [.v x] := by simp only [leaves, h, if_true]
theorem leaves_a (cs : List AV) : leaves (.a cs) = some cs := rfl
theorem leaves_p (cs : List AV) : leaves (.p cs) = some [.p cs] := rfl
theorem leaves_s (ex : Bool) (n : Nat) (cs : List AV) : leaves (.s ex n cs) = some [.s ex n cs] := rfl
theorem leaves_r (i o : Nat) : leaves (.r i o) = some [.r i o] := rfl
theorem leaves_w (i o n : Nat) : leaves (.w i o n) = some [.w i o n] := rfl
theorem leaves_int (k : IntKind) (n : Int) : leaves (.v (.int k n)) = some [.v (.int k n)] := rfl
theorem leaves_bool (b : Bool) : leaves (B b) = some [B b] := rfl
theorem leaves_str (s : ByteArray) : leaves (.v (.string s)) = some [.v (.string s)] := rfl
theorem leaves_ptr (a : Option Addr) : leaves (.v (.pointer a)) = some [.v (.pointer a)] := rfl
theorem leafOk_int (k : IntKind) (n : Int) : leafOk (.v (.int k n)) = true := rfl
theorem leafOk_bool (b : Bool) : leafOk (B b) = true := rfl
theorem leafOk_str (s : ByteArray) : leafOk (.v (.string s)) = true := rfl
theorem leafOk_ptr (a : Option Addr) : leafOk (.v (.pointer a)) = true := rfl
theorem leafOk_p (cs : List AV) : leafOk (.p cs) = true := rfl
theorem leafOk_s (ex : Bool) (n : Nat) (cs : List AV) : leafOk (.s ex n cs) = true := rfl
theorem leafOk_r (i o : Nat) : leafOk (.r i o) = true := rfl
theorem leafOk_w (i o n : Nat) : leafOk (.w i o n) = true := rfl
def slotK (σ : Sto) (id o : Nat) (ls : List AV) : Option Slot → Option (AV × Sto)
  | some (.ob T cs) => (setRange cs o ls).map fun cs1 => (.v undef, upd σ id (some (.ob T cs1)))
  | some (.row E sz n cs) => (setRange cs o ls).map fun cs1 => (.v undef, upd σ id (some (.row E sz n cs1)))
  | _ => none
theorem stK_r (ls : List AV) (id o : Nat) : stK σ ls (.r id o) = slotK σ id o ls (σ id) := by
  simp only [stK, slotK]
def obK (σ : Sto) (id T : Nat) (cs1 : List AV) : AV × Sto := (.v undef, upd σ id (some (.ob T cs1)))
def rowK (σ : Sto) (id E sz n : Nat) (cs1 : List AV) : AV × Sto := (.v undef, upd σ id (some (.row E sz n cs1)))
theorem slotK_ob (id o T : Nat) (ls cs : List AV) : slotK σ id o ls (some (.ob T cs)) = (setRange cs o ls).map (obK σ id T) := rfl
theorem slotK_row (id o E sz n : Nat) (ls cs : List AV) : slotK σ id o ls (some (.row E sz n cs)) = (setRange cs o ls).map (rowK σ id E sz n) := rfl
theorem upd_same (σ : Sto) (k : Nat) (x : Option Slot) : upd σ k x k = x := by simp [upd]
theorem upd_ne (σ : Sto) (k i : Nat) (x : Option Slot) (h : i ≠ k) : upd σ k x i = σ i := by simp [upd, h]
theorem upd_eq (σ : Sto) (k i : Nat) (x : Option Slot) : upd σ k x i = if i = k then x else σ i := rfl

def iaK (I : Tab) (σ : Sto) (x : AV) : Option TI → AV → Option (AV × Sto)
  | some ⟨.sl E, _, _, _⟩, .v (.int _ i) => (I E).bind fun ei => match x with
      | .s _ n cs => if 0 ≤ i ∧ i < (n : Int) ∧ cs.length = n * ei.sz ∧ 0 < ei.sz then some (.p (cs.drop (i.toNat * ei.sz)), σ) else none
      | .w id lo n => if 0 ≤ i ∧ i < (n : Int) then some (.r id (lo + i.toNat * ei.sz), σ) else none
      | _ => none
  | some ⟨.arr len E, _, _, _⟩, .v (.int _ i) => (I E).bind fun ei => if 0 ≤ i ∧ i < (len : Int) then (addOff (i.toNat * ei.sz) x).map (pairK σ) else none
  | _, _ => none
theorem evOp_ia (t : TypeId) (x ix : Operand) : evOp I C pf e σ key (.indexAddr t x ix) = iaK I σ (val e x) (I t) (val e ix) := by
  simp only [evOp]
  cases hi : I t with
  | none => simp [iaK]
  | some i =>
    obtain ⟨k, a, b, c⟩ := i
    cases k
    case sl E =>
      cases hv : val e ix <;> rfl
    case arr n E =>
      cases hv : val e ix <;> rfl
    all_goals rfl
theorem iaK_s (E : Nat) (a b : Nat) (c : List Value) (ex : Bool) (n : Nat) (cs : List AV) (k : IntKind) (i : Int) : iaK I σ (.s ex n cs) (some ⟨.sl E, a, b, c⟩) (.v (.int k i)) =
    (I E).bind fun ei => if 0 ≤ i ∧ i < (n : Int) ∧ cs.length = n * ei.sz ∧ 0 < ei.sz then some (.p (cs.drop (i.toNat * ei.sz)), σ) else none := rfl
theorem iaK_w (E : Nat) (a b : Nat) (c : List Value) (id lo n : Nat) (k : IntKind) (i : Int) : iaK I σ (.w id lo n) (some ⟨.sl E, a, b, c⟩) (.v (.int k i)) =
    (I E).bind fun ei => if 0 ≤ i ∧ i < (n : Int) then some (.r id (lo + i.toNat * ei.sz), σ) else none := rfl
theorem iaK_arr (len E : Nat) (a b : Nat) (c : List Value) (x : AV) (k : IntKind) (i : Int) : iaK I σ x (some ⟨.arr len E, a, b, c⟩) (.v (.int k i)) =
    (I E).bind fun ei => if 0 ≤ i ∧ i < (len : Int) then (addOff (i.toNat * ei.sz) x).map (pairK σ) else none := rfl

def ixK (I : Tab) (σ : Sto) (x : AV) : Option TI → AV → Option (AV × Sto)
  | some ⟨.str, _, _, _⟩, .v (.int _ i) => match x with
      | .v (.string s) => if 0 ≤ i then (s.data.toList[i.toNat]?).map fun c => (U c, σ) else none
      | _ => none
  | some ⟨.arr len E, _, _, _⟩, .v (.int _ i) => (I E).bind fun ei => match x with
      | .a cs => if 0 ≤ i ∧ i < (len : Int) then (takeVal ei (cs.drop (i.toNat * ei.sz))).map (pairK σ) else none
      | _ => none
  | _, _ => none
theorem evOp_ix (t : TypeId) (x ix : Operand) : evOp I C pf e σ key (.index t x ix) = ixK I σ (val e x) (I t) (val e ix) := by
  simp only [evOp]
  cases hi : I t with
  | none => simp [ixK]
  | some i =>
    obtain ⟨k, a, b, c⟩ := i
    cases k
    case str =>
      cases hv : val e ix <;> try rfl
      rename_i q
      cases q <;> try rfl
      rename_i k2 n
      simp only [ixK]
      cases val e x <;> try rfl
      rename_i y
      cases y <;> try rfl
      rename_i s
      simp only
      by_cases h0 : 0 ≤ n
      · by_cases h1 : n.toNat < s.size
        · rw [dif_pos ⟨h0, h1⟩, if_pos h0]
          have : s.data.toList[n.toNat]? = some s[n.toNat] := by
            rw [List.getElem?_eq_getElem (by simpa using h1)]
            rfl
          rw [this]
          rfl
        · rw [dif_neg (fun h => h1 h.2), if_pos h0, List.getElem?_eq_none (by simpa using h1)]
          rfl
      · rw [dif_neg (fun h => h0 h.1), if_neg h0]
    case arr n E =>
      cases hv : val e ix <;> try rfl
      rename_i q
      cases q <;> rfl
    all_goals rfl
theorem ixK_str (a b : Nat) (c : List Value) (l : List UInt8) (k : IntKind) (i : Int) : ixK I σ (S l) (some ⟨.str, a, b, c⟩) (.v (.int k i)) = if 0 ≤ i then (l[i.toNat]?).map fun c => (U c, σ) else none := rfl
theorem ixK_arr (len E : Nat) (a b : Nat) (c : List Value) (cs : List AV) (k : IntKind) (i : Int) : ixK I σ (.a cs) (some ⟨.arr len E, a, b, c⟩) (.v (.int k i)) =
    (I E).bind fun ei => if 0 ≤ i ∧ i < (len : Int) then (takeVal ei (cs.drop (i.toNat * ei.sz))).map (pairK σ) else none := rfl

def lkK (σ : Sto) (ok : Bool) : Option TI → AV → AV → Option (AV × Sto)
  | some ⟨.mp, _, _, _⟩, .m f, .v (.string s) => some (if ok = true then .t [.v (.int .i64 ((f s.data.toList).getD 0)), .v (.bool (f s.data.toList).isSome)] else .v (.int .i64 ((f s.data.toList).getD 0)), σ)
  | _, _, _ => none
theorem evOp_lk (t : TypeId) (x k : Operand) (ok : Bool) : evOp I C pf e σ key (.lookup t x k ok) = lkK σ ok (I t) (val e x) (val e k) := by
  simp only [evOp]
  generalize I t = a
  generalize val e x = b
  generalize val e k = c
  cases a with
  | none => rfl
  | some i =>
    obtain ⟨q, _, _, _⟩ := i
    cases q <;> rfl
theorem lkK_mp (ok : Bool) (a b : Nat) (c : List Value) (f : List UInt8 → Option Int) (l : List UInt8) : lkK σ ok (some ⟨.mp, a, b, c⟩) (.m f) (S l) = some (if ok = true then .t [.v (.int .i64 ((f l).getD 0)), .v (.bool (f l).isSome)] else .v (.int .i64 ((f l).getD 0)), σ) := rfl
theorem closed_m (f : List UInt8 → Option Int) : closed (.m f) = true := rfl
theorem agg_mp (a b : Nat) (c : List Value) : TI.agg ⟨.mp, a, b, c⟩ = false := rfl
def slK (I : Tab) (σ : Sto) (x : AV) (lo hi : Option AV) : Option TI → Option (AV × Sto)
  | some ⟨.str, _, _, _⟩ => match x with
      | .v (.string s) => (cut 0 (.v (.string s)) lo hi).map (pairK σ)
      | _ => none
  | some ⟨.sl E, _, _, _⟩ => (I E).bind fun ei => match x with
      | .s ex n cs => if cs.length = n * ei.sz then (cut ei.sz (.s ex n cs) lo hi).map (pairK σ) else none
      | .w id o n => if 0 < ei.sz then (cut ei.sz (.w id o n) lo hi).map (pairK σ) else none
      | _ => none
  | _ => none
theorem evOp_sl (t : TypeId) (x : Operand) (lo hi : Option Operand) : evOp I C pf e σ key (.slice t x lo hi none) = slK I σ (val e x) (lo.map (val e)) (hi.map (val e)) (I t) := by
  simp only [evOp]
  cases hi : I t with
  | none => rfl
  | some i =>
    obtain ⟨k, a, b, c⟩ := i
    cases k
    case str =>
      cases val e x <;> rfl
    case sl E =>
      cases I E <;> rfl
    all_goals rfl
theorem slK_str (a b : Nat) (c : List Value) (s : ByteArray) (lo hi : Option AV) : slK I σ (.v (.string s)) lo hi (some ⟨.str, a, b, c⟩) = (cut 0 (.v (.string s)) lo hi).map (pairK σ) := rfl
theorem slK_s (E a b : Nat) (c : List Value) (ex : Bool) (n : Nat) (cs : List AV) (lo hi : Option AV) : slK I σ (.s ex n cs) lo hi (some ⟨.sl E, a, b, c⟩) = (I E).bind fun ei => if cs.length = n * ei.sz then (cut ei.sz (.s ex n cs) lo hi).map (pairK σ) else none := rfl
theorem slK_w (E a b : Nat) (c : List Value) (id o n : Nat) (lo hi : Option AV) : slK I σ (.w id o n) lo hi (some ⟨.sl E, a, b, c⟩) = (I E).bind fun ei => if 0 < ei.sz then (cut ei.sz (.w id o n) lo hi).map (pairK σ) else none := rfl
/-- x[lo:] -/
theorem cut_str_lo (l : List UInt8) (k : IntKind) (i : Int) : cut 0 (S l) (some (.v (.int k i))) none = if 0 ≤ i ∧ i ≤ (l.length : Int) then some (S (l.drop i.toNat)) else none := by
  simp only [cut, bound, Option.bind_some, size_mk]
  split
  · rename_i h
    simp only [Option.map_some, extract_mk, List.take_length]
  · rfl
/-- x[:hi] -/
theorem cut_str_hi (l : List UInt8) (k : IntKind) (i : Int) : cut 0 (S l) none (some (.v (.int k i))) = if 0 ≤ i ∧ i ≤ (l.length : Int) then some (S (l.take i.toNat)) else none := by
  simp only [cut, bound, size_mk]
  split
  · simp only [Option.bind_some, Option.map_some, extract_mk, List.drop_zero]
  · rfl
theorem cut_str_both (l : List UInt8) (k k2 : IntKind) (i j : Int) : cut 0 (S l) (some (.v (.int k i))) (some (.v (.int k2 j))) = if 0 ≤ i ∧ i ≤ j ∧ j ≤ (l.length : Int) then some (S ((l.take j.toNat).drop i.toNat)) else none := by
  simp only [cut, bound, size_mk]
  by_cases h1 : 0 ≤ j ∧ j ≤ (l.length : Int)
  · rw [if_pos h1]
    simp only [Option.bind_some]
    by_cases h2 : 0 ≤ i ∧ i ≤ (j.toNat : Int)
    · rw [if_pos h2, if_pos (by omega)]
      simp only [Option.map_some, extract_mk]
    · rw [if_neg h2, if_neg (by omega)]
      rfl
  · rw [if_neg h1, if_neg (by omega)]
    rfl

theorem evOp_sl3 (t : TypeId) (x : Operand) (lo hi : Option Operand) (mx : Operand) : evOp I C pf e σ key (.slice t x lo hi (some mx)) = (cut3 I t (val e x) (lo.map (val e)) (hi.map (val e)) (val e mx)).map (pairK σ) := rfl
theorem cut3_0s {t E a b : Nat} {c : List Value} {ei : TI} (h : I t = some ⟨.sl E, a, b, c⟩) (hE : I E = some ei) (ex : Bool) (n : Nat) (cs : List AV) : cut3 I t (.s ex n cs) none (some (N 0)) (N 0) = some (.s true 0 []) := by
  simp [cut3, h, hE, bound]
theorem cut3_0w {t E a b : Nat} {c : List Value} {ei : TI} (h : I t = some ⟨.sl E, a, b, c⟩) (hE : I E = some ei) (id lo n : Nat) : cut3 I t (.w id lo n) none (some (N 0)) (N 0) = some (.s true 0 []) := by
  simp [cut3, h, hE, bound]
def mkK (I : Tab) (σ : Sto) (key : Nat) : Option TI → AV → AV → Option (AV × Sto)
  | some ⟨.sl E, _, _, _⟩, .v (.int _ n), .v (.int _ m) => (I E).bind fun ei => if 0 ≤ n ∧ n ≤ m ∧ 0 < ei.sz ∧ m.toNat * ei.by_ ≤ 140737488355328 ∧ m.toNat ≤ 140737488355328 then
        some (.w key 0 n.toNat, upd σ key (some (.row E ei.sz n.toNat (zrow (n.toNat * ei.sz) ei.sz (zeros ei))))) else none
  | _, _, _ => none
theorem evOp_mk (t : TypeId) (a b : Operand) : evOp I C pf e σ key (.makeSlice t a b) = mkK I σ key (I t) (val e a) (val e b) := rfl
theorem mkK_sl (E a b : Nat) (c : List Value) (k k2 : IntKind) (n m : Int) : mkK I σ key (some ⟨.sl E, a, b, c⟩) (.v (.int k n)) (.v (.int k2 m)) = (I E).bind fun ei => if 0 ≤ n ∧ n ≤ m ∧ 0 < ei.sz ∧ m.toNat * ei.by_ ≤ 140737488355328 ∧ m.toNat ≤ 140737488355328 then
        some (.w key 0 n.toNat, upd σ key (some (.row E ei.sz n.toNat (zrow (n.toNat * ei.sz) ei.sz (zeros ei))))) else none := rfl

def buildK (I : Tab) (σ : Sto) (ps : List (Nat × AV)) : Option TI → Option (AV × Sto)
  | some ⟨.st fs, sz, by_, z⟩ => (fillP (fun j => (fs[j]?).bind fun fd => (I fd.2).map fun fi => (fd.1, fi.sz)) (zeros ⟨.st fs, sz, by_, z⟩) ps).map fun cs => (.a cs, σ)
  | some ⟨.arr n E, sz, by_, z⟩ => (I E).bind fun ei => (fillP (fun j => some (j * ei.sz, ei.sz)) (zeros ⟨.arr n E, sz, by_, z⟩) ps).map fun cs => (.a cs, σ)
  | _ => none
theorem evOp_build (t : TypeId) (ps : Array (Nat × Operand)) : evOp I C pf e σ key (.build t ps) = buildK I σ (ps.toList.map fun q => (q.1, val e q.2)) (I t) := by
  simp only [evOp]
  cases hi : I t with
  | none => rfl
  | some i =>
    obtain ⟨k, a, b, c⟩ := i
    cases k <;> rfl
def placeK (I : Tab) (fs : List (Nat × Nat)) (j : Nat) : Option (Nat × Nat) := (fs[j]?).bind fun fd => (I fd.2).map fun fi => (fd.1, fi.sz)
def aggK (σ : Sto) (cs : List AV) : AV × Sto := (.a cs, σ)
theorem buildK_st (ps : List (Nat × AV)) (fs : List (Nat × Nat)) (sz by_ : Nat) (z : List Value) : buildK I σ ps (some ⟨.st fs, sz, by_, z⟩) = (fillP (placeK I fs) (z.map ofC) ps).map (aggK σ) := rfl
theorem buildK_arr0 (n E sz by_ : Nat) (z : List Value) : buildK I σ [] (some ⟨.arr n E, sz, by_, z⟩) = (I E).bind fun ei => some (.a (z.map ofC), σ) := rfl
theorem placeK_eq (fs : List (Nat × Nat)) (j : Nat) : placeK I fs j = (fs[j]?).bind fun fd => (I fd.2).map fun fi => (fd.1, fi.sz) := rfl
theorem fillP_nil (p : Nat → Option (Nat × Nat)) (cs : List AV) : fillP p cs [] = some cs := rfl
def fillK (p : Nat → Option (Nat × Nat)) (cs : List AV) (rest : List (Nat × AV)) : Option (Nat × Nat) → Option (List AV) → Option (List AV)
  | some (off, sz), some ls => if ls.length = sz then (setRange cs off ls).bind fun cs1 => fillP p cs1 rest else none
  | _, _ => none
theorem fillP_cons (p : Nat → Option (Nat × Nat)) (cs : List AV) (i : Nat) (x : AV) (rest : List (Nat × AV)) : fillP p cs ((i, x) :: rest) = fillK p cs rest (p i) (leaves x) := by
  simp only [fillP, fillK]
  cases p i with
  | none => rfl
  | some q => cases leaves x <;> rfl
theorem fillK_some (p : Nat → Option (Nat × Nat)) (cs : List AV) (rest : List (Nat × AV)) (off sz : Nat) (ls : List AV) : fillK p cs rest (some (off, sz)) (some ls) = if ls.length = sz then (setRange cs off ls).bind fun cs1 => fillP p cs1 rest else none := rfl
def bsK (σ : Sto) (len : Nat) (ps : List (Nat × AV)) : Option TI → Option (AV × Sto)
  | some ei => if len * ei.sz ≤ 16777216 then (fillP (fun j => some (j * ei.sz, ei.sz)) ((List.range (len * ei.sz)).map fun j => (zeros ei).getD (j % ei.sz) (.v undef)) ps).bind fun cs => some (.s true len cs, σ) else none
  | none => none
def bsT (I : Tab) (σ : Sto) (len : Nat) (ps : List (Nat × AV)) : Option TI → Option (AV × Sto)
  | some ⟨.sl E, _, _, _⟩ => bsK σ len ps (I E)
  | _ => none
theorem evOp_bs (t : TypeId) (len : Nat) (ps : Array (Nat × Operand)) : evOp I C pf e σ key (.buildSlice t len ps) = bsT I σ len (ps.toList.map fun q => (q.1, val e q.2)) (I t) := by
  simp only [evOp]
  cases hi : I t with
  | none => rfl
  | some i =>
    obtain ⟨k, a, b, c⟩ := i
    cases k <;> try rfl
    simp only [bsT]
    rename_i E
    cases I E <;> rfl
theorem bsT_sl (len : Nat) (ps : List (Nat × AV)) (E a b : Nat) (c : List Value) : bsT I σ len ps (some ⟨.sl E, a, b, c⟩) = bsK σ len ps (I E) := rfl
def slcK (σ : Sto) (len : Nat) (cs : List AV) : Option (AV × Sto) := some (.s true len cs, σ)
def plK (sz : Nat) (j : Nat) : Option (Nat × Nat) := some (j * sz, sz)
theorem plK_eq (sz j : Nat) : plK sz j = some (j * sz, sz) := rfl
theorem bsK_some (len : Nat) (ps : List (Nat × AV)) (ei : TI) : bsK σ len ps (some ei) = if len * ei.sz ≤ 16777216 then (fillP (plK ei.sz) (zrow (len * ei.sz) ei.sz (zeros ei)) ps).bind (slcK σ len) else none := rfl
theorem bsK_nil (ei : TI) : bsK σ 0 [] (some ei) = some (.s true 0 [], σ) := by simp [bsK_some, zrow, fillP, slcK]
theorem bsK_one (ei : TI) (x : AV) {ls : List AV} (h1 : leaves x = some ls) (h2 : ls.length = ei.sz) (h3 : ei.sz ≤ 16777216) : bsK σ 1 [(0, x)] (some ei) = some (.s true 1 ls, σ) := by
  rw [bsK_some, if_pos (by omega), fillP_cons, h1, plK_eq, fillK_some, if_pos h2]
  simp [setRange, zrow, h2, fillP, slcK]
theorem bsK_two (ei : TI) (x y : AV) {ls ms : List AV} (h1 : leaves x = some ls) (h2 : ls.length = ei.sz) (h3 : leaves y = some ms) (h4 : ms.length = ei.sz) (h5 : ei.sz ≤ 8388608) : bsK σ 2 [(0, x), (1, y)] (some ei) = some (.s true 2 (ls ++ ms), σ) := by
  rw [bsK_some, if_pos (by omega), fillP_cons, h1, plK_eq, fillK_some, if_pos h2]
  have e1 : setRange (zrow (2 * ei.sz) ei.sz (zeros ei)) (0 * ei.sz) ls = some (ls ++ (zrow (2 * ei.sz) ei.sz (zeros ei)).drop ei.sz) := by
    simp [setRange, zrow, h2]
    omega
  rw [e1, Option.bind_some, fillP_cons, h3, plK_eq, fillK_some, if_pos h4]
  have e2 : setRange (ls ++ (zrow (2 * ei.sz) ei.sz (zeros ei)).drop ei.sz) (1 * ei.sz) ms = some (ls ++ ms) := by
    have e3 : (ls ++ (zrow (2 * ei.sz) ei.sz (zeros ei)).drop ei.sz).take (1 * ei.sz) = ls := by rw [Nat.one_mul, List.take_append_of_le_length (by omega), List.take_of_length_le (by omega)]
    have e4 : (ls ++ (zrow (2 * ei.sz) ei.sz (zeros ei)).drop ei.sz).drop (1 * ei.sz + ms.length) = [] := List.drop_eq_nil_of_le (by simp [zrow]; omega)
    rw [setRange, if_pos (by simp [zrow]; omega), e3, e4, List.append_nil]
  rw [e2]
  rfl

def boxK (pf : FuncId → Nat) (σ : Sto) (key t : Nat) (x : AV) : Option TI → Option (AV × Sto)
  | some _ => (leaves x).bind fun ls => if ls.all leafOk = true then (if pf (oBox t) = 1 then some (.p ls, σ) else some (.r key 0, upd σ key (some (.ob t ls)))) else none
  | none => none
theorem evOp_box (t : TypeId) (x : Operand) : evOp I C pf e σ key (.box t x) = boxK pf σ key t (val e x) (I t) := by
  simp only [evOp, boxK]
  cases I t <;> rfl
def bxK (pf : FuncId → Nat) (σ : Sto) (key t : Nat) (ls : List AV) : Option (AV × Sto) := if ls.all leafOk = true then (if pf (oBox t) = 1 then some (.p ls, σ) else some (.r key 0, upd σ key (some (.ob t ls)))) else none
theorem boxK_some (t : Nat) (x : AV) (i : TI) : boxK pf σ key t x (some i) = (leaves x).bind (bxK pf σ key t) := rfl
theorem bxK_r {t : Nat} (h : pf (oBox t) = 0) (ls : List AV) : bxK pf σ key t ls = if ls.all leafOk = true then some (.r key 0, upd σ key (some (.ob t ls))) else none := by simp [bxK, h]
theorem bxK_p {t : Nat} (h : pf (oBox t) = 1) (ls : List AV) : bxK pf σ key t ls = if ls.all leafOk = true then some (.p ls, σ) else none := by simp [bxK, h]
def allocK (σ : Sto) (key t : Nat) : Option TI → Option (AV × Sto)
  | some i => some (.r key 0, upd σ key (some (.ob t (i.z.map ofC))))
  | none => none
theorem evOp_alloc (t : TypeId) : evOp I C pf e σ key (.alloc t) = allocK σ key t (I t) := by
  simp only [evOp, allocK]
  cases I t <;> rfl
theorem allocK_some (t : Nat) (i : TI) : allocK σ key t (some i) = some (.r key 0, upd σ key (some (.ob t (i.z.map ofC)))) := rfl

/-! ### calls -/
def lenK (σ : Sto) (x : AV) : Option TI → Option (AV × Sto)
  | some ⟨.str, _, _, _⟩ => match x with | .v (.string s) => some (N s.size, σ) | _ => none
  | some ⟨.sl _, _, _, _⟩ => match x with | .s _ n _ => some (N n, σ) | .w _ _ n => some (N n, σ) | _ => none
  | _ => none
theorem evOp_len (x : Operand) (t : TypeId) : evOp I C pf e σ key (.call { callee := .builtin .len, args := #[x], argTypes := #[t] }) = lenK σ (val e x) (I t) := by
  simp only [evOp, builtinOf, List.map_cons, List.map_nil, List.getElem?_toArray, List.getElem?_cons_zero]
  cases hi : I t with
  | none => rfl
  | some i =>
    obtain ⟨k, a, b, c⟩ := i
    cases k <;> rfl
theorem lenK_str (a b : Nat) (c : List Value) (l : List UInt8) : lenK σ (S l) (some ⟨.str, a, b, c⟩) = some (N l.length, σ) := rfl
theorem lenK_s (E a b : Nat) (c : List Value) (ex : Bool) (n : Nat) (cs : List AV) : lenK σ (.s ex n cs) (some ⟨.sl E, a, b, c⟩) = some (N n, σ) := rfl
theorem lenK_w (E a b : Nat) (c : List Value) (id lo n : Nat) : lenK σ (.w id lo n) (some ⟨.sl E, a, b, c⟩) = some (N n, σ) := rfl
theorem evOp_max (x y : Operand) (tys : Array TypeId) : evOp I C pf e σ key (.call { callee := .builtin .max, args := #[x, y], argTypes := tys }) = (mx2 true (val e x) (val e y)).map (pairK σ) := rfl
theorem evOp_min (x y : Operand) (tys : Array TypeId) : evOp I C pf e σ key (.call { callee := .builtin .min, args := #[x, y], argTypes := tys }) = (mx2 false (val e x) (val e y)).map (pairK σ) := rfl
theorem mx2_int (b : Bool) (k : IntKind) (x y : Int) : mx2 b (.v (.int k x)) (.v (.int k y)) = some (.v (.int k (if b = true then (if y > x then y else x) else (if y < x then y else x)))) := rfl

noncomputable def callK (C : Sem1) (pf : FuncId → Nat) (σ : Sto) (key : Nat) (f : FuncId) (xs : List AV) : Option (AV × Sto) := callOp C pf σ key f xs
theorem evOp_call (f : FuncId) (args : Array Operand) (tys : Array TypeId) : evOp I C pf e σ key (.call { callee := .value (.func f), args := args, argTypes := tys }) = callOp C pf σ key f (args.toList.map (val e)) := rfl
/-- A call of values alone. -/
theorem call1 {f : FuncId} {xs : List AV} {x : AV} (h : C f xs = some x) (hp : pf f = 1) (h1 : closedL xs = true) (h2 : closed x = true) : callOp C pf σ key f xs = some (x, σ) := by
  unfold callOp
  rw [if_pos hp, if_pos h1, h, Option.bind_some, if_pos h2]
/-- A call whose arguments never change. -/
theorem call0 {f : FuncId} {xs : List AV} {x : AV} (h : C f xs = some x) (hp : pf f = 0) (h1 : closedL xs = true) : callOp C pf σ key f xs = adopt σ key x := by
  unfold callOp
  rw [if_neg (by omega), if_neg (by omega), if_neg (by omega), deepL_closed 8 h1, Option.bind_some]
  simp only [h, Option.bind_some]
  simp
theorem adopt_v (x : Value) : adopt σ key (.v x) = some (.v x, σ) := rfl
theorem adopt_o {E sz n : Nat} {cs : List AV} (h : closedL cs = true) : adopt σ key (.o E sz n cs) = some (.w key 0 n, upd σ key (some (.row E sz n cs))) := by simp [adopt, adopt1, h]
theorem adopt_p {cs : List AV} (h : closedL cs = true) : adopt σ key (.p cs) = some (.p cs, σ) := by simp [adopt, adopt1, closed, h]
theorem adopt_a {cs : List AV} (h : closedL cs = true) : adopt σ key (.a cs) = some (.a cs, σ) := by simp [adopt, adopt1, closed, h]
theorem adopt_s {ex : Bool} {n : Nat} {cs : List AV} (h : closedL cs = true) : adopt σ key (.s ex n cs) = some (.s ex n cs, σ) := by simp [adopt, adopt1, closed, h]
theorem adopt1_closed {x : AV} (h : closed x = true) : adopt1 σ key x = some (x, σ) := by
  cases x
  case o => simp [closed] at h
  all_goals simp only [adopt1, h, if_true]
theorem adopt_t2 (x y : AV) {x' y' : AV} {σ1 σ2 : Sto} (h1 : adopt1 σ key x = some (x', σ1)) (h2 : adopt1 σ1 (key + 1) y = some (y', σ2)) : adopt σ key (.t [x, y]) = some (.t [x', y'], σ2) := by
  by_cases hc : closedL [x, y] = true
  · have hc' := hc
    simp only [closedL, Bool.and_eq_true, and_true] at hc'
    rw [adopt1_closed hc'.1] at h1
    obtain ⟨rfl, rfl⟩ := Prod.mk.inj (Option.some.inj h1)
    rw [adopt1_closed hc'.2] at h2
    obtain ⟨rfl, rfl⟩ := Prod.mk.inj (Option.some.inj h2)
    simp only [adopt]
    rw [if_pos hc]
  · simp only [adopt]
    rw [if_neg hc]
    simp [adoptL, h1, h2]
theorem adopt1_o {E sz n : Nat} {cs : List AV} (h : closedL cs = true) : adopt1 σ key (.o E sz n cs) = some (.w key 0 n, upd σ key (some (.row E sz n cs))) := by simp [adopt1, h]

theorem closedL_append (xs ys : List AV) : closedL (xs ++ ys) = (closedL xs && closedL ys) := by
  induction xs with
  | nil => rfl
  | cons x xs ih => simp only [List.cons_append, closedL, ih, Bool.and_assoc]
theorem closedL_take {xs : List AV} (h : closedL xs = true) (n : Nat) : closedL (xs.take n) = true := closedL_sub h fun j c hj => ⟨j, by
  rw [List.getElem?_take] at hj
  split at hj
  · exact hj
  · cases hj⟩
theorem closedL_drop {xs : List AV} (h : closedL xs = true) (n : Nat) : closedL (xs.drop n) = true := closedL_sub h fun j c hj => ⟨n + j, by rwa [List.getElem?_drop] at hj⟩

/-! ### append -/
/-- A slice that is full takes some more. -/
def appK (σ : Sto) (key : Nat) (E : Nat) (ei : TI) (x : AV) : Option (Nat × List AV) → Option (AV × Sto)
  | some (m, news) => if 0 < ei.sz ∧ news.length = m * ei.sz ∧ news.all leafOk = true then
      match x with
      | .s true n cs => if cs.length = n * ei.sz ∧ n + m ≤ maxLen ∧ (n + m) * ei.by_ ≤ 140737488355328 then (if m = 0 ∧ 0 < n then some (x, σ) else some (.w key 0 (n + m), upd σ key (some (.row E ei.sz (n + m) (cs ++ news))))) else none
      | .w id 0 n => match σ id with
        | some (.row E' sz' _ cs) => if E' = E ∧ sz' = ei.sz ∧ n * ei.sz ≤ cs.length ∧ n + m ≤ maxLen ∧ (n + m) * ei.by_ ≤ 140737488355328 ∧ key ≠ id then
            some (.w key 0 (n + m), upd (upd σ id none) key (some (.row E ei.sz (n + m) (cs.take (n * ei.sz) ++ news)))) else none
        | _ => none
      | _ => none
    else none
  | none => none
theorem evOp_append {t E a b : Nat} {c : List Value} {ei : TI} (h : I t = some ⟨.sl E, a, b, c⟩) (hE : I E = some ei) (x y : Operand) :
    evOp I C pf e σ key (.call { callee := .builtin .append, args := #[x, y], argTypes := #[t, t] }) = appK σ key E ei (val e x) (sliceCells σ ei.sz (val e y)) := by
  simp only [evOp, builtinOf, List.map_cons, List.map_nil]
  rw [show (#[t, t] : Array TypeId).getD 0 0 = t from rfl, if_pos rfl, h]
  simp only [hE]
  cases sliceCells σ ei.sz (val e y) with
  | none => rfl
  | some q =>
    obtain ⟨m, news⟩ := q
    simp only [appK]
    split
    · cases val e x <;> rfl
    · rfl
theorem appK_s {E : Nat} {ei : TI} {n m : Nat} {cs news : List AV} (h1 : 0 < ei.sz) (h2 : news.length = m * ei.sz) (h3 : news.all leafOk = true) (h4 : cs.length = n * ei.sz) (h5 : n + m ≤ maxLen) (h6 : (n + m) * ei.by_ ≤ 140737488355328) (h7 : m ≠ 0 ∨ n = 0) :
    appK σ key E ei (.s true n cs) (some (m, news)) = some (.w key 0 (n + m), upd σ key (some (.row E ei.sz (n + m) (cs ++ news)))) := by
  simp only [appK]
  rw [if_pos ⟨h1, h2, h3⟩, if_pos ⟨h4, h5, h6⟩, if_neg (by omega)]
theorem appK_w {E : Nat} {ei : TI} {id n n' m : Nat} {cs news : List AV} (hσ : σ id = some (.row E ei.sz n' cs)) (h1 : 0 < ei.sz) (h2 : news.length = m * ei.sz) (h3 : news.all leafOk = true) (h4 : n * ei.sz ≤ cs.length) (h5 : n + m ≤ maxLen) (h6 : (n + m) * ei.by_ ≤ 140737488355328) (h7 : key ≠ id) :
    appK σ key E ei (.w id 0 n) (some (m, news)) = some (.w key 0 (n + m), upd (upd σ id none) key (some (.row E ei.sz (n + m) (cs.take (n * ei.sz) ++ news)))) := by
  simp only [appK]
  rw [if_pos ⟨h1, h2, h3⟩]
  simp only [hσ]
  rw [if_pos ⟨trivial, trivial, h4, h5, h6, h7⟩]
theorem sc_s (sz : Nat) (ex : Bool) (n : Nat) (cs : List AV) : sliceCells σ sz (.s ex n cs) = some (n, cs) := rfl
theorem sc_w {sz id lo n : Nat} {s : Slot} (h : σ id = some s) (h2 : lo + n * sz ≤ s.cells.length) : sliceCells σ sz (.w id lo n) = some (n, (s.cells.drop lo).take (n * sz)) := by simp [sliceCells, h, h2]

/-! ### results -/
theorem evRes_cell (s : St) (c : Nat) (ty : TypeId) (rs : List ResultVar) : evRes I s (.cell c ty :: rs) = (I ty).bind fun i => (cellsAt s.σ (s.e c)).bind fun cs => (takeVal i cs).bind fun x => (evRes I s rs).map fun xs => x :: xs := rfl
theorem give1_w {id n N' E sz : Nat} {cs : List AV} (h : σ id = some (.row E sz N' cs)) (hn : n ≤ N') (hc : closedL cs = true) : give1 σ (.w id 0 n) = some (.o E sz n (tk n N' sz cs), [id], []) := by
  simp only [give1, h, if_pos hn, deepL_closed 8 hc, Option.map_some]
theorem giveAll_w {id n E sz : Nat} {cs : List AV} (h : σ id = some (.row E sz n cs)) (hc : closedL cs = true) : giveAll σ [.w id 0 n] = some (.o E sz n cs) := by
  simp [giveAll, giveL, give1_w h (Nat.le_refl _) hc, tk]
theorem giveAll_wc {id n E sz : Nat} {cs : List AV} {y : AV} (h : σ id = some (.row E sz n cs)) (hc : closedL cs = true) (hy : closed y = true) : giveAll σ [.w id 0 n, y] = some (.t [.o E sz n cs, y]) := by
  simp [giveAll, giveL, give1_w h (Nat.le_refl _) hc, give1_closed hy, tk]
end
end Go.Proofs.YtegbkihgnofkfaaGreatDoor.Ev

/-
The engine, part 29: functions without options; calls as equations.
-/
namespace Go.Proofs.YtegbkihgnofkfaaGreatDoor.Ev
section
set_option linter.unusedVariables false
set_option linter.unusedSimpArgs false
open Go Go.RowKit
set_option linter.unusedVariables false
set_option linter.unusedSimpArgs false
variable {I : Tab} {C : Sem1} {pf : FuncId → Nat} {m : Nat} {e : Nat → AV} {σ : Sto} {key : Nat}

theorem with_hi {L : List Nat} {n : Nat} (h : 1000000000 ≤ n) : withOpt L pf n = if n ∈ L then 1 else 0 := if_pos h
theorem look_opt {L : List Nat} (h : oStrict ∉ L) (h' : oMaskOn ∉ L ∧ oFlOn ∉ L) : lookAt (withOpt L pf) σ = σ := by
  have h1 : withOpt L pf oStrict = 0 := by rw [with_hi (by decide), if_neg h]
  have h2 : withOpt L pf oMaskOn = 0 := by rw [with_hi (by decide), if_neg h'.1]
  have h3 : withOpt L pf oFlOn = 0 := by rw [with_hi (by decide), if_neg h'.2]
  unfold lookAt
  rw [h1, h2, h3]
  rfl
theorem look_nil : lookAt (withOpt [] pf) σ = σ := look_opt (by simp) ⟨by simp, by simp⟩
theorem st_opt {L : List Nat} (h' : oMaskOn ∉ L ∧ oFlOn ∉ L) (t : Nat) (x : AV) : stOk (withOpt L pf) t x = true := by
  have h2 : withOpt L pf oMaskOn = 0 := by rw [with_hi (by decide), if_neg h'.1]
  have h3 : withOpt L pf oFlOn = 0 := by rw [with_hi (by decide), if_neg h'.2]
  unfold stOk
  rw [h2, h3]
  rfl
theorem st_nil (t : Nat) (x : AV) : stOk (withOpt [] pf) t x = true := st_opt ⟨by simp, by simp⟩ t x
theorem reg_opt {L : List Nat} {id : Nat} (h : oReg id ∉ L) (h' : oLow id ∉ L) (h3 : oFl id ∉ L) : inReg (withOpt L pf) id = withOpt L pf := by
  have h1 : withOpt L pf (oReg id) = 0 := by rw [with_hi (by unfold oReg; exact Nat.le_trans (by decide) (Nat.le_add_right 2000000000 id)), if_neg h]
  have h2 : withOpt L pf (oLow id) = 0 := by rw [with_hi (by unfold oLow; exact Nat.le_trans (by decide) (Nat.le_add_right 4000000000 id)), if_neg h']
  have h4 : withOpt L pf (oFl id) = 0 := by rw [with_hi (by unfold oFl; exact Nat.le_trans (by decide) (Nat.le_add_right 5100000000 id)), if_neg h3]
  unfold inReg
  rw [h1, h2, h4]
  rfl
theorem reg_nil (id : Nat) : inReg (withOpt [] pf) id = withOpt [] pf := reg_opt (by simp) (by simp) (by simp)
theorem base_opt {L : List Nat} (h' : oMaskOn ∉ L ∧ oFlOn ∉ L) (b : Nat) : atBase (withOpt L pf) b = withOpt L pf := by
  have h2 : withOpt L pf oMaskOn = 0 := by rw [with_hi (by decide), if_neg h'.1]
  have h3 : withOpt L pf oFlOn = 0 := by rw [with_hi (by decide), if_neg h'.2]
  unfold atBase
  rw [h2, h3]
  rfl
theorem base_nil (b : Nat) : atBase (withOpt [] pf) b = withOpt [] pf := base_opt ⟨by simp, by simp⟩ b
theorem box_nil (t : Nat) : withOpt [] pf (oBox t) = 0 := by
  rw [with_hi (by unfold oBox; exact Nat.le_trans (by decide) (Nat.le_add_right 1000000001 t))]
  rfl

/-- No function is called plainly. -/
def plF (L : List Nat) : Bool := L.all fun x => decide (x < 7000000000)
theorem withOpt_lo {L : List Nat} {f : Nat} (h : f < 1000000000) (hp : plF L = true) : withOpt L pf f = pf f := by
  unfold withOpt
  rw [if_neg (Nat.not_le.2 h), if_neg (fun hc => by
    have : 7000000000 + f < 7000000000 := of_decide_eq_true (List.all_eq_true.1 hp _ hc.1)
    omega)]
theorem plF_nil : plF [] = true := rfl
theorem plF_box (t : Nat) (ht : t < 900000000) : plF [oBox t] = true := by
  simp only [plF, List.all_cons, List.all_nil, Bool.and_true, decide_eq_true_eq, oBox]
  omega
theorem plF_br (t id : Nat) (ht : t < 900000000) (hi : id < 1000000000) : plF [oBox t, oReg id] = true := by
  simp only [plF, List.all_cons, List.all_nil, Bool.and_true, Bool.and_eq_true, decide_eq_true_eq, oBox, oReg]
  omega
theorem plF_lh (id t : Nat) (ht : t < 900000000) (hi : id < 1000000000) : plF [oLow id, oHi t] = true := by
  simp only [plF, List.all_cons, List.all_nil, Bool.and_true, Bool.and_eq_true, decide_eq_true_eq, oLow, oHi]
  omega
theorem withOpt_nil_lo {f : Nat} (h : f < 1000000000) : withOpt [] pf f = pf f := withOpt_lo h plF_nil
theorem withOpt_box_lo {f t : Nat} (h : f < 1000000000 ∧ t < 900000000) : withOpt [oBox t] pf f = pf f := withOpt_lo h.1 (plF_box t h.2)
theorem withOpt_br_lo {f t id : Nat} (h : f < 1000000000 ∧ t < 900000000 ∧ id < 1000000000) : withOpt [oBox t, oReg id] pf f = pf f := withOpt_lo h.1 (plF_br t id h.2.1 h.2.2)
theorem withOpt_lh_lo {f t id : Nat} (h : f < 1000000000 ∧ t < 900000000 ∧ id < 1000000000) : withOpt [oLow id, oHi t] pf f = pf f := withOpt_lo h.1 (plF_lh id t h.2.1 h.2.2)
/-! one function is called plainly -/
theorem withOpt_pl {f g : Nat} (h : f < 1000000000) (hne : decide (f = g) = false) : withOpt [oPl g] pf f = pf f := by
  simp only [decide_eq_false_iff_not] at hne
  unfold withOpt
  rw [if_neg (Nat.not_le.2 h), if_neg (fun hc => by
    have := hc.1
    simp only [List.mem_singleton, oPl] at this
    omega)]
theorem withOpt_pl_on {g : Nat} (h : g < 1000000000) (hp : pf g = 1) : withOpt [oPl g] pf g = 0 := by
  unfold withOpt
  rw [if_neg (Nat.not_le.2 h), if_pos ⟨by simp, hp⟩]
theorem on_pl (t : Nat) : oMaskOn ∉ [oPl t] ∧ oFlOn ∉ [oPl t] := by
  simp only [List.mem_singleton, oFlOn, oMaskOn, oPl]
  omega
theorem look_pl (t : Nat) : lookAt (withOpt [oPl t] pf) σ = σ := look_opt (by
  simp only [List.mem_singleton, oStrict, oPl]
  omega) (on_pl t)
theorem reg_pl (t id : Nat) (hi : id < 1000000000) : inReg (withOpt [oPl t] pf) id = withOpt [oPl t] pf := reg_opt (by
  simp only [List.mem_singleton, oReg, oPl]
  omega) (by
  simp only [List.mem_singleton, oLow, oPl]
  omega) (by
  simp only [List.mem_singleton, oFl, oPl]
  omega)
theorem base_pl (t : Nat) (b : Nat) : atBase (withOpt [oPl t] pf) b = withOpt [oPl t] pf := base_opt (on_pl t) b
theorem st_pl (t : Nat) (t' : Nat) (x : AV) : stOk (withOpt [oPl t] pf) t' x = true := st_opt (on_pl t) t' x
theorem bx_pl (g t : Nat) (ht : t < 900000000) (ls : List AV) : bxK (withOpt [oPl g] pf) σ key t ls = if ls.all leafOk = true then some (.r key 0, upd σ key (some (.ob t ls))) else none := bxK_r (by
  rw [with_hi (by unfold oBox; exact Nat.le_trans (by decide) (Nat.le_add_right 1000000001 t)), if_neg (by
    simp only [List.mem_singleton, oBox, oPl]
    omega)]) ls
theorem bxK_nil (t : Nat) (ls : List AV) : bxK (withOpt [] pf) σ key t ls = if ls.all leafOk = true then some (.r key 0, upd σ key (some (.ob t ls))) else none := bxK_r (box_nil t) ls
/-! one type's boxes never change -/
theorem on_box (t : Nat) (ht : t < 900000000) : oMaskOn ∉ [oBox t] ∧ oFlOn ∉ [oBox t] := by
  simp only [List.mem_singleton, oFlOn, oMaskOn, oBox]
  omega
theorem look_box (t : Nat) (ht : t < 900000000) : lookAt (withOpt [oBox t] pf) σ = σ := look_opt (by
  simp only [List.mem_singleton, oStrict, oBox]
  omega) (on_box t ht)
theorem reg_box (t id : Nat) (ht : t < 900000000) : inReg (withOpt [oBox t] pf) id = withOpt [oBox t] pf := reg_opt (by
  simp only [List.mem_singleton, oReg, oBox]
  omega) (by
  simp only [List.mem_singleton, oLow, oBox]
  omega) (by
  simp only [List.mem_singleton, oFl, oBox]
  omega)
theorem base_box (t : Nat) (ht : t < 900000000) (b : Nat) : atBase (withOpt [oBox t] pf) b = withOpt [oBox t] pf := base_opt (on_box t ht) b
theorem st_box (t : Nat) (ht : t < 900000000) (t' : Nat) (x : AV) : stOk (withOpt [oBox t] pf) t' x = true := st_opt (on_box t ht) t' x
theorem bx_box (t : Nat) (ls : List AV) : bxK (withOpt [oBox t] pf) σ key t ls = if ls.all leafOk = true then some (.p ls, σ) else none := bxK_p (by
  rw [with_hi (by unfold oBox; exact Nat.le_trans (by decide) (Nat.le_add_right 1000000001 t)), if_pos (by simp)]) ls

/-! one type's boxes never change, one region draws strictly -/
def strictP (L : List Nat) (pf : FuncId → Nat) : FuncId → Nat := fun f => if f = oStrict then 1 else withOpt L pf f
theorem strictP_lo {L : List Nat} {f : Nat} (h : f < 1000000000) (hp : plF L = true) : strictP L pf f = pf f := by
  unfold strictP
  rw [if_neg (fun e => by rw [e] at h; exact absurd (show (3000000000 : Nat) < 1000000000 from h) (by decide))]
  exact withOpt_lo h hp
theorem strictP_br_lo {f t id : Nat} (h : f < 1000000000 ∧ t < 900000000 ∧ id < 1000000000) : strictP [oBox t, oReg id] pf f = pf f := strictP_lo h.1 (plF_br t id h.2.1 h.2.2)
theorem look_strict (L : List Nat) : lookAt (strictP L pf) σ = fun _ => none := by
  unfold lookAt strictP
  rw [if_pos rfl, if_pos rfl]
theorem on_br (t id : Nat) (ht : t < 900000000) (hi : id < 1000000000) : oMaskOn ∉ [oBox t, oReg id] ∧ oFlOn ∉ [oBox t, oReg id] := by
  simp only [List.mem_cons, List.not_mem_nil, or_false, oFlOn, oMaskOn, oBox, oReg]
  omega
theorem look_br (t id : Nat) (ht : t < 900000000) (hi : id < 1000000000) : lookAt (withOpt [oBox t, oReg id] pf) σ = σ := look_opt (by
  simp only [List.mem_cons, List.not_mem_nil, or_false, oStrict, oBox, oReg]
  omega) (on_br t id ht hi)
theorem base_br (t id : Nat) (ht : t < 900000000) (hi : id < 1000000000) (b : Nat) : atBase (withOpt [oBox t, oReg id] pf) b = withOpt [oBox t, oReg id] pf := base_opt (on_br t id ht hi) b
theorem st_br (t id : Nat) (ht : t < 900000000) (hi : id < 1000000000) (t' : Nat) (x : AV) : stOk (withOpt [oBox t, oReg id] pf) t' x = true := st_opt (on_br t id ht hi) t' x
theorem strict_on (t id : Nat) (ht : t < 900000000) (hi : id < 1000000000) : strictP [oBox t, oReg id] pf oMaskOn = 0 := by
  unfold strictP
  rw [if_neg (by decide), with_hi (by decide), if_neg (on_br t id ht hi).1]
theorem strict_fl (t id : Nat) (ht : t < 900000000) (hi : id < 1000000000) : strictP [oBox t, oReg id] pf oFlOn = 0 := by
  unfold strictP
  rw [if_neg (by decide), with_hi (by decide), if_neg (on_br t id ht hi).2]
theorem base_strict (t id : Nat) (ht : t < 900000000) (hi : id < 1000000000) (b : Nat) : atBase (strictP [oBox t, oReg id] pf) b = strictP [oBox t, oReg id] pf := by
  unfold atBase
  rw [strict_on t id ht hi, strict_fl t id ht hi]
  rfl
theorem st_strict (t id : Nat) (ht : t < 900000000) (hi : id < 1000000000) (t' : Nat) (x : AV) : stOk (strictP [oBox t, oReg id] pf) t' x = true := by
  unfold stOk
  rw [strict_on t id ht hi, strict_fl t id ht hi]
  rfl
theorem reg_br_off (t id id' : Nat) (ht : t < 900000000) (hi : id < 1000000000) (hne : decide (id' = id) = false) : inReg (withOpt [oBox t, oReg id] pf) id' = withOpt [oBox t, oReg id] pf := reg_opt (by
  simp only [decide_eq_false_iff_not] at hne
  simp only [List.mem_cons, List.not_mem_nil, or_false, oBox, oReg]
  omega) (by
  simp only [List.mem_cons, List.not_mem_nil, or_false, oBox, oReg, oLow]
  omega) (by
  simp only [List.mem_cons, List.not_mem_nil, or_false, oBox, oReg, oFl]
  omega)
theorem reg_br_on (t id : Nat) : inReg (withOpt [oBox t, oReg id] pf) id = strictP [oBox t, oReg id] pf := by
  have h1 : withOpt [oBox t, oReg id] pf (oReg id) = 1 := by rw [with_hi (by unfold oReg; exact Nat.le_trans (by decide) (Nat.le_add_right 2000000000 id)), if_pos (by simp)]
  unfold inReg
  rw [if_pos h1]
  rfl
theorem bx_br (t id : Nat) (ls : List AV) : bxK (withOpt [oBox t, oReg id] pf) σ key t ls = if ls.all leafOk = true then some (.p ls, σ) else none := bxK_p (by
  rw [with_hi (by unfold oBox; exact Nat.le_trans (by decide) (Nat.le_add_right 1000000001 t)), if_pos (by simp)]) ls

/-! one region is parted, stores of one type go to what it made -/
def maskP (L : List Nat) (pf : FuncId → Nat) : FuncId → Nat := fun f => if f = oMaskOn then 1 else withOpt L pf f
def maskB (L : List Nat) (pf : FuncId → Nat) (b : Nat) : FuncId → Nat := fun f => if f = oMask then b else maskP L pf f
theorem on_lh (id t : Nat) (ht : t < 900000000) (hi : id < 1000000000) : oMaskOn ∉ [oLow id, oHi t] ∧ oFlOn ∉ [oLow id, oHi t] := by
  simp only [List.mem_cons, List.not_mem_nil, or_false, oFlOn, oMaskOn, oLow, oHi]
  omega
theorem look_lh (id t : Nat) (ht : t < 900000000) (hi : id < 1000000000) : lookAt (withOpt [oLow id, oHi t] pf) σ = σ := look_opt (by
  simp only [List.mem_cons, List.not_mem_nil, or_false, oStrict, oLow, oHi]
  omega) (on_lh id t ht hi)
theorem base_lh (id t : Nat) (ht : t < 900000000) (hi : id < 1000000000) (b : Nat) : atBase (withOpt [oLow id, oHi t] pf) b = withOpt [oLow id, oHi t] pf := base_opt (on_lh id t ht hi) b
theorem st_lh (id t : Nat) (ht : t < 900000000) (hi : id < 1000000000) (t' : Nat) (x : AV) : stOk (withOpt [oLow id, oHi t] pf) t' x = true := st_opt (on_lh id t ht hi) t' x
theorem reg_lh_off (id t id' : Nat) (ht : t < 900000000 ∧ id < 900000000) (hi : id' < 900000000) (hne : decide (id' = id) = false) : inReg (withOpt [oLow id, oHi t] pf) id' = withOpt [oLow id, oHi t] pf := reg_opt (by
  simp only [List.mem_cons, List.not_mem_nil, or_false, oReg, oLow, oHi]
  omega) (by
  simp only [decide_eq_false_iff_not] at hne
  simp only [List.mem_cons, List.not_mem_nil, or_false, oLow, oHi]
  omega) (by
  simp only [List.mem_cons, List.not_mem_nil, or_false, oFl, oLow, oHi]
  omega)
theorem reg_lh_on (id t : Nat) (hi : id < 1000000000) : inReg (withOpt [oLow id, oHi t] pf) id = maskP [oLow id, oHi t] pf := by
  have h1 : withOpt [oLow id, oHi t] pf (oReg id) = 0 := by
    rw [with_hi (by unfold oReg; exact Nat.le_trans (by decide) (Nat.le_add_right 2000000000 id)), if_neg (by
      simp only [List.mem_cons, List.not_mem_nil, or_false, oReg, oLow, oHi]
      omega)]
  have h2 : withOpt [oLow id, oHi t] pf (oLow id) = 1 := by
    rw [with_hi (by unfold oLow; exact Nat.le_trans (by decide) (Nat.le_add_right 4000000000 id)), if_pos (by simp)]
  unfold inReg
  rw [h1, h2]
  rfl
theorem base_mask (L : List Nat) (b : Nat) : atBase (maskP L pf) b = maskB L pf b := by
  unfold atBase
  rw [if_pos (.inl (by unfold maskP; exact if_pos rfl))]
  rfl
theorem maskB_on (L : List Nat) (b : Nat) : maskB L pf b oMaskOn = 1 := by
  unfold maskB maskP
  rw [if_neg (by decide), if_pos rfl]
theorem maskB_mask (L : List Nat) (b : Nat) : maskB L pf b oMask = b := if_pos rfl
theorem maskB_lo {L : List Nat} {b f : Nat} (h : f < 1000000000) (hp : plF L = true) : maskB L pf b f = pf f := by
  unfold maskB maskP
  rw [if_neg (fun e => by rw [e] at h; exact absurd (show (1000000000 : Nat) < 1000000000 from h) (by decide)), if_neg (fun e => by rw [e] at h; exact absurd (show (5000000000 : Nat) < 1000000000 from h) (by decide))]
  exact withOpt_lo h hp
theorem maskB_lh_lo {b f t id : Nat} (h : f < 1000000000 ∧ t < 900000000 ∧ id < 1000000000) : maskB [oLow id, oHi t] pf b f = pf f := maskB_lo h.1 (plF_lh id t h.2.1 h.2.2)
theorem look_mask (id t : Nat) (ht : t < 900000000) (hi : id < 1000000000) (b : Nat) : lookAt (maskB [oLow id, oHi t] pf b) σ = fun i => if i < b then σ i else none := by
  have h1 : maskB [oLow id, oHi t] pf b oStrict = 0 := by
    unfold maskB maskP
    rw [if_neg (by decide), if_neg (by decide), with_hi (by decide), if_neg (by
      simp only [List.mem_cons, List.not_mem_nil, or_false, oStrict, oLow, oHi]
      omega)]
  unfold lookAt
  rw [h1, maskB_on, maskB_mask]
  rfl
theorem st_mask (id t : Nat) (ht : t < 900000000) (hi : id < 1000000000) (b : Nat) (t' : Nat) (ht' : t' < 1000000000) (i o : Nat) : stOk (maskB [oLow id, oHi t] pf b) t' (.r i o) = if t' = t then decide (b ≤ i) else decide (i < b) := by
  unfold stOk
  rw [maskB_on, if_pos rfl, maskB_mask]
  have h1 : maskB [oLow id, oHi t] pf b (oHi t') = if t' = t then 1 else 0 := by
    unfold maskB maskP
    have q1 : ¬ (oHi t' = oMask) := fun h => by
      have h : (6000000000 + t' : Nat) = 1000000000 := h
      omega
    have q2 : ¬ (oHi t' = oMaskOn) := fun h => by
      have h : (6000000000 + t' : Nat) = 5000000000 := h
      omega
    rw [if_neg q1, if_neg q2, with_hi (by unfold oHi; exact Nat.le_trans (by decide) (Nat.le_add_right 6000000000 t'))]
    simp only [List.mem_cons, List.not_mem_nil, or_false, oLow, oHi]
    by_cases h : t' = t
    · rw [if_pos (by omega), if_pos h]
    · rw [if_neg (by omega), if_neg h]
  rw [h1]
  by_cases h : t' = t <;> simp [h]
theorem bxK_lh (id t : Nat) (ht : t < 900000000) (hi : id < 1000000000) (t' : Nat) (ht' : t' < 1000000000) (ls : List AV) : bxK (withOpt [oLow id, oHi t] pf) σ key t' ls = if ls.all leafOk = true then some (.r key 0, upd σ key (some (.ob t' ls))) else none := bxK_r (by
  rw [with_hi (by unfold oBox; exact Nat.le_trans (by decide) (Nat.le_add_right 1000000001 t')), if_neg (by
    simp only [List.mem_cons, List.not_mem_nil, or_false, oBox, oLow, oHi]
    omega)]) ls

theorem call1_eq {f : FuncId} {xs : List AV} (hp : pf f = 1) (h1 : closedL xs = true) : callOp C pf σ key f xs = (C f xs).bind (pureK σ) := by
  unfold callOp
  rw [if_pos hp, if_pos h1]
  rfl
theorem call0_eq {f : FuncId} {xs : List AV} (hp : pf f = 0) (h1 : closedL xs = true) : callOp C pf σ key f xs = (C f xs).bind (adopt σ key) := by
  unfold callOp
  rw [if_neg (by omega), if_neg (by omega), if_neg (by omega), deepL_closed 8 h1, Option.bind_some]
  simp
theorem pureK_closed {x : AV} (h : closed x = true) : pureK σ x = some (x, σ) := by simp [pureK, h]
/-- A call that lends. -/
def lend2 (σ : Sto) (key : Nat) (xs : List AV) (L : List Nat) (r : AV) : Option (AV × Sto) :=
  match r with
  | .t [x, .t outs] => (back (killL (frz0 σ (needs σ xs)) L) key xs outs).bind fun (σ1, k1) => if k1 + room x ≤ key + 4 then adopt σ1 k1 x else none
  | _ => none
def lend1 (C : Sem1) (σ : Sto) (key : Nat) (f : FuncId) (xs : List AV) (q : List AV × List Nat) : Option (AV × Sto) :=
  if q.2.Nodup then (C f q.1).bind (lend2 σ key xs q.2) else none
theorem call2_eq {f : FuncId} {xs : List AV} (hp : pf f = 2) : callOp C pf σ key f xs = (deepC (pack1 (frz0 σ (needs σ xs))) xs).bind (lend1 C σ key f xs) := by
  unfold callOp
  rw [if_neg (by omega), if_pos (.inl hp), if_neg (show ¬ pf f = 3 by omega)]
  rfl
/-- A call that makes one object. -/
theorem call_new_v {f : FuncId} {xs : List AV} {T n : Nat} {cs : List AV} (hp : pf f = 3) (h1 : closedL xs = true) (hr : C f xs = some (.o T 0 n cs)) (hc : closedL cs = true) : callOp C pf σ key f xs = some (.r key 0, upd σ key (some (.ob T cs))) := by
  unfold callOp
  rw [if_neg (by omega), if_pos (.inr hp), if_pos hp, if_pos h1, hr]
  simp only [Option.bind_some]
  rw [if_pos hc]
/-- What a function hands over that makes one object. -/
def newK (I : Tab) (rs : List ResultVar) : Ex × St → Option AV := fun (x, s) => match x with
  | .exit _ => none
  | _ => (evRes I s rs).bind fun xs => match xs with
    | [.r id 0] => match s.σ id with
      | some (.ob T cs) => if closedL cs then some (.o T 0 0 cs) else none
      | _ => none
    | _ => none
theorem evN_eq {fn : Func} {c : Code} {args : List AV} {r : AV} (h1 : args.length ≤ fn.ntmps) (h2 : closedL args = true) (h : (evC I C pf m c (St.init args)).bind (newK I fn.results.toList) = some r) : evN I C pf m fn c args = some r := by
  unfold evN
  rw [if_pos ⟨h1, h2⟩, ← h]
  congr 1
theorem newK_ret {rs : List ResultVar} {s : St} {id T : Nat} {cs : List AV} (h1 : evRes I s rs = some [.r id 0]) (h2 : s.σ id = some (.ob T cs)) (h3 : closedL cs = true) : newK I rs (.ret, s) = some (.o T 0 0 cs) := by
  simp only [newK, h1, Option.bind_some, h2, h3, if_true]
/-- A function run on arguments that never change. -/
theorem evF_eq {fn : Func} {c : Code} {args : List AV} {r : AV} (h1 : args.length ≤ fn.ntmps) (h2 : closedL args = true) (h : (evC I C pf m c (St.init args)).bind (resK I fn.results.toList) = some r) : evF I C pf m fn c args = some r := by
  rw [evF_run h1 h2]
  exact h
theorem bqT (b : Bool) : (b == true) = b := by cases b <;> rfl
theorem bqF (b : Bool) : (b == false) = !b := by cases b <;> rfl
theorem lt_pow {n : Nat} (h : n < 9223372036854775808) : n < 2 ^ 64 := Nat.lt_of_lt_of_le h (by decide)
theorem cast0 : ((0 : Nat) : Int) = 0 := rfl
theorem cast1 : ((1 : Nat) : Int) = 1 := rfl
theorem cast2 : ((2 : Nat) : Int) = 2 := rfl
theorem cast3 : ((3 : Nat) : Int) = 3 := rfl
/-! ### loops -/
def rdK (f : St → Option (Ex × St)) (n : Nat) : Ex × St → Option (Ex × St)
  | (.normal, s) => roundsE f n s
  | (.exit id, s) => some (.exit id, s)
  | (.ret, s) => some (.ret, s)
theorem rounds_rd (f : St → Option (Ex × St)) (n : Nat) (s : St) : roundsE f (n + 1) s = (f s).bind (rdK f n) := by
  simp only [roundsE]
  congr 1
  funext ⟨x, s1⟩
  cases x <;> rfl
theorem rdK_normal (f : St → Option (Ex × St)) (n : Nat) (s : St) : rdK f n (.normal, s) = roundsE f n s := rfl
theorem rdK_exit (f : St → Option (Ex × St)) (n id : Nat) (s : St) : rdK f n (.exit id, s) = some (.exit id, s) := rfl
theorem rdK_ret (f : St → Option (Ex × St)) (n : Nat) (s : St) : rdK f n (.ret, s) = some (.ret, s) := rfl
/-! ### code without what no evaluation looks at -/
def stripO (o : Oper) : Oper := ⟨o.dst, o.op, 0, "", #[], o.guard⟩
def stripL : List Oper → List Oper
  | [] => []
  | o :: os => stripO o :: stripL os
def strip : Code → Code
  | .region id ops d => .region id (List.toArray (stripL ops.toList)) d
  | .seq a b => .seq (strip a) (strip b)
  | .cond c a b => .cond c (strip a) (strip b)
  | .block id c => .block id (strip c)
  | .loop c => .loop (strip c)
  | c => c
theorem stripL_map : ∀ l, stripL l = l.map stripO
  | [] => rfl
  | o :: os => by simp only [stripL, List.map_cons, stripL_map os]
theorem strip_get (ops : Array Oper) (i : Nat) : (List.toArray (stripL ops.toList))[i]? = (ops[i]?).map stripO := by
  rw [stripL_map]
  simp
theorem wantedE_strip (ops : Array Oper) (e : Nat → AV) (o : Oper) : wantedE (List.toArray (stripL ops.toList)) e (stripO o) = wantedE ops e o := by
  unfold wantedE
  show (match o.guard with | none => _ | some (j, want) => _) = _
  cases o.guard with
  | none => rfl
  | some q =>
    obtain ⟨j, want⟩ := q
    simp only [strip_get]
    cases ops[j]? with
    | none => rfl
    | some x => rfl
theorem ev1_strip (ops : Array Oper) (base i : Nat) (s : St) : ev1 I C pf (List.toArray (stripL ops.toList)) base i s = ev1 I C pf ops base i s := by
  unfold ev1
  rw [strip_get]
  cases h : ops[i]? with
  | none => rfl
  | some o =>
    simp only [Option.map_some, wantedE_strip]
    rfl
theorem evL_strip (ops : Array Oper) (base : Nat) : ∀ (L : List Nat) (s : St), evL I C pf (List.toArray (stripL ops.toList)) base L s = evL I C pf ops base L s
  | [], s => rfl
  | i :: L, s => by
    simp only [evL, ev1_strip]
    congr 1
    funext s1
    exact evL_strip ops base L s1
theorem evC_strip (c : Code) : ∀ s, evC I C pf m (strip c) s = evC I C pf m c s := by
  induction c with
  | region id ops d =>
    intro s
    simp only [strip, evC, evL_strip]
    have : (List.toArray (stripL ops.toList)).size = ops.size := by simp [stripL_map]
    rw [this]
  | seq a b iha ihb =>
    intro s
    simp only [strip, evC, iha]
    congr 1
    funext ⟨x, s1⟩
    cases x <;> simp only [ihb]
  | cond c a b iha ihb =>
    intro s
    simp only [strip, evC]
    split <;> simp_all
  | block id c ih =>
    intro s
    simp only [strip, evC, ih]
  | loop c ih =>
    intro s
    simp only [strip, evC]
    have : evC I C pf m (strip c) = evC I C pf m c := funext ih
    rw [this]
  | _ => intro s; rfl
theorem strip_region (id : Nat) (os : List Oper) (d : Bool) : strip (.region id (List.toArray os) d) = .region id (List.toArray (stripL os)) d := rfl
theorem strip_seq (a b : Code) : strip (.seq a b) = .seq (strip a) (strip b) := rfl
theorem strip_cond (c : Operand) (a b : Code) : strip (.cond c a b) = .cond c (strip a) (strip b) := rfl
theorem strip_block (id : Nat) (c : Code) : strip (.block id c) = .block id (strip c) := rfl
theorem strip_loop (c : Code) : strip (.loop c) = .loop (strip c) := rfl
theorem strip_skip : strip .skip = .skip := rfl
theorem strip_exit (i : Nat) : strip (.exit i) = .exit i := rfl
theorem strip_label (i : Nat) : strip (.label i) = .label i := rfl
theorem strip_ret : strip .ret = .ret := rfl
theorem stripL_cons (d : Option Nat) (op : Op) (ty : TypeId) (ps : String) (af : Array Edge) (g : Option (Nat × Bool)) (os : List Oper) : stripL (⟨d, op, ty, ps, af, g⟩ :: os) = ⟨d, op, 0, "", #[], g⟩ :: stripL os := rfl
theorem stripL_nil : stripL [] = [] := rfl
theorem SA : (type_of% @strip_region) ∧ (type_of% @strip_seq) ∧ (type_of% @strip_cond) ∧ (type_of% @strip_block) ∧ (type_of% @strip_loop) ∧ (type_of% @strip_skip) ∧ (type_of% @strip_exit) ∧ (type_of% @strip_label) ∧ (type_of% @strip_ret) ∧ (type_of% @stripL_cons) ∧ (type_of% @stripL_nil) :=
  ⟨@strip_region, @strip_seq, @strip_cond, @strip_block, @strip_loop, @strip_skip, @strip_exit, @strip_label, @strip_ret, @stripL_cons, @stripL_nil⟩
/-- The loops' bodies of code, from the outside in. -/
def loops : Code → List Code
  | .seq a b => loops a ++ loops b
  | .cond _ a b => loops a ++ loops b
  | .block _ c => loops c
  | .loop c => c :: loops c
  | _ => []
end
end Go.Proofs.YtegbkihgnofkfaaGreatDoor.Ev
