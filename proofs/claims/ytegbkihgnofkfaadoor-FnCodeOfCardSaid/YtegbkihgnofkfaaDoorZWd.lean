/-
Texts Wd to Wd of the work.
-/
import Derived.Test.YtegbkihgnofkfaaDoorZWc
/-
Terms: the depth of what they give: the implementation's recursion.
-/
namespace Go.Proofs.YtegbkihgnofkfaaDoor.Ev
section
set_option linter.unusedVariables false
set_option linter.unusedSimpArgs false
open Go Go.RowKit
set_option linter.unusedVariables false
set_option linter.unusedSimpArgs false
/-- A call that is given a plain value and a row, and gives a plain value. -/
theorem call0_vw {C : Sem1} {pf' : FuncId → Nat} {σ : Sto} {key : Nat} {f : FuncId} {id n E sz N' : Nat} {cs : List AV} {y : AV} {r : Value} (hσ : σ id = some (.row E sz N' cs)) (hp : pf' f = 0) (hl : cs.length = n * sz) (hc : closedL cs = true) (hy : plain y = true) (hr : C f [y, .s false n cs] = some (.v r)) :
    callOp C pf' σ key f [y, .w id 0 n] = some (.v r, σ) := by
  unfold callOp
  rw [if_neg (by omega), if_neg (by omega), if_neg (by omega)]
  have h1 : deep σ 8 (.w id 0 n) = some (.s false n cs, [id]) := by
    rw [deep_w 7 hσ (by omega) hc, List.drop_zero, List.take_of_length_le (by omega)]
  have h0 : deep σ 8 y = some (y, []) := by
    cases y <;> first | rfl | simp [plain] at hy
  have h2 : deepC (deep σ 8) [y, .w id 0 n] = some ([y, .s false n cs], [id]) := by
    simp only [deepC, h0, h1, Option.bind_some, Option.map_some, List.append_nil, List.nil_append]
  rw [h2]
  simp only [Option.bind_some, hr]
  rw [if_pos (.inr rfl)]
  rfl
theorem n91 : ¬ ((91 : UInt8) = 123) := by decide
theorem n123 : ¬ ((123 : UInt8) = 91) := by decide
theorem with_ev (f : List UInt8 → Option Int) (k : List UInt8) (n : Int) : EE 87 [.m f, S k, N n] = some (.m (fset f k n)) := EE_hand rfl
theorem T_depth : TT 59 = some (Tryd.f59, bodyOf Tryd.f59) := by kernel_rfl
/-- A map of depths as a function of variables. -/
def Maps (f : List UInt8 → Option Int) (h : UInt8 → Int) : Prop := ∀ c, (f [c]).getD (-1) = h c
theorem maps_set {f : List UInt8 → Option Int} {h : UInt8 → Int} (hm : Maps f h) (v : UInt8) (n : Int) : Maps (fset f [v] n) (hset h v n) := by
  intro c
  unfold fset hset
  by_cases e : c = v
  · simp [e]
  · simp [e, hm c]
set_option maxHeartbeats 4000000 in
theorem depth_ev {a : AV} {t : T} (hp : IsP a t) : WF t → ∀ (f : List UInt8 → Option Int) (h : UInt8 → Int), Maps f h → (∀ c, Bd (h c)) → EE 59 [a, .m f] = some (N (dpt h t)) := by
  induction hp with
  | dig ex c =>
    intro hw f h hm hb
    have hl := loop_is (.dig ex c)
    have hd := digit_is (.dig ex c) hw
    refine EE_few 3 T_depth (by decide) (Nat.le_of_ble_eq_true rfl) rfl ?_
    rw [show opt 59 = [] from rfl]
    simp only [bodyOf, Tryd.f59, SA]
    simp only [hl, hd, isLoop, isDigT, dpt, TMA, RR, IA, PA, RA0, RA1, RA2, RA3, RA4, RA5, RA6, RA7, RA8, RA9, RA10, Nat.reduceAdd, Nat.reduceMul, Nat.reduceEqDiff, Nat.reduceLeDiff, Nat.reduceLT, Int.reduceToNat, Int.reduceLT, Int.reduceLE, Int.reduceEq, Int.reduceNeg, Int.reduceAdd, Int.reduceSub, Int.reduceMul, reduceIte]
  | var ex c =>
    intro hw f h hm hb
    have hl := loop_is (.var ex c)
    have hd := digit_is (.var ex c) hw
    have hc := hm c
    refine EE_few 3 T_depth (by decide) (Nat.le_of_ble_eq_true rfl) rfl ?_
    rw [show opt 59 = [] from rfl]
    simp only [bodyOf, Tryd.f59, SA]
    cases hf : f [c] with
    | none =>
      rw [hf] at hc
      have hc : h c = -1 := hc.symm
      simp only [hl, hd, hf, hc, isLoop, isDigT, dpt, Option.getD_none, Option.isSome_none, TMA, RR, IA, PA, RA0, RA1, RA2, RA3, RA4, RA5, RA6, RA7, RA8, RA9, RA10, Nat.reduceAdd, Nat.reduceMul, Nat.reduceEqDiff, Nat.reduceLeDiff, Nat.reduceLT, Int.reduceToNat, Int.reduceLT, Int.reduceLE, Int.reduceEq, Int.reduceNeg, Int.reduceAdd, Int.reduceSub, Int.reduceMul, reduceIte]
    | some n =>
      rw [hf] at hc
      have hc : h c = n := hc.symm
      simp only [hl, hd, hf, hc, isLoop, isDigT, dpt, Option.getD_some, Option.isSome_some, TMA, RR, IA, PA, RA0, RA1, RA2, RA3, RA4, RA5, RA6, RA7, RA8, RA9, RA10, Nat.reduceAdd, Nat.reduceMul, Nat.reduceEqDiff, Nat.reduceLeDiff, Nat.reduceLT, Int.reduceToNat, Int.reduceLT, Int.reduceLE, Int.reduceEq, Int.reduceNeg, Int.reduceAdd, Int.reduceSub, Int.reduceMul, reduceIte]
  | @one ex s a x hp ih =>
    intro hw f h hm hb
    have hl := loop_is (.one ex s hp)
    have hx := ih hw.2 f h hm hb
    have hs := signOne_ev s hw.1 (dpt h x) (dpt_bd x h hb)
    refine EE_few 3 T_depth (by decide) (Nat.le_of_ble_eq_true rfl) (by simp only [closedL, closed, hp.closed, Bool.and_self]) ?_
    rw [show opt 59 = [] from rfl]
    simp only [bodyOf, Tryd.f59, SA]
    simp only [hl, hx, hp.closed, rounds_rd, isLoop, dpt, TMA, RR, IA, PA, RA0, RA1, RA2, RA3, RA4, RA5, RA6, RA7, RA8, RA9, RA10, Nat.reduceAdd, Nat.reduceMul, Nat.reduceEqDiff, Nat.reduceLeDiff, Nat.reduceLT, Int.reduceToNat, Int.reduceLT, Int.reduceLE, Int.reduceEq, Int.reduceNeg, Int.reduceAdd, Int.reduceSub, Int.reduceMul, reduceIte]
    rw [app_s (by decide) rfl rfl rfl (by omega) (by omega) (.inr rfl)]
    simp only [rounds_rd, RR, IA, PA, RA0, RA1, RA2, RA3, RA4, RA5, RA6, RA7, RA8, RA9, RA10, Nat.reduceAdd, Nat.reduceMul, Nat.reduceEqDiff, Nat.reduceLeDiff, Nat.reduceLT, Int.reduceToNat, Int.reduceLT, Int.reduceLE, Int.reduceEq, Int.reduceNeg, Int.reduceAdd, Int.reduceSub, Int.reduceMul, reduceIte]
    rw [call0_vw (E := 3) (sz := 1) (N' := 1) (cs := [N (dpt h x)]) (by rfl) (by rfl) rfl rfl rfl (by exact hs)]
    simp only [RR, IA, PA, RA0, RA1, RA2, RA3, RA4, RA5, RA6, RA7, RA8, RA9, RA10, Nat.reduceAdd, Nat.reduceMul, Nat.reduceEqDiff, Nat.reduceLeDiff, Nat.reduceLT, Int.reduceToNat, Int.reduceLT, Int.reduceLE, Int.reduceEq, Int.reduceNeg, Int.reduceAdd, Int.reduceSub, Int.reduceMul, reduceIte]
  | @two ex s a b x y hp kp ihx ihy =>
    intro hw f h hm hb
    have hl := loop_is (.two ex s hp kp)
    have hx := ihx hw.2.1 f h hm hb
    have hy := ihy hw.2.2 f h hm hb
    have hs := signTwo_ev s hw.1 (dpt h x) (dpt h y)
    refine EE_few 3 T_depth (by decide) (Nat.le_of_ble_eq_true rfl) (by simp only [closedL, closed, hp.closed, kp.closed, Bool.and_self]) ?_
    rw [show opt 59 = [] from rfl]
    simp only [bodyOf, Tryd.f59, SA]
    simp only [hl, hx, hp.closed, kp.closed, rounds_rd, isLoop, dpt, TMA, RR, IA, PA, RA0, RA1, RA2, RA3, RA4, RA5, RA6, RA7, RA8, RA9, RA10, Nat.reduceAdd, Nat.reduceMul, Nat.reduceEqDiff, Nat.reduceLeDiff, Nat.reduceLT, Int.reduceToNat, Int.reduceLT, Int.reduceLE, Int.reduceEq, Int.reduceNeg, Int.reduceAdd, Int.reduceSub, Int.reduceMul, reduceIte]
    rw [app_s (by decide) rfl rfl rfl (by omega) (by omega) (.inr rfl)]
    simp only [hy, hp.closed, kp.closed, rounds_rd, RR, IA, PA, RA0, RA1, RA2, RA3, RA4, RA5, RA6, RA7, RA8, RA9, RA10, Nat.reduceAdd, Nat.reduceMul, Nat.reduceEqDiff, Nat.reduceLeDiff, Nat.reduceLT, Int.reduceToNat, Int.reduceLT, Int.reduceLE, Int.reduceEq, Int.reduceNeg, Int.reduceAdd, Int.reduceSub, Int.reduceMul, reduceIte]
    rw [app_w (by rfl) (by decide) rfl rfl rfl (by omega) (by omega) (by decide)]
    simp only [rounds_rd, RR, IA, PA, RA0, RA1, RA2, RA3, RA4, RA5, RA6, RA7, RA8, RA9, RA10, Nat.reduceAdd, Nat.reduceMul, Nat.reduceEqDiff, Nat.reduceLeDiff, Nat.reduceLT, Int.reduceToNat, Int.reduceLT, Int.reduceLE, Int.reduceEq, Int.reduceNeg, Int.reduceAdd, Int.reduceSub, Int.reduceMul, reduceIte]
    rw [call0_vw (E := 3) (sz := 1) (N' := 2) (cs := [N (dpt h x), N (dpt h y)]) (by rfl) (by rfl) rfl rfl rfl (by exact hs)]
    simp only [RR, IA, PA, RA0, RA1, RA2, RA3, RA4, RA5, RA6, RA7, RA8, RA9, RA10, Nat.reduceAdd, Nat.reduceMul, Nat.reduceEqDiff, Nat.reduceLeDiff, Nat.reduceLT, Int.reduceToNat, Int.reduceLT, Int.reduceLE, Int.reduceEq, Int.reduceNeg, Int.reduceAdd, Int.reduceSub, Int.reduceMul, reduceIte]
  | @loop ex s v a b x y hp kp ihx ihy =>
    intro hw f h hm hb
    have hl := loop_is (.loop ex s v hp kp)
    have hx := ihx hw.2.2.1 f h hm hb
    have hbx := dpt_bd x h hb
    refine EE_few 3 T_depth (by decide) (Nat.le_of_ble_eq_true rfl) (by simp only [closedL, closed, hp.closed, kp.closed, Bool.and_self]) ?_
    rw [show opt 59 = [] from rfl]
    simp only [bodyOf, Tryd.f59, SA]
    by_cases h1 : dpt h x < 1
    · simp only [hl, hx, h1, hp.closed, kp.closed, isLoop, dpt, TMA, RR, IA, PA, RA0, RA1, RA2, RA3, RA4, RA5, RA6, RA7, RA8, RA9, RA10, Nat.reduceAdd, Nat.reduceMul, Nat.reduceEqDiff, Nat.reduceLeDiff, Nat.reduceLT, Int.reduceToNat, Int.reduceLT, Int.reduceLE, Int.reduceEq, Int.reduceNeg, Int.reduceAdd, Int.reduceSub, Int.reduceMul, reduceIte]
    · obtain ⟨hb1, hb2⟩ := hbx
      have hbs : ∀ c, Bd (hset h v (dpt h x - 1) c) := hset_bd hb v ⟨by omega, by omega⟩
      have hy := ihy hw.2.2.2 _ _ (maps_set hm v (dpt h x - 1)) hbs
      obtain ⟨hy1, hy2⟩ := dpt_bd y _ hbs
      have hw1 : IntKind.i64.wrap (dpt h x - 1) = dpt h x - 1 := by rw [wrap64 (by omega) (by omega)]
      have hwi := with_ev f [v] (dpt h x - 1)
      simp only [dpt, h1, if_false]
      generalize dpt (hset h v (dpt h x - 1)) y = e at hy hy1 hy2 ⊢
      have hw2 : IntKind.i64.wrap (e + 1) = e + 1 := by rw [wrap64 (by omega) (by omega)]
      rcases hw.1 with rfl | rfl
      · by_cases c1 : 0 ≤ e
        · by_cases c2 : e ≤ 2
          · simp only [hl, hx, h1, hy, hw1, hw2, hwi, pureK_m, n91, n123, c1, c2, hp.closed, kp.closed, isLoop, sLoop, TMA, RR, IA, PA, RA0, RA1, RA2, RA3, RA4, RA5, RA6, RA7, RA8, RA9, RA10, Nat.reduceAdd, Nat.reduceMul, Nat.reduceEqDiff, Nat.reduceLeDiff, Nat.reduceLT, Int.reduceToNat, Int.reduceLT, Int.reduceLE, Int.reduceEq, Int.reduceNeg, Int.reduceAdd, Int.reduceSub, Int.reduceMul, reduceIte]
          · have c3 : ¬ e = 0 := by omega
            simp only [hl, hx, h1, hy, hw1, hw2, hwi, pureK_m, n91, n123, c1, c2, c3, hp.closed, kp.closed, isLoop, sLoop, TMA, RR, IA, PA, RA0, RA1, RA2, RA3, RA4, RA5, RA6, RA7, RA8, RA9, RA10, Nat.reduceAdd, Nat.reduceMul, Nat.reduceEqDiff, Nat.reduceLeDiff, Nat.reduceLT, Int.reduceToNat, Int.reduceLT, Int.reduceLE, Int.reduceEq, Int.reduceNeg, Int.reduceAdd, Int.reduceSub, Int.reduceMul, reduceIte]
        · have c3 : ¬ e = 0 := by omega
          simp only [hl, hx, h1, hy, hw1, hw2, hwi, pureK_m, n91, n123, c1, c3, hp.closed, kp.closed, isLoop, sLoop, TMA, RR, IA, PA, RA0, RA1, RA2, RA3, RA4, RA5, RA6, RA7, RA8, RA9, RA10, Nat.reduceAdd, Nat.reduceMul, Nat.reduceEqDiff, Nat.reduceLeDiff, Nat.reduceLT, Int.reduceToNat, Int.reduceLT, Int.reduceLE, Int.reduceEq, Int.reduceNeg, Int.reduceAdd, Int.reduceSub, Int.reduceMul, reduceIte]
      · by_cases c1 : e = 0
        · simp only [hl, hx, h1, hy, hw1, hw2, hwi, pureK_m, n91, n123, c1, hp.closed, kp.closed, isLoop, sLoop, TMA, RR, IA, PA, RA0, RA1, RA2, RA3, RA4, RA5, RA6, RA7, RA8, RA9, RA10, Nat.reduceAdd, Nat.reduceMul, Nat.reduceEqDiff, Nat.reduceLeDiff, Nat.reduceLT, Int.reduceToNat, Int.reduceLT, Int.reduceLE, Int.reduceEq, Int.reduceNeg, Int.reduceAdd, Int.reduceSub, Int.reduceMul, reduceIte]
        · simp only [hl, hx, h1, hy, hw1, hw2, hwi, pureK_m, n91, n123, c1, hp.closed, kp.closed, isLoop, sLoop, TMA, RR, IA, PA, RA0, RA1, RA2, RA3, RA4, RA5, RA6, RA7, RA8, RA9, RA10, Nat.reduceAdd, Nat.reduceMul, Nat.reduceEqDiff, Nat.reduceLeDiff, Nat.reduceLT, Int.reduceToNat, Int.reduceLT, Int.reduceLE, Int.reduceEq, Int.reduceNeg, Int.reduceAdd, Int.reduceSub, Int.reduceMul, reduceIte]
end
end Go.Proofs.YtegbkihgnofkfaaDoor.Ev
