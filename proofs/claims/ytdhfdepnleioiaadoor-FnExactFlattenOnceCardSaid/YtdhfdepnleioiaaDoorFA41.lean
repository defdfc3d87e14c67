/-
Printed by wip/tools/pp.py and pack.py: the printed walk of function 41 (spec_FlattenOnce): what it computes, and that a call of it in the model gives just that.
-/
import Derived.Test.YtdhfdepnleioiaaDoorFA0
import Derived.Test.YtdhfdepnleioiaaDoorFA50
import Derived.Test.YtdhfdepnleioiaaDoorFA55
namespace Go.Proofs.YtdhfdepnleioiaaDoor.PA
open Go.RowKit Go.Proofs.YtdhfdepnleioiaaDoorW.PrintWords Go.Proofs.YtdhfdepnleioiaaDoorW.PrintLast Go.Proofs.YtdhfdepnleioiaaDoorW.PrintMore
attribute [local go_sem] max2_int min2_int max_two min_two max_three min_three max_four min_four   -- for this text's walks alone
set_option linter.unusedVariables false
set_option linter.unusedSimpArgs false
/-! ### spec_FlattenOnce: function 41 -/
mutual
def spec_FlattenOnce.j0 : Nat → Int → Bool → Int → List (S57) → Option (ByteArray × Bool)
  | 0, _, _, _, _ => none
  | k + 1, x1, x22, x499000, x499001 => if x22 = true then (some ((⟨#[]⟩ : ByteArray), false)) else (spec_FlattenOnce.l0 k x1 x499001 (x499001.length : Int) 0 0 (([] : List (S57))))
def spec_FlattenOnce.l0 : Nat → Int → List (S57) → Int → Int → Int → List (S57) → Option (ByteArray × Bool)
  | 0, _, _, _, _, _, _ => none
  | k + 1, x1, x26, x27, x28, x503000, x503001 => if x28 < x27 then (if 0 ≤ x28 then (if x28 < (x26.length : Int) then (if x503001.length + ((rd_T57 x26 x28).f1).length < 4398046511104 then (spec_FlattenOnce.l0 k x1 x26 x27 (wrap64 (x28 + 1)) x503000 (x503001 ++ ((rd_T57 x26 x28).f1))) else (none)) else (none)) else (none)) else ((spec_l1Text.f k x503000 x503001 (wrap64 (x1 - 1))).bind fun t508 => (some (t508, true)))
end
def spec_FlattenOnce.f (k : Nat) (a0 : ByteArray) (a1 : Int) : Option (ByteArray × Bool) := (spec_l1Read.f k a0 a1).bind fun bt493 => (if bt493.2.2 = true then (spec_FlattenOnce.j0 k a1 (decide (a1 < 2)) bt493.1 bt493.2.1) else (spec_FlattenOnce.j0 k a1 true bt493.1 bt493.2.1))
theorem spec_FlattenOnce.mono_l : ∀ k, (∀ y0 y1 y2 y3, LeO (spec_FlattenOnce.j0 k y0 y1 y2 y3) (spec_FlattenOnce.j0 (k + 1) y0 y1 y2 y3)) ∧ (∀ y0 y1 y2 y3 y4 y5, LeO (spec_FlattenOnce.l0 k y0 y1 y2 y3 y4 y5) (spec_FlattenOnce.l0 (k + 1) y0 y1 y2 y3 y4 y5))
  | 0 => ⟨fun _ _ _ _ r h => by simp [spec_FlattenOnce.j0] at h, fun _ _ _ _ _ _ r h => by simp [spec_FlattenOnce.l0] at h⟩
  | k + 1 => by
    obtain ⟨ih0, ih1⟩ := spec_FlattenOnce.mono_l k
    refine ⟨?_, ?_⟩
    · intro y0 y1 y2 y3
      unfold spec_FlattenOnce.j0
      repeat' first
      | (with_reducible exact ih0 _ _ _ _)
      | (with_reducible exact ih1 _ _ _ _ _ _)
      | (with_reducible exact spec_l1Read.mono _ _ _)
      | (with_reducible exact spec_l1Text.mono _ _ _ _)
      | (with_reducible exact LeO.refl _)
      | (with_reducible exact LeO.none _)
      | (with_reducible refine LeO.ite ?_ ?_)
      | (with_reducible refine LeO.bind ?_ (fun _ => ?_))
      | exact ih0 _ _ _ _
      | exact ih1 _ _ _ _ _ _
      | exact spec_l1Read.mono _ _ _
      | exact spec_l1Text.mono _ _ _ _
      | exact LeO.none _
      | refine LeO.ite ?_ ?_
      | refine LeO.bind ?_ (fun _ => ?_)
    · intro y0 y1 y2 y3 y4 y5
      unfold spec_FlattenOnce.l0
      repeat' first
      | (with_reducible exact ih0 _ _ _ _)
      | (with_reducible exact ih1 _ _ _ _ _ _)
      | (with_reducible exact spec_l1Read.mono _ _ _)
      | (with_reducible exact spec_l1Text.mono _ _ _ _)
      | (with_reducible exact LeO.refl _)
      | (with_reducible exact LeO.none _)
      | (with_reducible refine LeO.ite ?_ ?_)
      | (with_reducible refine LeO.bind ?_ (fun _ => ?_))
      | exact ih0 _ _ _ _
      | exact ih1 _ _ _ _ _ _
      | exact spec_l1Read.mono _ _ _
      | exact spec_l1Text.mono _ _ _ _
      | exact LeO.none _
      | refine LeO.ite ?_ ?_
      | refine LeO.bind ?_ (fun _ => ?_)
theorem spec_FlattenOnce.mono : ∀ a0 a1 k, LeO (spec_FlattenOnce.f k a0 a1) (spec_FlattenOnce.f (k + 1) a0 a1) := by
  intro a0 a1 k
  obtain ⟨ih0, ih1⟩ := spec_FlattenOnce.mono_l k
  unfold spec_FlattenOnce.f
  repeat' first
      | (with_reducible exact ih0 _ _ _ _)
      | (with_reducible exact ih1 _ _ _ _ _ _)
      | (with_reducible exact spec_l1Read.mono _ _ _)
      | (with_reducible exact spec_l1Text.mono _ _ _ _)
      | (with_reducible exact LeO.refl _)
      | (with_reducible exact LeO.none _)
      | (with_reducible refine LeO.ite ?_ ?_)
      | (with_reducible refine LeO.bind ?_ (fun _ => ?_))
      | exact ih0 _ _ _ _
      | exact ih1 _ _ _ _ _ _
      | exact spec_l1Read.mono _ _ _
      | exact spec_l1Text.mono _ _ _ _
      | exact LeO.none _
      | refine LeO.ite ?_ ?_
      | refine LeO.bind ?_ (fun _ => ?_)
set_option maxHeartbeats 8000000 in
set_option maxRecDepth 100000 in
theorem spec_FlattenOnce.calls (k : Nat) (a0 : ByteArray) (a1 : Int) (r1 : ByteArray) (r2 : Bool) (w : World) (h : spec_FlattenOnce.f k a0 a1 = some (r1, r2)) :
    Calls Tryd.prog 41 #[.string a0, .int .i64 a1] w fun e w' => e = .returned (.tuple #[.string r1, .bool r2]) ∧ Below w.heap.size w w' := by
  have hu57 := Tryd.underlying57
  have HB := Aside0.mk (Below.refl w.heap.size w)
  have H : ((spec_l1Read.f k a0 a1).bind fun bt493 => (if bt493.2.2 = true then (spec_FlattenOnce.j0 k a1 (decide (a1 < 2)) bt493.1 bt493.2.1) else (spec_FlattenOnce.j0 k a1 true bt493.1 bt493.2.1))) = some (r1, r2) := h
  clear h
  replace H := Option.bind_eq_some_iff.mp H
  obtain ⟨⟨t493, t494, t497⟩, A30, H⟩ := H
  replace H : (if t497 = true then (spec_FlattenOnce.j0 k a1 (decide (a1 < 2)) t493 t494) else (spec_FlattenOnce.j0 k a1 true t493 t494)) = some (r1, r2) := H
  have A3 := Aside0.mk A30
  clear A30
  have HC4 := Aside0.mk H
  clear H
  go_enter Tryd.func41, Tryd.ntmps41
  go_upto_region 2 with (first | ((with_reducible refine gate_callee (f := 50) rfl ?_); refine goesL_ (some 14) rfl rfl Tryd.func50 (by kernel_rfl) rfl #[.string a0, .int .i64 a1] rfl (by (try simp only [List.map_toArray, List.map_cons, List.map_nil]); first | done | rfl | (simp only [List.length_drop, List.length_take]; rfl)) ?_; (with_reducible refine (spec_l1Read.calls k a0 a1 t493 t494 t497 _ A3.out).mono ?_); rintro e w5 ⟨v495, rfl, ho0, hb⟩; refine ⟨_, rfl, ?_⟩; have n0_ := Aside0.mk (Kd.N_lower (Kd.N_mono (ok' := fun k_ => True) (Kd.R_N (Kd.R_bound ho0)) (fun k_ hk_ => trivial)) (below_size (by repeat (first | (with_reducible first | exact HB.out | apply below_alloc | apply pw_below_drewN | apply below_drew1) | exact HB.out)))); have n1_ := Aside0.mk (below_step (by repeat (first | (with_reducible first | exact HB.out | apply below_alloc | apply pw_below_drewN | apply below_drew1) | exact HB.out)) hb); clear HB; have HO496 := n0_; have HB := n1_; clear n0_ n1_; (try clear hb); (try clear hb2); (try clear hk); (try clear hi); (try clear ho0)) | ((with_reducible refine gate_dst (N := 6) rfl ?_); refine box_event ?hg (N := 6) ?hd (cs := #[.int .i64 0, .slice none 0 0]) (t := 57) ?hr ?_; (case hd => rfl); (case hg => rfl); (case hr => first | (go_simp; done) | (go_simp; rfl)); intro gb498 hg w6 hbox hb; have n0_ := Aside0.mk (Kd.N_below (Kd.N_elderB (by (with_reducible repeat (first | apply Kd.N_alloc | apply Kd.N_drewN | apply Kd.N_drew)); exact HO496.out) gb498 (Nat.le_of_eq hg.symm)) hb); have n1_ := Aside0.mk (below_step (by repeat (first | (with_reducible first | exact HB.out | apply below_alloc | apply pw_below_drewN | apply below_drew1) | exact HB.out)) hb); have n2_ := Aside0.mk (hbox); have n3_ := Aside0.mk ((by rw [hg]; exact (below_size (by repeat (first | (with_reducible first | exact HB.out | apply below_alloc | apply pw_below_drewN | apply below_drew1) | exact HB.out))) : w.heap.size ≤ gb498)); have n4_ := Aside0.mk ((by rw [hg]; exact (below_size (by repeat (first | (with_reducible first | exact HB.out | apply below_alloc | apply pw_below_drewN | apply below_drew1) | exact HB.out))) : w.heap.size ≤ gb498)); clear HO496; clear HB; have HO496 := n0_; have HB := n1_; have BK498 := n2_; have GW498 := n3_; have GE498 := n4_; clear n0_ n1_ n2_ n3_ n4_; clear hb hbox hg; have hcz7_0 : w6.cell? ⟨gb498, 0, none⟩ = some (.int .i64 0) := (blk_cell BK498.out 0).trans rfl; have hcz7_1 : w6.cell? ⟨gb498, 1, none⟩ = some (.slice none 0 0) := (blk_cell BK498.out 1).trans rfl; have hfz7_0 := blk_frozen BK498.out 0; have hfz7_1 := blk_frozen BK498.out 1; obtain ⟨Ao8, co8, eo8⟩ := Kd.N_slice HO496.out; subst eo8))
  (try simp only [Act.put, List.setIfInBounds_toArray, List.set_cons_zero, List.set_cons_succ])
  go_cut [22] (fun v22 wc => ∃ (kq : Nat) (x22_3 : Bool), v22 = .bool x22_3 ∧ Aside0 (spec_FlattenOnce.j0 kq a1 x22_3 t493 t494 = some (r1, r2)) ∧ Aside0 (kq ≤ k) ∧ Aside0 (Kd.N k57 57 wc w.heap.size (fun k_ => k_ ≠ gb498) (.slice Ao8 t494.length co8) t494) ∧ Aside0 (wc.heap[gb498]? = some (.cells #[.int .i64 t493, (.slice Ao8 t494.length co8)] 57 (0, 0))) ∧ Aside0 (Below w.heap.size w wc))
  case first =>
    have H := HC4.out
    clear HC4
    by_cases c9 : t497 = true
    · subst c9
      have H1 : (spec_FlattenOnce.j0 k a1 (decide (a1 < 2)) t493 t494) = some (r1, r2) := by rw [if_pos rfl] at H; exact H
      clear H
      have H := H1
      clear H1
      have H' := Aside0.mk H
      clear H
      go_wp2
      go_meet
      case rel => exact ⟨_, (decide (a1 < 2)), (by first | rfl | (simp; done) | (simp [*]; done)), H', ⟨by first | omega | exact Nat.le_refl _⟩, ⟨by (with_reducible repeat (first | apply Kd.N_alloc | apply Kd.N_drewN | apply Kd.N_drew)); exact Kd.N_mono (Kd.N_far (p := ⟨gb498, 1, none⟩) (Kd.N_far (p := ⟨gb498, 0, none⟩) (Kd.N_mono HO496.out (fun k_ hk => (⟨hk, hk.2⟩ : _ ∧ k_ ≠ gb498))) (fun _ hk => hk.2) (.int .i64 t493)) (fun _ hk => hk.2) (.slice Ao8 t494.length co8)) (fun _ hk => hk.1.2)⟩, ⟨by (with_reducible repeat (first | refine blk_drewN ?_ _ | refine blk_drew ?_ | refine blk_alloc ?_ _)); refine blk_put (cs := #[.int .i64 t493, .slice none 0 0]) ?_ 1 _ rfl; (with_reducible repeat (first | refine blk_drewN ?_ _ | refine blk_drew ?_ | refine blk_alloc ?_ _)); refine blk_put (cs := #[.int .i64 0, .slice none 0 0]) ?_ 0 _ rfl; (with_reducible repeat (first | refine blk_drewN ?_ _ | refine blk_drew ?_ | refine blk_alloc ?_ _)); exact BK498.out⟩, ⟨by repeat (first | (with_reducible first | exact HB.out | apply below_alloc | apply pw_below_drewN | apply below_drew1 | refine below_set ?_ GE498.out) | exact HB.out)⟩⟩
    · replace c9 := Bool.eq_false_iff.mpr c9
      subst c9
      have H1 : (spec_FlattenOnce.j0 k a1 true t493 t494) = some (r1, r2) := by rw [if_neg (show ¬ (false = true) by decide)] at H; exact H
      clear H
      have H := H1
      clear H1
      have H' := Aside0.mk H
      clear H
      go_wp2
      go_meet
      case rel => exact ⟨_, (true), (by first | rfl | (simp; done) | (simp [*]; done)), H', ⟨by first | omega | exact Nat.le_refl _⟩, ⟨by (with_reducible repeat (first | apply Kd.N_alloc | apply Kd.N_drewN | apply Kd.N_drew)); exact Kd.N_mono (Kd.N_far (p := ⟨gb498, 1, none⟩) (Kd.N_far (p := ⟨gb498, 0, none⟩) (Kd.N_mono HO496.out (fun k_ hk => (⟨hk, hk.2⟩ : _ ∧ k_ ≠ gb498))) (fun _ hk => hk.2) (.int .i64 t493)) (fun _ hk => hk.2) (.slice Ao8 t494.length co8)) (fun _ hk => hk.1.2)⟩, ⟨by (with_reducible repeat (first | refine blk_drewN ?_ _ | refine blk_drew ?_ | refine blk_alloc ?_ _)); refine blk_put (cs := #[.int .i64 t493, .slice none 0 0]) ?_ 1 _ rfl; (with_reducible repeat (first | refine blk_drewN ?_ _ | refine blk_drew ?_ | refine blk_alloc ?_ _)); refine blk_put (cs := #[.int .i64 0, .slice none 0 0]) ?_ 0 _ rfl; (with_reducible repeat (first | refine blk_drewN ?_ _ | refine blk_drew ?_ | refine blk_alloc ?_ _)); exact BK498.out⟩, ⟨by repeat (first | (with_reducible first | exact HB.out | apply below_alloc | apply pw_below_drewN | apply below_drew1 | refine below_set ?_ GE498.out) | exact HB.out)⟩⟩
  case rest =>
    clear HC4
    try clear p2
    try clear c4
    try clear c5
    try clear c9
    try clear hcz7_0
    try clear hcz7_1
    try clear hfz7_0
    try clear hfz7_1
    obtain ⟨kq, x22_3, rfl, HA, HJ3, HO_499001, BK498, HB⟩ := hcut
    cases kq with
    | zero => exact absurd HA.out (by simp [spec_FlattenOnce.j0])
    | succ kj3 =>
      have H := HA.out
      clear HA
      simp only [spec_FlattenOnce.j0] at H
      by_cases c10 : x22_3 = true
      · subst c10
        have H1 : (some ((⟨#[]⟩ : ByteArray), false)) = some (r1, r2) := by rw [if_pos rfl] at H; exact H
        clear H
        have H := H1
        clear H1
        simp only [Option.some.injEq, Prod.mk.injEq] at H
        obtain ⟨rfl, rfl⟩ := H
        go_wp2
        go_ret2
        exact ⟨by first | rfl | (simp [errW_none, errW_some] <;> rfl) | (simp [*, errW_none, errW_some] <;> rfl), by repeat (first | (with_reducible first | exact HB.out | apply below_alloc | apply pw_below_drewN | apply below_drew1 | refine below_set ?_ GE498.out) | exact HB.out)⟩
      · replace c10 := Bool.eq_false_iff.mpr c10
        subst c10
        have H1 : (spec_FlattenOnce.l0 kj3 a1 t494 (t494.length : Int) 0 0 (([] : List (S57)))) = some (r1, r2) := by rw [if_neg (show ¬ (false = true) by decide)] at H; exact H
        clear H
        have H := H1
        clear H1
        obtain ⟨y499, hy499⟩ : ∃ y_ : List (S57), y_ = (([] : List (S57))) := ⟨_, rfl⟩
        replace H : (spec_FlattenOnce.l0 kj3 a1 t494 (t494.length : Int) 0 0 y499) = some (r1, r2) := by first | (rw [hy499]; with_reducible exact H) | (have H2_ := (Option.bind_some _ _).symm.trans H; rw [hy499]; with_reducible exact H2_) | (have H2_ := (Option.bind_some _ _).symm.trans H; with_reducible exact H2_) | with_reducible exact H | (rw [hy499]; exact H) | exact H
        have Ny499 := Aside0.mk hy499
        clear hy499
        have H' := Aside0.mk H
        clear H
        go_wp2_with (first | ((with_reducible refine gate_dst (N := 23) rfl ?_); refine Kd.N_lit k57 _ 57 ?hg (N' := 23) ?hd (xs := ([] : List (S57))) (inner := []) (ok := (fun k_ => some k_ ≠ (.slice Ao8 t494.length co8 : Value).ownBlock ∧ k_ ≠ gb498)) (okp := (fun k_ => some k_ ≠ (.slice Ao8 t494.length co8 : Value).ownBlock ∧ k_ ≠ gb498)) ?hr ?hp (fun _ hk => hk) ((show ∀ k_, wc.heap.size ≤ k_ → (fun k_ => some k_ ≠ (.slice Ao8 t494.length co8 : Value).ownBlock ∧ k_ ≠ gb498) k_ from fun k_ hk => ⟨Kd.fresh' (Kd.N_lt (by (with_reducible repeat (first | apply Kd.N_alloc | apply Kd.N_drewN | apply Kd.N_drew)); exact HO_499001.out)) k_ hk, Kd.freshB (g := gb498) (o := .cells #[.int .i64 t493, .slice Ao8 t494.length co8] 57 (0, 0)) (by (with_reducible repeat (first | refine blk_drewN ?_ _ | refine blk_drew ?_ | refine blk_alloc ?_ _)); exact BK498.out) k_ hk⟩) _ (Nat.le_refl _)) (Below.refl _ _) (Nat.le_refl _) (by simp) ?_; (case hd => rfl); (case hg => rfl); (case hr => first | (go_simp; done) | (go_simp; rfl)); (case hp => exact (Reps.none _ _)); intro v500 w11 ho12 hb hg_ hnew_; clear hg_ hnew_; (first | rw [← Ny499.out] at ho12 | (simp only [Int.reduceToNat] at ho12; rw [← Ny499.out] at ho12)); have n0_ := Aside0.mk (Kd.N_elder' (by (with_reducible repeat (first | apply Kd.N_alloc | apply Kd.N_drewN | apply Kd.N_drew)); exact HO_499001.out) (by first | exact Kd.N_base ho12 | exact Kd.R_base ho12) hb); have n1_ := Aside0.mk (Kd.N_lower ho12 (below_size (by repeat (first | (with_reducible first | exact HB.out | apply below_alloc | apply pw_below_drewN | apply below_drew1 | refine below_set ?_ GE498.out) | exact HB.out)))); have n2_ := Aside0.mk (blk_below (g := gb498) (o := .cells #[.int .i64 t493, .slice Ao8 t494.length co8] 57 (0, 0)) (by (with_reducible repeat (first | refine blk_drewN ?_ _ | refine blk_drew ?_ | refine blk_alloc ?_ _)); exact BK498.out) hb); have n3_ := Aside0.mk (below_step (by repeat (first | (with_reducible first | exact HB.out | apply below_alloc | apply pw_below_drewN | apply below_drew1 | refine below_set ?_ GE498.out) | exact HB.out)) hb); clear HO_499001; clear BK498; clear HB; have HO_499001 := n0_; have HO501 := n1_; have BK498 := n2_; have HB := n3_; clear n0_ n1_ n2_ n3_; clear hb ho12; obtain ⟨Ao13, co13, eo13⟩ := Kd.N_slice HO501.out; subst eo13) | ((with_reducible refine gate_dst (N := 8) rfl ?_); refine box_event ?hg (N := 8) ?hd (cs := #[.int .i64 0, .slice none 0 0]) (t := 57) ?hr ?_; (case hd => rfl); (case hg => rfl); (case hr => first | (go_simp; done) | (go_simp; rfl)); intro gb502 hg w14 hbox hb; have n0_ := Aside0.mk (Kd.N_below (Kd.N_elderB (by (with_reducible repeat (first | apply Kd.N_alloc | apply Kd.N_drewN | apply Kd.N_drew)); exact HO_499001.out) gb502 (Nat.le_of_eq hg.symm)) hb); have n1_ := Aside0.mk (Kd.N_below (Kd.N_elderB (by (with_reducible repeat (first | apply Kd.N_alloc | apply Kd.N_drewN | apply Kd.N_drew)); exact HO501.out) gb502 (Nat.le_of_eq hg.symm)) hb); have n2_ := Aside0.mk (blk_below (g := gb498) (o := .cells #[.int .i64 t493, .slice Ao8 t494.length co8] 57 (0, 0)) (by (with_reducible repeat (first | refine blk_drewN ?_ _ | refine blk_drew ?_ | refine blk_alloc ?_ _)); exact BK498.out) hb); have n3_ := Aside0.mk (below_step (by repeat (first | (with_reducible first | exact HB.out | apply below_alloc | apply pw_below_drewN | apply below_drew1 | refine below_set ?_ GE498.out) | exact HB.out)) hb); have n4_ := Aside0.mk (hbox); have n5_ := Aside0.mk ((by rw [hg]; exact (below_size (by repeat (first | (with_reducible first | exact HB.out | apply below_alloc | apply pw_below_drewN | apply below_drew1 | refine below_set ?_ GE498.out) | exact HB.out))) : w.heap.size ≤ gb502)); have n6_ := Aside0.mk ((by rw [hg]; exact (below_size (by repeat (first | (with_reducible first | exact HB.out | apply below_alloc | apply pw_below_drewN | apply below_drew1 | refine below_set ?_ GE498.out) | exact HB.out))) : w.heap.size ≤ gb502)); have n7_ := Aside0.mk ((by rw [hg]; exact Nat.ne_of_lt (blk_lt (g := gb498) (o := .cells #[.int .i64 t493, .slice Ao8 t494.length co8] 57 (0, 0)) (by (with_reducible repeat (first | refine blk_drewN ?_ _ | refine blk_drew ?_ | refine blk_alloc ?_ _)); exact BK498.out)) : gb498 ≠ gb502)); have n8_ := Aside0.mk ((by rw [hg]; exact Nat.ne_of_gt (blk_lt (g := gb498) (o := .cells #[.int .i64 t493, .slice Ao8 t494.length co8] 57 (0, 0)) (by (with_reducible repeat (first | refine blk_drewN ?_ _ | refine blk_drew ?_ | refine blk_alloc ?_ _)); exact BK498.out)) : gb502 ≠ gb498)); clear HO_499001; clear HO501; clear BK498; clear HB; have HO_499001 := n0_; have HO501 := n1_; have BK498 := n2_; have HB := n3_; have BK502 := n4_; have GW502 := n5_; have GE502 := n6_; have NB498_502 := n7_; have NB502_498 := n8_; clear n0_ n1_ n2_ n3_ n4_ n5_ n6_ n7_ n8_; clear hb hbox hg; have hnb15 := NB502_498.out; have hnc15 := NB498_502.out; have hcz16_0 : w14.cell? ⟨gb502, 0, none⟩ = some (.int .i64 0) := (blk_cell BK502.out 0).trans rfl; have hcz16_1 : w14.cell? ⟨gb502, 1, none⟩ = some (.slice none 0 0) := (blk_cell BK502.out 1).trans rfl; have hfz16_0 := blk_frozen BK502.out 0; have hfz16_1 := blk_frozen BK502.out 1; have hcz17_0 : w14.cell? ⟨gb498, 0, none⟩ = some (.int .i64 t493) := (blk_cell BK498.out 0).trans rfl; have hcz17_1 : w14.cell? ⟨gb498, 1, none⟩ = some (.slice Ao8 t494.length co8) := (blk_cell BK498.out 1).trans rfl; have hfz17_0 := blk_frozen BK498.out 0; have hfz17_1 := blk_frozen BK498.out 1))
        go_loopg [28] kj3 (fun kq v28 w' => ∃ (x28_2 : Int) (x503001_2 : List (S57)) (u503001 : Value), v28 = .int .i64 x28_2 ∧ Aside0 (spec_FlattenOnce.l0 kq a1 t494 (t494.length : Int) x28_2 0 x503001_2 = some (r1, r2)) ∧ Aside0 (kq ≤ kj3) ∧ Aside0 (Kd.N k57 57 w' w.heap.size (fun k_ => some k_ ≠ (u503001 : Value).ownBlock ∧ k_ ≠ gb498 ∧ k_ ≠ gb502) (.slice Ao8 t494.length co8) t494) ∧ Aside0 (Kd.N k57 57 w' w.heap.size (fun k_ => some k_ ≠ (u503001 : Value).ownBlock ∧ k_ ≠ gb498 ∧ k_ ≠ gb502) (.slice Ao8 t494.length co8) t494) ∧ Aside0 (Kd.N k57 57 w' w.heap.size (fun k_ => some k_ ≠ ((.slice Ao8 t494.length co8) : Value).ownBlock ∧ k_ ≠ gb498 ∧ k_ ≠ gb502) u503001 x503001_2) ∧ Aside0 (w'.heap[gb498]? = some (.cells #[.int .i64 t493, (.slice Ao8 t494.length co8)] 57 (0, 0))) ∧ Aside0 (w'.heap[gb502]? = some (.cells #[.int .i64 0, u503001] 57 (0, 0))) ∧ Aside0 (Below w.heap.size w w'))
        case atStart => exact ⟨(0), (y499), (.slice Ao13 y499.length co13), (by first | rfl | (simp; done) | (simp [*]; done)), H', ⟨Nat.le_refl _⟩, ⟨by (with_reducible repeat (first | apply Kd.N_alloc | apply Kd.N_drewN | apply Kd.N_drew)); exact Kd.N_mono (Kd.N_far (p := ⟨gb502, 1, none⟩) (Kd.N_far (p := ⟨gb502, 0, none⟩) (Kd.N_mono HO_499001.out (fun k_ hk => (⟨hk, hk.2⟩ : _ ∧ k_ ≠ gb502))) (fun _ hk => hk.2) (.int .i64 0)) (fun _ hk => hk.2) (.slice Ao13 y499.length co13)) (fun _ hk => ⟨hk.1.1.2, ⟨hk.1.1.1, hk.1.2⟩⟩)⟩, ⟨by (with_reducible repeat (first | apply Kd.N_alloc | apply Kd.N_drewN | apply Kd.N_drew)); exact Kd.N_mono (Kd.N_far (p := ⟨gb502, 1, none⟩) (Kd.N_far (p := ⟨gb502, 0, none⟩) (Kd.N_mono HO_499001.out (fun k_ hk => (⟨hk, hk.2⟩ : _ ∧ k_ ≠ gb502))) (fun _ hk => hk.2) (.int .i64 0)) (fun _ hk => hk.2) (.slice Ao13 y499.length co13)) (fun _ hk => ⟨hk.1.1.2, ⟨hk.1.1.1, hk.1.2⟩⟩)⟩, ⟨by (with_reducible repeat (first | apply Kd.N_alloc | apply Kd.N_drewN | apply Kd.N_drew)); exact Kd.N_mono (Kd.N_far (p := ⟨gb502, 1, none⟩) (Kd.N_far (p := ⟨gb502, 0, none⟩) (Kd.N_mono HO501.out (fun k_ hk => (⟨hk, hk.2⟩ : _ ∧ k_ ≠ gb502))) (fun _ hk => hk.2) (.int .i64 0)) (fun _ hk => hk.2) (.slice Ao13 y499.length co13)) (fun _ hk => ⟨hk.1.1.1, ⟨hk.1.1.2, hk.1.2⟩⟩)⟩, ⟨by (with_reducible repeat (first | refine blk_drewN ?_ _ | refine blk_drew ?_ | refine blk_alloc ?_ _)); refine blk_far ?_ NB498_502.out _; (with_reducible repeat (first | refine blk_drewN ?_ _ | refine blk_drew ?_ | refine blk_alloc ?_ _)); refine blk_far ?_ NB498_502.out _; (with_reducible repeat (first | refine blk_drewN ?_ _ | refine blk_drew ?_ | refine blk_alloc ?_ _)); exact BK498.out⟩, ⟨by (with_reducible repeat (first | refine blk_drewN ?_ _ | refine blk_drew ?_ | refine blk_alloc ?_ _)); refine blk_put (cs := #[.int .i64 0, .slice none 0 0]) ?_ 1 _ rfl; (with_reducible repeat (first | refine blk_drewN ?_ _ | refine blk_drew ?_ | refine blk_alloc ?_ _)); refine blk_put (cs := #[.int .i64 0, .slice none 0 0]) ?_ 0 _ rfl; (with_reducible repeat (first | refine blk_drewN ?_ _ | refine blk_drew ?_ | refine blk_alloc ?_ _)); exact BK502.out⟩, ⟨by repeat (first | (with_reducible first | exact HB.out | apply below_alloc | apply pw_below_drewN | apply below_drew1 | refine below_set ?_ GE498.out | refine below_set ?_ GE502.out) | exact HB.out)⟩⟩
        case round =>
          clear H'
          try clear c1
          try clear p2
          try clear c4
          try clear c5
          try clear c9
          try clear c10
          try clear c15
          try clear hcz16_0
          try clear hcz16_1
          try clear hcz17_0
          try clear hcz17_1
          try clear hcz7_0
          try clear hcz7_1
          try clear hfz16_0
          try clear hfz16_1
          try clear hfz17_0
          try clear hfz17_1
          try clear hfz7_0
          try clear hfz7_1
          try clear p2
          obtain ⟨x28_2, x503001_2, u503001, rfl, HA, HK2, HO_26, HO_499001, HO_503001, BK498, BK502, HB⟩ := hrel
          cases gk with
          | zero => exact absurd HA.out (by simp [spec_FlattenOnce.l0])
          | succ k2 =>
            have H := HA.out
            clear HA
            simp only [spec_FlattenOnce.l0] at H
            by_cases c18 : x28_2 < (t494.length : Int)
            · rw [if_pos c18] at H
              have c18b0 : decide (x28_2 < (t494.length : Int)) = true := decide_eq_true c18
              clear c18
              by_cases c19 : 0 ≤ x28_2
              · rw [if_pos c19] at H
                have c19b0 : decide (0 ≤ x28_2) = true := decide_eq_true c19
                clear c19
                by_cases c20 : x28_2 < (t494.length : Int)
                · rw [if_pos c20] at H
                  have c20b0 : decide (x28_2 < (t494.length : Int)) = true := decide_eq_true c20
                  clear c20
                  by_cases c21 : x503001_2.length + ((rd_T57 t494 x28_2).f1).length < 4398046511104
                  · rw [if_pos c21] at H
                    have LMc21 := Aside0.mk c21
                    clear c21
                    obtain ⟨y505, hy505⟩ : ∃ y_ : List (S57), y_ = (x503001_2 ++ ((rd_T57 t494 x28_2).f1)) := ⟨_, rfl⟩
                    replace H : (spec_FlattenOnce.l0 k2 a1 t494 (t494.length : Int) (wrap64 (x28_2 + 1)) 0 y505) = some (r1, r2) := by first | (rw [hy505]; with_reducible exact H) | (have H2_ := (Option.bind_some _ _).symm.trans H; rw [hy505]; with_reducible exact H2_) | (have H2_ := (Option.bind_some _ _).symm.trans H; with_reducible exact H2_) | with_reducible exact H | (rw [hy505]; exact H) | exact H
                    have Ny505 := Aside0.mk hy505
                    clear hy505
                    have H' := Aside0.mk H
                    clear H
                    have p503 : 0 ≤ (x28_2 : Int) := of_decide_eq_true (by first | (with_reducible assumption) | assumption)
                    have q503 : x28_2 < (t494.length : Int) := of_decide_eq_true (by first | (with_reducible assumption) | assumption)
                    obtain ⟨ad503, A503_1, c503_1, e503, hx503_0, hx503_1, hl503_1, hi503_1⟩ := at_T57 (Kd.N_reads' HO_26.out).2.2 x28_2 p503 q503
                    cases e503
                    obtain ⟨ce503, hce503, hMe503, hcc503⟩ := Kd.N_get HO_26.out z57 x28_2 p503 (by first | exact q503 | exact of_decide_eq_true (by first | (with_reducible assumption) | assumption) | (have e_ := (Kd.N_reads' HO_26.out).1; omega))
                    obtain ⟨ua503_1, uc503_1, rfl, ul503_1, ge503_1⟩ := k57_openF hMe503
                    have hv503_1 := hcc503 1 _ rfl
                    rw [add_field _ _ 1 (by omega)] at hv503_1
                    replace hv503_1 := Option.some.inj (hv503_1.symm.trans hx503_1)
                    injection hv503_1 with hva_ hvn_ hvc_
                    rw [hva_] at ge503_1
                    rw [hvc_] at ul503_1
                    have HL503_1 := Aside0.mk (show Kd.V k57 57 _ w.heap.size _ _ ((rd_T57 t494 x28_2).f1) from Kd.V_mk ul503_1 ge503_1)
                    clear hva_ hvn_ hvc_ ge503_1 ul503_1
                    clear hcc503 hce503
                    have HR503_1 := Aside0.mk hi503_1
                    have HC503_1 := Aside0.mk hl503_1
                    clear hi503_1 hl503_1
                    replace p503 := eq_true p503
                    replace q503 := eq_true q503
                    go_wp2_with (first | ((with_reducible refine gate_dst (N := 10) rfl ?_); refine box_event ?hg (N := 10) ?hd (cs := #[.int .i64 0, .slice none 0 0]) (t := 57) ?hr ?_; (case hd => rfl); (case hg => rfl); (case hr => first | (go_simp; done) | (go_simp; rfl)); intro gb504 hg w22 hbox hb; have n0_ := Aside0.mk (Kd.N_below (Kd.N_elderB (by (with_reducible repeat (first | apply Kd.N_alloc | apply Kd.N_drewN | apply Kd.N_drew)); exact HO_26.out) gb504 (Nat.le_of_eq hg.symm)) hb); have n1_ := Aside0.mk (Kd.N_below (Kd.N_elderB (by (with_reducible repeat (first | apply Kd.N_alloc | apply Kd.N_drewN | apply Kd.N_drew)); exact HO_499001.out) gb504 (Nat.le_of_eq hg.symm)) hb); have n2_ := Aside0.mk (Kd.N_below (Kd.N_elderB (by (with_reducible repeat (first | apply Kd.N_alloc | apply Kd.N_drewN | apply Kd.N_drew)); exact HO_503001.out) gb504 (Nat.le_of_eq hg.symm)) hb); have n3_ := Aside0.mk (Kd.V_below (Kd.V_elderB (by (with_reducible repeat (first | apply Kd.V_alloc | apply Kd.V_drewN | apply Kd.V_drew)); exact HL503_1.out) gb504 (Nat.le_of_eq hg.symm)) hb); have n4_ := Aside0.mk (blk_below (g := gb498) (o := .cells #[.int .i64 t493, .slice (some ad503) t494.length co8] 57 (0, 0)) (by (with_reducible repeat (first | refine blk_drewN ?_ _ | refine blk_drew ?_ | refine blk_alloc ?_ _)); exact BK498.out) hb); have n5_ := Aside0.mk (blk_below (g := gb502) (o := .cells #[.int .i64 0, u503001] 57 (0, 0)) (by (with_reducible repeat (first | refine blk_drewN ?_ _ | refine blk_drew ?_ | refine blk_alloc ?_ _)); exact BK502.out) hb); have n6_ := Aside0.mk (Kd.C_below (by repeat (first | (with_reducible exact HR503_1.out) | (with_reducible refine Kd.C_alloc ?_ _) | (with_reducible refine Kd.C_drewN ?_ _) | (with_reducible refine Kd.C_drew ?_) | exact HR503_1.out)) hb); have n7_ := Aside0.mk (below_step (by repeat (first | (with_reducible first | exact HB.out | apply below_alloc | apply pw_below_drewN | apply below_drew1 | refine below_set ?_ GE498.out | refine below_set ?_ GE502.out) | exact HB.out)) hb); have n8_ := Aside0.mk (hbox); have n9_ := Aside0.mk ((by rw [hg]; exact (below_size (by repeat (first | (with_reducible first | exact HB.out | apply below_alloc | apply pw_below_drewN | apply below_drew1 | refine below_set ?_ GE498.out | refine below_set ?_ GE502.out) | exact HB.out))) : w.heap.size ≤ gb504)); have n10_ := Aside0.mk ((by rw [hg]; exact (below_size (by repeat (first | (with_reducible first | exact HB.out | apply below_alloc | apply pw_below_drewN | apply below_drew1 | refine below_set ?_ GE498.out | refine below_set ?_ GE502.out) | exact HB.out))) : w.heap.size ≤ gb504)); have n11_ := Aside0.mk ((by rw [hg]; exact Nat.ne_of_lt (blk_lt (g := gb498) (o := .cells #[.int .i64 t493, .slice (some ad503) t494.length co8] 57 (0, 0)) (by (with_reducible repeat (first | refine blk_drewN ?_ _ | refine blk_drew ?_ | refine blk_alloc ?_ _)); exact BK498.out)) : gb498 ≠ gb504)); have n12_ := Aside0.mk ((by rw [hg]; exact Nat.ne_of_gt (blk_lt (g := gb498) (o := .cells #[.int .i64 t493, .slice (some ad503) t494.length co8] 57 (0, 0)) (by (with_reducible repeat (first | refine blk_drewN ?_ _ | refine blk_drew ?_ | refine blk_alloc ?_ _)); exact BK498.out)) : gb504 ≠ gb498)); have n13_ := Aside0.mk ((by rw [hg]; exact Nat.ne_of_lt (blk_lt (g := gb502) (o := .cells #[.int .i64 0, u503001] 57 (0, 0)) (by (with_reducible repeat (first | refine blk_drewN ?_ _ | refine blk_drew ?_ | refine blk_alloc ?_ _)); exact BK502.out)) : gb502 ≠ gb504)); have n14_ := Aside0.mk ((by rw [hg]; exact Nat.ne_of_gt (blk_lt (g := gb502) (o := .cells #[.int .i64 0, u503001] 57 (0, 0)) (by (with_reducible repeat (first | refine blk_drewN ?_ _ | refine blk_drew ?_ | refine blk_alloc ?_ _)); exact BK502.out)) : gb504 ≠ gb502)); clear HO_26; clear HO_499001; clear HO_503001; clear HL503_1; clear BK498; clear BK502; clear HR503_1; clear HB; have HO_26 := n0_; have HO_499001 := n1_; have HO_503001 := n2_; have HL503_1 := n3_; have BK498 := n4_; have BK502 := n5_; have HR503_1 := n6_; have HB := n7_; have BK504 := n8_; have GW504 := n9_; have GE504 := n10_; have NB498_504 := n11_; have NB504_498 := n12_; have NB502_504 := n13_; have NB504_502 := n14_; clear n0_ n1_ n2_ n3_ n4_ n5_ n6_ n7_ n8_ n9_ n10_ n11_ n12_ n13_ n14_; clear hb hbox hg; have hnb23 := NB504_498.out; have hnc23 := NB498_504.out; have hnb24 := NB504_502.out; have hnc24 := NB502_504.out; have hcz25_0 : w22.cell? ⟨gb504, 0, none⟩ = some (.int .i64 0) := (blk_cell BK504.out 0).trans rfl; have hcz25_1 : w22.cell? ⟨gb504, 1, none⟩ = some (.slice none 0 0) := (blk_cell BK504.out 1).trans rfl; have hfz25_0 := blk_frozen BK504.out 0; have hfz25_1 := blk_frozen BK504.out 1; have hnb26 := NB502_498.out; have hnc26 := NB498_502.out; have hcz27_0 : w22.cell? ⟨gb502, 0, none⟩ = some (.int .i64 0) := (blk_cell BK502.out 0).trans rfl; have hcz27_1 : w22.cell? ⟨gb502, 1, none⟩ = some (u503001) := (blk_cell BK502.out 1).trans rfl; have hfz27_0 := blk_frozen BK502.out 0; have hfz27_1 := blk_frozen BK502.out 1) | ((with_reducible refine gate_builtin (b := .append) (xs := #[.tmp 33, .tmp 35]) rfl ?_); at_builtin; refine Kd.N_append_rows k57 (w0 := w) w.heap.size rfl (.tmp 33) (.tmp 35) 55 57 (.agg #[(.int .i64 0), (.slice none 0 0)]) 32 rfl Tryd.underlying55 info57 rfl (by decide) (by omega) u503001 x503001_2 ((rd_T57 t494 x28_2).f1) _ _ _ (fun k_ => some k_ ≠ (.slice (some ad503) t494.length co8 : Value).ownBlock ∧ k_ ≠ gb498 ∧ k_ ≠ gb502 ∧ k_ ≠ gb504) (fun k_ => ((fun k_ => some k_ ≠ (.slice (some ad503) t494.length co8 : Value).ownBlock ∧ k_ ≠ gb498 ∧ k_ ≠ gb502 ∧ k_ ≠ gb504)) k_ ∧ some k_ ≠ (u503001 : Value).ownBlock) rfl rfl ?aO ?aR (fun _ hk => hk) ?aF ?aB ?aS ?aL ?_; (case aR => exact (by skip; exact Kd.V_F (Kd.V_mono (ok' := (fun k_ => ((fun k_ => some k_ ≠ (.slice (some ad503) t494.length co8 : Value).ownBlock ∧ k_ ≠ gb498 ∧ k_ ≠ gb502 ∧ k_ ≠ gb504)) k_ ∧ some k_ ≠ (u503001 : Value).ownBlock)) ((Kd.V_far (p := ⟨gb504, 1, none⟩) (Kd.V_far (p := ⟨gb504, 0, none⟩) (Kd.V_mono HL503_1.out (fun k_ hk => (⟨hk, hk.2⟩ : _ ∧ k_ ≠ gb504))) (fun _ hk => hk.2) (.int .i64 ((rd_T57 t494 x28_2).f0))) (fun _ hk => hk.2) (.slice A503_1 ((rd_T57 t494 x28_2).f1).length c503_1))) (fun k_ hk => ⟨⟨hk.1.1.2, ⟨hk.1.1.1.2.1, ⟨hk.1.1.1.2.2, hk.1.2⟩⟩⟩, hk.1.1.1.1⟩)))); (case aB => exact (by repeat (first | (with_reducible first | exact HB.out | apply below_alloc | apply pw_below_drewN | apply below_drew1 | refine below_set ?_ GE498.out | refine below_set ?_ GE502.out | refine below_set ?_ GE504.out) | exact HB.out))); (case aF => exact (fun k_ hk => ⟨Kd.fresh' (Kd.N_lt (by (with_reducible repeat (first | apply Kd.N_alloc | apply Kd.N_drewN | apply Kd.N_drew)); exact (Kd.N_mono (Kd.N_far (p := ⟨gb504, 1, none⟩) (Kd.N_far (p := ⟨gb504, 0, none⟩) (Kd.N_mono HO_26.out (fun k_ hk => (⟨hk, hk.2⟩ : _ ∧ k_ ≠ gb504))) (fun _ hk => hk.2) (.int .i64 ((rd_T57 t494 x28_2).f0))) (fun _ hk => hk.2) (.slice A503_1 ((rd_T57 t494 x28_2).f1).length c503_1)) (fun _ h_ => h_.1)))) k_ hk, Kd.freshB (g := gb498) (o := .cells #[.int .i64 t493, .slice (some ad503) t494.length co8] 57 (0, 0)) (by (with_reducible repeat (first | refine blk_drewN ?_ _ | refine blk_drew ?_ | refine blk_alloc ?_ _)); refine blk_far ?_ NB498_504.out _; (with_reducible repeat (first | refine blk_drewN ?_ _ | refine blk_drew ?_ | refine blk_alloc ?_ _)); refine blk_far ?_ NB498_504.out _; (with_reducible repeat (first | refine blk_drewN ?_ _ | refine blk_drew ?_ | refine blk_alloc ?_ _)); exact BK498.out) k_ hk, Kd.freshB (g := gb502) (o := .cells #[.int .i64 0, u503001] 57 (0, 0)) (by (with_reducible repeat (first | refine blk_drewN ?_ _ | refine blk_drew ?_ | refine blk_alloc ?_ _)); refine blk_far ?_ NB502_504.out _; (with_reducible repeat (first | refine blk_drewN ?_ _ | refine blk_drew ?_ | refine blk_alloc ?_ _)); refine blk_far ?_ NB502_504.out _; (with_reducible repeat (first | refine blk_drewN ?_ _ | refine blk_drew ?_ | refine blk_alloc ?_ _)); exact BK502.out) k_ hk, Kd.freshB (g := gb504) (o := .cells #[.int .i64 ((rd_T57 t494 x28_2).f0), .slice A503_1 ((rd_T57 t494 x28_2).f1).length c503_1] 57 (0, 0)) (by (with_reducible repeat (first | refine blk_drewN ?_ _ | refine blk_drew ?_ | refine blk_alloc ?_ _)); refine blk_put (cs := #[.int .i64 ((rd_T57 t494 x28_2).f0), .slice none 0 0]) ?_ 1 _ rfl; (with_reducible repeat (first | refine blk_drewN ?_ _ | refine blk_drew ?_ | refine blk_alloc ?_ _)); refine blk_put (cs := #[.int .i64 0, .slice none 0 0]) ?_ 0 _ rfl; (with_reducible repeat (first | refine blk_drewN ?_ _ | refine blk_drew ?_ | refine blk_alloc ?_ _)); exact BK504.out) k_ hk⟩)); (case aO => exact (by (with_reducible repeat (first | apply Kd.N_alloc | apply Kd.N_drewN | apply Kd.N_drew)); exact Kd.N_mono (Kd.N_far (p := ⟨gb504, 1, none⟩) (Kd.N_far (p := ⟨gb504, 0, none⟩) (Kd.N_mono HO_503001.out (fun k_ hk => (⟨hk, hk.2⟩ : _ ∧ k_ ≠ gb504))) (fun _ hk => hk.2) (.int .i64 ((rd_T57 t494 x28_2).f0))) (fun _ hk => hk.2) (.slice A503_1 ((rd_T57 t494 x28_2).f1).length c503_1)) (fun _ hk => ⟨hk.1.1.1, ⟨hk.1.1.2.1, ⟨hk.1.1.2.2, hk.1.2⟩⟩⟩))); (case aS => exact (below_size (by repeat (first | (with_reducible first | exact HB.out | apply below_alloc | apply pw_below_drewN | apply below_drew1 | refine below_set ?_ GE498.out | refine below_set ?_ GE502.out | refine below_set ?_ GE504.out) | exact HB.out)))); (case aL => have := LMc21.out; omega); intro v506 w28 ho hb hg hat; rw [← Ny505.out] at ho; have n0_ := Aside0.mk (Kd.N_afterv (ok := (fun k_ => k_ ≠ gb498 ∧ k_ ≠ gb502 ∧ k_ ≠ gb504)) (by (with_reducible repeat (first | apply Kd.N_alloc | apply Kd.N_drewN | apply Kd.N_drew)); exact Kd.N_mono (Kd.N_far (p := ⟨gb504, 1, none⟩) (Kd.N_far (p := ⟨gb504, 0, none⟩) (Kd.N_mono HO_26.out (fun k_ hk => (⟨hk, hk.2⟩ : _ ∧ k_ ≠ gb504))) (fun _ hk => hk.2) (.int .i64 ((rd_T57 t494 x28_2).f0))) (fun _ hk => hk.2) (.slice A503_1 ((rd_T57 t494 x28_2).f1).length c503_1)) (fun _ hk => ⟨⟨hk.1.1.2.1, ⟨hk.1.1.2.2, hk.1.2⟩⟩, hk.1.1.1⟩)) hg hat); have n1_ := Aside0.mk (Kd.N_afterv (ok := (fun k_ => k_ ≠ gb498 ∧ k_ ≠ gb502 ∧ k_ ≠ gb504)) (by (with_reducible repeat (first | apply Kd.N_alloc | apply Kd.N_drewN | apply Kd.N_drew)); exact Kd.N_mono (Kd.N_far (p := ⟨gb504, 1, none⟩) (Kd.N_far (p := ⟨gb504, 0, none⟩) (Kd.N_mono HO_499001.out (fun k_ hk => (⟨hk, hk.2⟩ : _ ∧ k_ ≠ gb504))) (fun _ hk => hk.2) (.int .i64 ((rd_T57 t494 x28_2).f0))) (fun _ hk => hk.2) (.slice A503_1 ((rd_T57 t494 x28_2).f1).length c503_1)) (fun _ hk => ⟨⟨hk.1.1.2.1, ⟨hk.1.1.2.2, hk.1.2⟩⟩, hk.1.1.1⟩)) hg hat); have n2_ := Aside0.mk (blk_grown (g := gb498) (o := .cells #[.int .i64 t493, .slice (some ad503) t494.length co8] 57 (0, 0)) (by (with_reducible repeat (first | refine blk_drewN ?_ _ | refine blk_drew ?_ | refine blk_alloc ?_ _)); refine blk_far ?_ NB498_504.out _; (with_reducible repeat (first | refine blk_drewN ?_ _ | refine blk_drew ?_ | refine blk_alloc ?_ _)); refine blk_far ?_ NB498_504.out _; (with_reducible repeat (first | refine blk_drewN ?_ _ | refine blk_drew ?_ | refine blk_alloc ?_ _)); exact BK498.out) hg (Kd.N_away HO_503001.out (fun _ hk => hk.1.2.1))); have n3_ := Aside0.mk (blk_grown (g := gb502) (o := .cells #[.int .i64 0, u503001] 57 (0, 0)) (by (with_reducible repeat (first | refine blk_drewN ?_ _ | refine blk_drew ?_ | refine blk_alloc ?_ _)); refine blk_far ?_ NB502_504.out _; (with_reducible repeat (first | refine blk_drewN ?_ _ | refine blk_drew ?_ | refine blk_alloc ?_ _)); refine blk_far ?_ NB502_504.out _; (with_reducible repeat (first | refine blk_drewN ?_ _ | refine blk_drew ?_ | refine blk_alloc ?_ _)); exact BK502.out) hg (Kd.N_away HO_503001.out (fun _ hk => hk.1.2.2))); have n4_ := Aside0.mk (Kd.V_afterv (ok := (fun k_ => some k_ ≠ (.slice (some ad503) t494.length co8 : Value).ownBlock ∧ k_ ≠ gb498 ∧ k_ ≠ gb502 ∧ k_ ≠ gb504)) (by (with_reducible repeat (first | apply Kd.V_alloc | apply Kd.V_drewN | apply Kd.V_drew)); exact Kd.V_mono (Kd.V_far (p := ⟨gb504, 1, none⟩) (Kd.V_far (p := ⟨gb504, 0, none⟩) (Kd.V_mono HL503_1.out (fun k_ hk => (⟨hk, hk.2⟩ : _ ∧ k_ ≠ gb504))) (fun _ hk => hk.2) (.int .i64 ((rd_T57 t494 x28_2).f0))) (fun _ hk => hk.2) (.slice A503_1 ((rd_T57 t494 x28_2).f1).length c503_1)) (fun _ hk => ⟨⟨hk.1.1.2, ⟨hk.1.1.1.2.1, ⟨hk.1.1.1.2.2, hk.1.2⟩⟩⟩, hk.1.1.1.1⟩)) hg hat); have n5_ := Aside0.mk (blk_grown (g := gb504) (o := .cells #[.int .i64 ((rd_T57 t494 x28_2).f0), .slice A503_1 ((rd_T57 t494 x28_2).f1).length c503_1] 57 (0, 0)) (by (with_reducible repeat (first | refine blk_drewN ?_ _ | refine blk_drew ?_ | refine blk_alloc ?_ _)); refine blk_put (cs := #[.int .i64 ((rd_T57 t494 x28_2).f0), .slice none 0 0]) ?_ 1 _ rfl; (with_reducible repeat (first | refine blk_drewN ?_ _ | refine blk_drew ?_ | refine blk_alloc ?_ _)); refine blk_put (cs := #[.int .i64 0, .slice none 0 0]) ?_ 0 _ rfl; (with_reducible repeat (first | refine blk_drewN ?_ _ | refine blk_drew ?_ | refine blk_alloc ?_ _)); exact BK504.out) hg (Kd.N_away HO_503001.out (fun _ hk => hk.2))); have n6_ := Aside0.mk (hb); have n7_ := Aside0.mk (ho); clear HO_26; clear HO_499001; clear BK498; clear BK502; clear HL503_1; clear BK504; clear HB; clear HO_503001; have HO_26 := n0_; have HO_499001 := n1_; have BK498 := n2_; have BK502 := n3_; have HL503_1 := n4_; have BK504 := n5_; have HB := n6_; have HO507 := n7_; clear n0_ n1_ n2_ n3_ n4_ n5_ n6_ n7_; clear ho hb hg hat; obtain ⟨Ao29, co29, eo29⟩ := Kd.N_slice HO507.out; subst eo29; have hcz30_0 : w28.cell? ⟨gb502, 0, none⟩ = some (.int .i64 0) := (blk_cell BK502.out 0).trans rfl; have hcz30_1 : w28.cell? ⟨gb502, 1, none⟩ = some (u503001) := (blk_cell BK502.out 1).trans rfl; have hfz30_0 := blk_frozen BK502.out 0; have hfz30_1 := blk_frozen BK502.out 1))
                    go_roundg k2
                    case measure => have := HJ3.out; have := HK2.out; omega
                    case rel => exact ⟨(wrap64 (x28_2 + 1)), (y505), (.slice Ao29 y505.length co29), (by first | rfl | (simp; done) | (simp [*]; done)), H', ⟨by have := HJ3.out; have := HK2.out; omega⟩, ⟨by (with_reducible repeat (first | apply Kd.N_alloc | apply Kd.N_drewN | apply Kd.N_drew)); exact Kd.N_mono (Kd.N_far (p := ⟨gb502, 1, none⟩) (Kd.N_mono HO_26.out (fun k_ hk => (⟨hk, hk.1.2.1⟩ : _ ∧ k_ ≠ gb502))) (fun _ hk => hk.2) (.slice Ao29 y505.length co29)) (fun _ hk => ⟨hk.1.2, ⟨hk.1.1.1, hk.1.1.2.1⟩⟩)⟩, ⟨by (with_reducible repeat (first | apply Kd.N_alloc | apply Kd.N_drewN | apply Kd.N_drew)); exact Kd.N_mono (Kd.N_far (p := ⟨gb502, 1, none⟩) (Kd.N_mono HO_499001.out (fun k_ hk => (⟨hk, hk.1.2.1⟩ : _ ∧ k_ ≠ gb502))) (fun _ hk => hk.2) (.slice Ao29 y505.length co29)) (fun _ hk => ⟨hk.1.2, ⟨hk.1.1.1, hk.1.1.2.1⟩⟩)⟩, ⟨by (with_reducible repeat (first | apply Kd.N_alloc | apply Kd.N_drewN | apply Kd.N_drew)); exact Kd.N_mono (Kd.N_far (p := ⟨gb502, 1, none⟩) (Kd.N_mono HO507.out (fun k_ hk => (⟨hk, hk.2.2.1⟩ : _ ∧ k_ ≠ gb502))) (fun _ hk => hk.2) (.slice Ao29 y505.length co29)) (fun _ hk => ⟨hk.1.1, ⟨hk.1.2.1, hk.1.2.2.1⟩⟩)⟩, ⟨by (with_reducible repeat (first | refine blk_drewN ?_ _ | refine blk_drew ?_ | refine blk_alloc ?_ _)); refine blk_far ?_ NB498_502.out _; (with_reducible repeat (first | refine blk_drewN ?_ _ | refine blk_drew ?_ | refine blk_alloc ?_ _)); exact BK498.out⟩, ⟨by (with_reducible repeat (first | refine blk_drewN ?_ _ | refine blk_drew ?_ | refine blk_alloc ?_ _)); refine blk_put (cs := #[.int .i64 0, u503001]) ?_ 1 _ rfl; (with_reducible repeat (first | refine blk_drewN ?_ _ | refine blk_drew ?_ | refine blk_alloc ?_ _)); exact BK502.out⟩, ⟨by repeat (first | (with_reducible first | exact HB.out | apply below_alloc | apply pw_below_drewN | apply below_drew1 | refine below_set ?_ GE498.out | refine below_set ?_ GE502.out | refine below_set ?_ GE504.out) | exact HB.out)⟩⟩
                  · rw [if_neg c21] at H
                    exact absurd H (by simp)
                · rw [if_neg c20] at H
                  exact absurd H (by simp)
              · rw [if_neg c19] at H
                exact absurd H (by simp)
            · rw [if_neg c18] at H
              have c18b0 : decide (x28_2 < (t494.length : Int)) = false := decide_eq_false c18
              clear c18
              replace H := Option.bind_eq_some_iff.mp H
              obtain ⟨t508, A310, H⟩ := H
              replace H : (some (t508, true)) = some (r1, r2) := H
              have A31 := Aside0.mk A310
              clear A310
              simp only [Option.some.injEq, Prod.mk.injEq] at H
              obtain ⟨rfl, rfl⟩ := H
              have hnb32 := NB502_498.out
              have hnc32 := NB498_502.out
              have hcz33_0 : wr.cell? ⟨gb502, 0, none⟩ = some (.int .i64 0) := (blk_cell BK502.out 0).trans rfl
              have hcz33_1 : wr.cell? ⟨gb502, 1, none⟩ = some (u503001) := (blk_cell BK502.out 1).trans rfl
              have hfz33_0 := blk_frozen BK502.out 0
              have hfz33_1 := blk_frozen BK502.out 1
              obtain ⟨Ao34, co34, eo34⟩ := Kd.N_slice HO_503001.out
              subst eo34
              go_wp2_with (first | ((with_reducible refine gate_callee (f := 55) rfl ?_); refine goesL_ (some 42) rfl rfl Tryd.func55 (by kernel_rfl) rfl #[.agg #[.int .i64 0, .slice Ao34 x503001_2.length co34], .int .i64 (wrap64 (a1 - 1))] rfl (by (try simp only [List.map_toArray, List.map_cons, List.map_nil]); first | done | rfl | (simp only [List.length_drop, List.length_take]; rfl)) ?_; (with_reducible refine (spec_l1Text.calls k2 0 _ _ x503001_2 (wrap64 (a1 - 1)) t508 _ ?side1 ?side2 A31.out).mono ?_); (case side1 => repeat (first | exact (Kd.N_reads' HO_503001.out).2.2 | (with_reducible refine Kd.C_alloc ?_ _) | (with_reducible refine Kd.C_drewN ?_ _) | (with_reducible refine Kd.C_drew ?_))); (case side2 => exact (Kd.N_reads' HO_503001.out).2.1); rintro e w35 ⟨rfl, hb⟩; refine ⟨_, rfl, ?_⟩; have n0_ := Aside0.mk (Kd.N_below (by (with_reducible repeat (first | apply Kd.N_alloc | apply Kd.N_drewN | apply Kd.N_drew)); exact HO_26.out) hb); have n1_ := Aside0.mk (Kd.N_below (by (with_reducible repeat (first | apply Kd.N_alloc | apply Kd.N_drewN | apply Kd.N_drew)); exact HO_499001.out) hb); have n2_ := Aside0.mk (Kd.N_below (by (with_reducible repeat (first | apply Kd.N_alloc | apply Kd.N_drewN | apply Kd.N_drew)); exact HO_503001.out) hb); have n3_ := Aside0.mk (blk_below (g := gb498) (o := .cells #[.int .i64 t493, .slice Ao8 t494.length co8] 57 (0, 0)) (by (with_reducible repeat (first | refine blk_drewN ?_ _ | refine blk_drew ?_ | refine blk_alloc ?_ _)); exact BK498.out) hb); have n4_ := Aside0.mk (blk_below (g := gb502) (o := .cells #[.int .i64 0, .slice Ao34 x503001_2.length co34] 57 (0, 0)) (by (with_reducible repeat (first | refine blk_drewN ?_ _ | refine blk_drew ?_ | refine blk_alloc ?_ _)); exact BK502.out) hb); have n5_ := Aside0.mk (below_step (by repeat (first | (with_reducible first | exact HB.out | apply below_alloc | apply pw_below_drewN | apply below_drew1 | refine below_set ?_ GE498.out | refine below_set ?_ GE502.out) | exact HB.out)) hb); clear HO_26; clear HO_499001; clear HO_503001; clear BK498; clear BK502; clear HB; have HO_26 := n0_; have HO_499001 := n1_; have HO_503001 := n2_; have BK498 := n3_; have BK502 := n4_; have HB := n5_; clear n0_ n1_ n2_ n3_ n4_ n5_; (try clear hb); (try clear hb2); (try clear hk); (try clear hi)))
              go_ret2
              exact ⟨by first | rfl | (simp [errW_none, errW_some] <;> rfl) | (simp [*, errW_none, errW_some] <;> rfl), by repeat (first | (with_reducible first | exact HB.out | apply below_alloc | apply pw_below_drewN | apply below_drew1 | refine below_set ?_ GE498.out | refine below_set ?_ GE502.out) | exact HB.out)⟩
end Go.Proofs.YtdhfdepnleioiaaDoor.PA
