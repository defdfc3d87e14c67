/-
FormatNumbers: for every list of numbers the program answers as the reference does, and the list stays. Plain laws on the printed functions; no memory in them.
-/
import Derived.Test.YtibjofpgbcbloaaDoorFmt
import Derived.Test.YtibjofpgbcbloaaDoorFA6
import Derived.Test.YtibjofpgbcbloaaDoorFA8
import Derived.Test.YtibjofpgbcbloaaDoorFA3
namespace Go.Proofs.YtibjofpgbcbloaaDoor.PA
open Go Go.RowKit Go.Proofs.YtibjofpgbcbloaaDoorW.PrintWords Go.Proofs.YtibjofpgbcbloaaDoorW.PrintLast

theorem wf_I64 {n : Int} (h : (Lit.int .i64 n).wf = true) : I64 n := by
  simp only [Lit.wf, IntKind.min, IntKind.max, IntKind.signed, IntKind.bits, Bool.and_eq_true, decide_eq_true_eq, if_true] at h
  unfold I64
  omega
theorem eqIntS_same (l : List Int) (h : l.length ≤ 100000000000000) : Ev (fun k => laws_eqIntS.f k l l) true := by
  refine Ev.congr (f := fun k => laws_eqIntS.l0 k l l 0) (fun k => by unfold laws_eqIntS.f; rw [if_pos rfl]) ?_
  refine Ev_front l (fun k (_ : Unit) i => laws_eqIntS.l0 k l l i) (fun _ => ()) _ (fun i h2 hn => ?_) ?_
  · refine Ev.step (fun k => ?_) hn
    rw [laws_eqIntS.l0, if_pos (by omega), if_pos (by omega), if_pos (by omega), if_pos rfl, w64_succ h2 (by omega)]
  · exact Ev.step (f := fun _ => _) (fun k => by rw [laws_eqIntS.l0, if_neg (by omega)]) (Ev.now _)
theorem set_over (l : List Int) (i : Nat) (h : i < l.length) : (l.take i ++ List.replicate (l.length - i) 0).set i l[i] = (l.take i ++ [l[i]]) ++ List.replicate (l.length - (i + 1)) 0 := by
  have e : List.replicate (l.length - i) (0 : Int) = 0 :: List.replicate (l.length - (i + 1)) 0 := by
    have : l.length - i = (l.length - (i + 1)) + 1 := by omega
    rw [this, List.replicate_succ]
  have hl : (l.take i).length = i := by rw [List.length_take]; omega
  rw [e, List.set_append_right _ _ (by omega), hl, Nat.sub_self, List.set_cons_zero, List.append_assoc]
  rfl
theorem toIntS_ev (l : List Int) (h : l.length ≤ 1000000000000) : Ev (fun k => laws_toIntS.f k l) l := by
  refine Ev.congr (f := fun k => laws_toIntS.l0 k l ([] ++ List.replicate (l.length - ([] : List Int).length) 0) 0) (fun k => ?_) ?_
  · unfold laws_toIntS.f
    rw [if_pos (by omega), Int.toNat_natCast, if_pos (by omega)]
    rfl
  refine Ev_front l (fun k (m : List Int) i => laws_toIntS.l0 k l (m ++ List.replicate (l.length - m.length) 0) i) (fun m => m) _ (fun i hi hn => ?_) ?_
  · have hl : (l.take i).length = i := by rw [List.length_take]; omega
    have hl2 : (l.take i ++ [l[i]]).length = i + 1 := by rw [List.length_append, hl]; rfl
    rw [hl2] at hn
    rw [hl]
    refine Ev.step (fun k => ?_) hn
    rw [laws_toIntS.l0, if_pos (by omega), if_pos (by omega), if_pos (by rw [List.length_append, hl, List.length_replicate]; omega), Int.toNat_natCast, rd_get _ _ hi, set_over l i hi, w64_succ hi (by omega)]
  · refine Ev.step (f := fun _ => _) (fun k => ?_) (Ev.now _)
    rw [laws_toIntS.l0, if_neg (by omega), Nat.sub_self]
    simp
theorem law_FormatNumbers : laws_FnExactFormatNumbers.Pure := by
  intro l _ _ hwf
  have hI : ∀ n ∈ l, I64 n := fun n hn => wf_I64 (hwf n hn)
  refine Ev.rounds ?_
  by_cases hb : (l.length : Int) > 1048576
  · exact Ev.congr (fun k => by unfold laws_FnExactFormatNumbers.f; rw [if_pos hb]) (Ev.now _)
  · have ht := toIntS_ev l (by omega)
    refine Ev.congr (fun k => by unfold laws_FnExactFormatNumbers.f; rw [if_neg hb]) (Ev.bind ht (Ev.bind (spec_format l hI (by omega)) (Ev.bind ht (Ev.bind (impl_format l hI (by omega)) ?_))))
    simp only [if_true]
    refine Ev.bind ht (Ev.bind (eqIntS_same l (by omega)) ?_)
    simp only [if_true]
    exact Ev.now _
end Go.Proofs.YtibjofpgbcbloaaDoor.PA
