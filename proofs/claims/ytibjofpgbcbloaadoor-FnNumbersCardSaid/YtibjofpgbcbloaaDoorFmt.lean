/-
FormatNumbers: for every list the program's text is the reference's. Plain laws on the printed functions; no memory in them.
-/
import Derived.Test.YtibjofpgbcbloaaDoorGen
import Derived.Test.YtibjofpgbcbloaaDoorFA7
import Derived.Test.YtibjofpgbcbloaaDoorFA5
import Derived.Test.YtibjofpgbcbloaaDoorFA17
import Derived.Test.YtibjofpgbcbloaaDoorFA18
namespace Go.Proofs.YtibjofpgbcbloaaDoor.PA
open Go Go.RowKit Go.Proofs.YtibjofpgbcbloaaDoorW.PrintWords Go.Proofs.YtibjofpgbcbloaaDoorW.PrintLast

def I64 (n : Int) : Prop := -9223372036854775808 ≤ n ∧ n ≤ 9223372036854775807
/-- Numbers with blanks between them. -/
def sp (l : List Int) : List UInt8 := joined 32 (l.map Lib.itoa)
def spaced (l : List Int) : ByteArray := if l = [] then ba [45] else ba (sp l)
theorem itoa_ne (n : Int) : Lib.itoa n ≠ [] := by
  unfold Lib.itoa
  by_cases h : n < 0
  · rw [if_pos h]; simp
  · rw [if_neg h]
    intro h0
    rw [Lib.decDigits] at h0
    by_cases h2 : n.toNat < 10
    · rw [dif_pos h2] at h0; simp at h0
    · rw [dif_neg h2] at h0; simp at h0
theorem sp_ne (l : List Int) (h : l ≠ []) : sp l ≠ [] := by
  cases l with
  | nil => exact absurd rfl h
  | cons n r =>
    intro h0
    unfold sp at h0
    by_cases hr : r = []
    · subst hr
      rw [List.map_cons, List.map_nil, joined_one] at h0
      exact itoa_ne n h0
    · rw [List.map_cons, joined_cons _ _ _ (by simp [hr])] at h0
      simp at h0
theorem sp_length (l : List Int) (h : ∀ n ∈ l, I64 n) : (sp l).length ≤ l.length * 21 := by
  unfold sp
  have := joined_length 32 20 (l.map Lib.itoa) (fun x hx => by
    obtain ⟨n, hn, rfl⟩ := List.mem_map.1 hx
    exact itoa_size n (h n hn).1 (h n hn).2)
  rw [List.length_map] at this
  exact this
theorem impl_spaced_ev (l : List Int) (h : ∀ n ∈ l, I64 n) (hl : l.length ≤ 4000000000000) : Ev (fun k => impl_spaced.f k l) (spaced l) := by
  unfold spaced
  by_cases h0 : l = []
  · subst h0
    rw [if_pos rfl]
    exact Ev.congr (fun k => by unfold impl_spaced.f; exact if_pos rfl) (Ev.now _)
  rw [if_neg h0]
  have hne : ¬ ((l.length : Int) = 0) := by
    intro hz
    exact h0 (List.eq_nil_of_length_eq_zero (by omega))
  refine Ev.congr (f := fun k => impl_spaced.l0 k [] l (l.length : Int) 0) (fun k => by unfold impl_spaced.f; rw [if_neg hne]) ?_
  refine Ev_front l (fun k acc i => impl_spaced.l0 k acc l (l.length : Int) i) (fun m => m.map (fun n => ba (Lib.itoa n))) _ (fun i hi hnext => ?_) ?_
  · obtain ⟨i0, i1⟩ := h _ (List.getElem_mem hi)
    have hit : strconv_Itoa.f l[i] = some (ba (Lib.itoa l[i])) := by
      unfold strconv_Itoa.f
      rw [if_pos i0, if_pos i1]
      rfl
    refine Ev.step (fun k => ?_) hnext
    rw [impl_spaced.l0, if_pos (by omega), if_pos (by omega), if_pos (by omega), rd_get _ _ hi, hit, Option.bind_some, if_pos (by rw [List.length_map, List.length_take]; omega), w64_succ hi (by omega), List.map_append]
    rfl
  · have e : (l.map (fun n => ba (Lib.itoa n))).map (fun b => b.data.toList) = l.map Lib.itoa := by
      rw [List.map_map]
      exact List.map_congr_left (fun p _ => ba_data _)
    have hs := sp_length l h
    have hj : strings_Join.f (l.map (fun n => ba (Lib.itoa n))) ⟨#[32]⟩ = some (ba (sp l)) := by
      unfold strings_Join.f
      rw [if_pos (by rw [List.length_map]; omega), e]
      exact if_pos (by show (sp l).length ≤ _; omega)
    refine Ev.step (f := fun _ => _) (fun k => ?_) (Ev.now _)
    rw [impl_spaced.l0, if_neg (by omega), hj, Option.bind_some]
theorem spec_spaced_ev (l : List Int) (h : ∀ n ∈ l, I64 n) (hl : l.length ≤ 4000000000000) : Ev (fun k => spec_l2Numbers.f k l) (spaced l) := by
  refine Ev.congr (f := fun k => spec_l2Numbers.l0 k (ba (sp [])) l (l.length : Int) 0) (fun k => by unfold spec_l2Numbers.f; rfl) ?_
  refine Ev_front l (fun k acc i => spec_l2Numbers.l0 k acc l (l.length : Int) i) (fun m => ba (sp m)) _ (fun i hi hnext => ?_) ?_
  · obtain ⟨i0, i1⟩ := h _ (List.getElem_mem hi)
    have hit := l13Dec_all l[i] i0 i1
    have hsz := itoa_size l[i] i0 i1
    have hpre := sp_length (l.take i) (fun n hn => h n (List.mem_of_mem_take hn))
    rw [List.length_take] at hpre
    have hle : min i l.length ≤ i := Nat.min_le_left _ _
    have hle2 : min i l.length * 21 ≤ i * 21 := Nat.mul_le_mul_right _ hle
    cases i with
    | zero =>
      refine Ev.step (f := fun k => (spec_l13Dec.f k l[0]).bind fun t => (if (ba (sp (l.take 0))).size + t.size ≤ 9223372036854775807 then (spec_l2Numbers.l0 k (ba (sp (l.take 0)) ++ t) l (l.length : Int) ((0 + 1 : Nat) : Int)) else none)) (fun k => ?_) (Ev.bind hit ?_)
      · rw [spec_l2Numbers.l0, if_pos (by omega), if_pos (by omega), if_pos (by omega), if_neg (by omega), rd_get _ _ hi, w64_succ hi (by omega)]
      · refine Ev.congr (fun k => if_pos (by rw [ba_size, ba_size]; omega)) ?_
        have e : ba (sp (l.take 0)) ++ ba (Lib.itoa l[0]) = ba (sp (l.take 0 ++ [l[0]])) := by
          rw [ba_append]
          congr 1
          simp [sp, joined_nil, joined_one]
        rw [e]
        exact hnext
    | succ j =>
      have hne : (l.take (j + 1)).map Lib.itoa ≠ [] := by
        intro h0
        have := congrArg List.length h0
        rw [List.length_map, List.length_take] at this
        simp only [List.length_nil] at this
        omega
      have e1 : (⟨#[32]⟩ : ByteArray) = ba [32] := rfl
      refine Ev.step (f := fun k => (spec_l13Dec.f k l[j + 1]).bind fun t => (if (ba (sp (l.take (j + 1))) ++ ba [32]).size + t.size ≤ 9223372036854775807 then (spec_l2Numbers.l0 k ((ba (sp (l.take (j + 1))) ++ ba [32]) ++ t) l (l.length : Int) ((j + 1 + 1 : Nat) : Int)) else none)) (fun k => ?_) (Ev.bind hit ?_)
      · rw [spec_l2Numbers.l0, if_pos (by omega), if_pos (by omega), if_pos (by omega), if_pos (by omega), e1, if_pos (by rw [ba_size]; omega), rd_get _ _ hi, w64_succ hi (by omega)]
      · refine Ev.congr (fun k => if_pos (by rw [ba_append, ba_size, ba_size]; simp only [List.length_append, List.length_cons, List.length_nil]; omega)) ?_
        have e : (ba (sp (l.take (j + 1))) ++ ba [32]) ++ ba (Lib.itoa l[j + 1]) = ba (sp (l.take (j + 1) ++ [l[j + 1]])) := by
          rw [ba_append, ba_append]
          congr 1
          unfold sp
          rw [List.map_append, List.map_cons, List.map_nil, joined_snoc _ _ _ hne]
          simp
        rw [e]
        exact hnext
  · refine Ev.step (f := fun _ => _) (fun k => ?_) (Ev.now _)
    rw [spec_l2Numbers.l0, if_neg (by omega), toList_ba]
    unfold spaced
    by_cases h0 : l = []
    · subst h0
      rw [if_pos (show sp [] = [] from rfl), if_pos (show ([] : List Int) = [] from rfl)]
      rfl
    · rw [if_neg (sp_ne l h0), if_neg h0]
theorem impl_format (l : List Int) (h : ∀ n ∈ l, I64 n) (hl : l.length ≤ 4000000000000) : Ev (fun k => impl_FormatNumbers.f k l) (spaced l) :=
  Ev.congr (fun k => by unfold impl_FormatNumbers.f; rfl) (Ev.bind (impl_spaced_ev l h hl) (Ev.now _))
theorem spec_format (l : List Int) (h : ∀ n ∈ l, I64 n) (hl : l.length ≤ 4000000000000) : Ev (fun k => spec_FormatNumbers.f k l) (spaced l) :=
  Ev.congr (fun k => by unfold spec_FormatNumbers.f; rfl) (Ev.bind (spec_spaced_ev l h hl) (Ev.now _))
end Go.Proofs.YtibjofpgbcbloaaDoor.PA
