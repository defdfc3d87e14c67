/-
Texts Um to Un of the work.
-/
import Derived.Test.YtegbkihgnofkfaaGreatDoorZUk
/-
Code: the reference's term of code, with heights and levels.
-/
namespace Go.Proofs.YtegbkihgnofkfaaGreatDoor.Ev
section
set_option linter.unusedVariables false
set_option linter.unusedSimpArgs false
open Go Go.RowKit
set_option linter.unusedVariables false
set_option linter.unusedSimpArgs false
theorem text_list : ∀ t, (textT t).length ≤ 5 * (listT t).length
  | .dig c => by simp [textT, listT]
  | .var c => by simp [textT, listT]
  | .one s x => by have := text_list x; simp only [textT, listT, List.length_append, List.length_cons, List.length_nil]; omega
  | .two s x y => by have := text_list x; have := text_list y; simp only [textT, listT, List.length_append, List.length_cons, List.length_nil]; omega
  | .loop s v x y => by have := text_list x; have := text_list y; simp only [textT, listT, List.length_append, List.length_cons, List.length_nil]; omega
theorem adopt_nb (σ : Sto) (key : Nat) (x : T) (b : Bool) : adopt σ key (.t [.a (encN x), B b]) = some (.t [.a (encN x), B b], σ) := adopt_two (by simp only [closed, encN_closed]) rfl
theorem adopt_zb (σ : Sto) (key : Nat) (b : Bool) : adopt σ key (.t [.a zc, B b]) = some (.t [.a zc, B b], σ) := adopt_two rfl rfl
theorem zc_len : zc.length = 3 := rfl
theorem zc_leaf : zc.all leafOk = true := rfl
theorem T_specTermValid : TT 88 = some (Tryz.f88, bodyOf Tryz.f88) := by kernel_rfl
theorem specTermValid_ev (t : List UInt8) (hl : t.length < 4611686018427387904) : EE 88 [S t] = some (B (rdT t).isSome) := by
  refine EE_plain T_specTermValid (by decide) (Nat.le_of_ble_eq_true rfl) rfl ?_
  rw [show opt 88 = [] from rfl]
  simp only [bodyOf, Tryz.f88, SA]
  have h := l5Read_ev t hl
  cases hr : rdT t with
  | none =>
    rw [hr] at h
    simp only [h, adopt_zb, zc_len, zc_leaf, TMA, IA, PA, RA0, RA1, RA2, RA3, RA4, RA5, RA6, RA7, RA8, RA9, RA10, Nat.reduceAdd, Nat.reduceMul, Nat.reduceEqDiff, Nat.reduceLeDiff, Nat.reduceLT, Int.reduceToNat, Int.reduceLT, Int.reduceLE, Int.reduceEq, Int.reduceNeg, Int.reduceAdd, Int.reduceSub, Int.reduceMul, reduceIte]
    rfl
  | some x =>
    rw [hr] at h
    simp only [h, adopt_nb, TMA, IA, PA, RA0, RA1, RA2, RA3, RA4, RA5, RA6, RA7, RA8, RA9, RA10, Nat.reduceAdd, Nat.reduceMul, Nat.reduceEqDiff, Nat.reduceLeDiff, Nat.reduceLT, Int.reduceToNat, Int.reduceLT, Int.reduceLE, Int.reduceEq, Int.reduceNeg, Int.reduceAdd, Int.reduceSub, Int.reduceMul, reduceIte]
    rfl
def rs0 (E sz : Nat) : RS := ⟨false, E, sz, 0, []⟩
theorem rs0_ok (E sz : Nat) : rsOk (rs0 E sz) := ⟨by simp [rs0], rfl, fun _ => ⟨rfl, rfl⟩⟩
theorem br0 : BR ⟨[], []⟩ (rs0 66 3) (rs0 9 1) (rs0 3 1) :=
  ⟨⟨rs0_ok _ _, rs0_ok _ _, rs0_ok _ _, rfl, rfl, rfl, rfl, rfl, rfl, by decide, by decide, by decide⟩, rfl, rfl, rfl, rfl, rfl, rfl⟩
/-- What the reference's builder gives. -/
def buildR : Option (T × List Nat × List Nat) → AV
  | some (t, hs, ls) => .t [.a (encN t), .o 3 1 hs.length (nats hs), .o 3 1 ls.length (nats ls), B true]
  | none => .t [.a zeroN, .s true 0 [], .s true 0 [], B false]
theorem give4 {σ : Sto} {x y : AV} {i j n m E sz : Nat} {cs ds : List AV} (hx : closed x = true) (hy : closed y = true) (hi : σ i = some (.row E sz n cs)) (hj : σ j = some (.row E sz m ds)) (hc : closedL cs = true) (hd : closedL ds = true) (hne : i ≠ j) :
    giveAll σ [x, .w i 0 n, .w j 0 m, y] = some (.t [x, .o E sz n cs, .o E sz m ds, y]) := by
  unfold giveAll
  simp only [giveL, give1_closed hx, give1_closed hy, give1_w hi (Nat.le_refl _) hc, give1_w hj (Nat.le_refl _) hd, Option.bind_some, Option.map_some, List.nil_append, List.append_nil, tk, if_true]
  rw [if_pos ⟨by simpa using hne, by simp⟩]
theorem nats_closed (l : List Nat) : closedL (nats l) = true := by
  induction l with
  | nil => rfl
  | cons x l ih => simpa [nats, closedL, closed] using ih
theorem runP_n : ∀ {l : List (List UInt8)} {p q : PS} {hs ls : List Nat}, runP l p = some (q, hs, ls) → hs.length = l.length ∧ ls.length = l.length
  | [], p, q, hs, ls, h => by
    simp only [runP, Option.some.injEq, Prod.mk.injEq] at h
    obtain ⟨_, rfl, rfl⟩ := h
    exact ⟨rfl, rfl⟩
  | s :: l, p, q, hs, ls, h => by
    simp only [runP] at h
    split at h
    · split at h
      · rename_i h2
        simp only [Option.some.injEq, Prod.mk.injEq] at h
        obtain ⟨_, rfl, rfl⟩ := h
        obtain ⟨k1, k2⟩ := runP_n h2
        simp [k1, k2]
      · cases h
    · cases h
theorem l7Build_ev (code : List UInt8) (hl : code.length < 50000000) : EE 61 [S code] = some (buildR (specB code)) := by
  refine EE_plain T_l7Build (by decide) (Nat.le_of_ble_eq_true rfl) rfl ?_
  rw [show opt 61 = [] from rfl]
  simp only [bodyOf, Tryz.f61, SA]
  by_cases h200 : 200 < code.length
  · have hc : ((200 : Int) < (code.length : Int)) := by omega
    simp only [specB, h200, hc, buildR, RR, IA, PA, RA0, RA1, RA2, RA3, RA4, RA5, RA6, RA7, RA8, RA9, RA10, Nat.reduceAdd, Nat.reduceMul, Nat.reduceEqDiff, Nat.reduceLeDiff, Nat.reduceLT, Int.reduceToNat, Int.reduceLT, Int.reduceLE, Int.reduceEq, Int.reduceNeg, Int.reduceAdd, Int.reduceSub, Int.reduceMul, reduceIte]
    exact giveAll_two rfl
  · have hc : ¬ ((200 : Int) < (code.length : Int)) := by omega
    have hcut := l13Cut_ev code 32 (by omega)
    have hu : U 32 = .v (.int .u8 32) := rfl
    have hcl := cutL_len 32 code
    rw [hu] at hcut
    simp only [hc, hcut, strs_closed, RR, IA, PA, RA0, RA1, RA2, RA3, RA4, RA5, RA6, RA7, RA8, RA9, RA10, Nat.reduceAdd, Nat.reduceMul, Nat.reduceEqDiff, Nat.reduceLeDiff, Nat.reduceLT, Int.reduceToNat, Int.reduceLT, Int.reduceLE, Int.reduceEq, Int.reduceNeg, Int.reduceAdd, Int.reduceSub, Int.reduceMul, reduceIte]
    generalize hq : roundsE _ _ _ = q
    have key := fun hh => l7Build_loop 0 20 60 (cutL 32 code) (by omega) (cutL 32 code) 0 MX [] [] ⟨[], []⟩ (rs0 66 3) (rs0 9 1) (rs0 3 1) [.s true 0 [], .s true 0 [], .s true 0 []] [] _ _ _ q rfl (Nat.zero_le _) (lt_MX (by omega)) (Nat.le_refl _) (Nat.le_refl _) (Nat.le_refl _) (Nat.le_refl _) hh hq
    have hrw : ∀ σ, RwL σ [rs0 66 3, rs0 9 1, rs0 3 1] [.s true 0 [], .s true 0 [], .s true 0 []] [] := fun σ => .no (rs0_ok _ _) rfl (.no (rs0_ok _ _) rfl (.no (rs0_ok _ _) rfl .nil))
    have hnone : ∀ j ∈ own (.s true 0 []), False := fun j hj => by simp [own] at hj
    have hloop := key ⟨br0, ⟨Nat.le_refl _, trivial, fun t h => absurd h List.not_mem_nil⟩, rfl, rfl, hrw _, by simp, by decide, fun r h => absurd h List.not_mem_nil, rfl, rfl, by decide, by decide, List.not_mem_nil, rfl, rfl, lst_nil _ _ _ _, lst_nil _ _ _ _, fun j hj => (hnone j hj).elim, fun j hj => (hnone j hj).elim, rfl, rfl, by decide, by decide, List.not_mem_nil, by decide⟩
    clear key hq
    cases hrp : runP (cutL 32 code) ⟨[], []⟩ with
    | none =>
      rw [hrp] at hloop
      obtain ⟨e', σ', nx', rfl, h2, hs2, h3, h4, h5⟩ := hloop
      simp only [specB, h200, hrp, h2, hs2, h3, h4, h5, zeroN, buildR, RR, IA, PA, RA0, RA1, RA2, RA3, RA4, RA5, RA6, RA7, RA8, RA9, RA10, Nat.reduceAdd, Nat.reduceMul, Nat.reduceEqDiff, Nat.reduceLeDiff, Nat.reduceLT, Int.reduceToNat, Int.reduceLT, Int.reduceLE, Int.reduceEq, Int.reduceNeg, Int.reduceAdd, Int.reduceSub, Int.reduceMul, reduceIte]
      exact giveAll_two rfl
    | some w =>
      obtain ⟨p', hs, ls⟩ := w
      rw [hrp] at hloop
      obtain ⟨e', σ', nx', a, b, c, ds, Ls, rfl, hB⟩ := hloop
      simp only [List.nil_append] at hB
      have hbr := hB.br
      have ho := hbr.ok
      have h6 := hB.e6
      have hsb := hB.sb
      have h2 := hB.e2
      have hs2 := hB.s2
      have hst := hbr.an
      have hlp := hbr.bn
      obtain ⟨hcode, hlist⟩ := runP_code hrp ⟨Nat.le_refl _, trivial, fun t h => absurd h List.not_mem_nil⟩
      have hR := hB.rw
      obtain ⟨da, db, dc, La, Lb, Lc, rfl, rfl, ra, rb, rc⟩ := rw3 hR
      obtain ⟨st, lp⟩ := p'
      simp only at hst hlp
      by_cases hn1 : st.length = 1
      · have hd1 : ((a.n : Int) = 1) := by omega
        by_cases hl0 : lp = []
        · subst hl0
          obtain ⟨t, rfl⟩ : ∃ t, st = [t] := by
            match st, hn1 with
            | [t], _ => exact ⟨t, rfl⟩
          have hlt : ¬ ((0 : Int) < (b.n : Int)) := by rw [hlp]; simp
          have hw := hcode.hw t (by simp)
          have hlt2 : listT t = cutL 32 code := by simpa [codeP, allT] using hlist
          have htl := text_list t
          rw [hlt2] at htl
          have htx := l5Text_ev t hw (by omega)
          have htv := specTermValid_ev (textT t) (by omega)
          obtain ⟨rA, hab, rfl, rfl, haσ⟩ := ra.pos (by omega)
          have hac : a.cs = encN t := by rw [hbr.ac]; simp
          have hz2 : (0 : Int) < (a.n : Int) := by omega
          simp only [h6, hsb, h2, hs2, hd1, hlt, hz2, haσ, hac, ho.aS, htx, htv, len_rw rb, zeroN, TMA, RR, IA, PA, RA0, RA1, RA2, RA3, RA4, RA5, RA6, RA7, RA8, RA9, RA10, Nat.reduceAdd, Nat.reduceMul, Nat.reduceEqDiff, Nat.reduceLeDiff, Nat.reduceLT, Int.reduceToNat, Int.reduceLT, Int.reduceLE, Int.reduceEq, Int.reduceNeg, Int.reduceAdd, Int.reduceSub, Int.reduceMul, reduceIte]
          by_cases h80 : (textT t).length ≤ 80
          · have hrd := rdT_of hw h80
            have hne : cutL 32 code ≠ [] := by obtain ⟨x, y, e⟩ := cutL_cons 32 code; rw [e]; simp
            obtain ⟨n1, n2⟩ := runP_n hrp
            have n3 : (cutL 32 code).length ≠ 0 := by simpa using hne
            have e1 : specB code = some (t, hs, ls) := by
              unfold specB
              rw [if_neg h200, hrp]
              simp only
              rw [if_pos h80]
            rw [hrd, e1]
            simp only [Option.isSome_some, Bool.not_true, Bool.false_eq_true, if_false, buildR]
            rcases hB.h7 with ⟨g1, g2, g3⟩ | ⟨i7, g1, g2, g3, g4⟩
            · omega
            rcases hB.h8 with ⟨k1, k2, k3⟩ | ⟨i8, k1, k2, k3, k4⟩
            · omega
            have q7 := hB.o7 i7 (by rw [g2]; simp [own])
            have q8 := hB.o8 i8 (by rw [k2]; simp [own])
            rw [g2, k2]
            refine give4 (by simp only [closed, encN_closed]) rfl ?_ ?_ (nats_closed _) (nats_closed _) ?_
            · rw [upd, if_neg (fun h => q7.2.2.2.1 h)]; exact g3
            · rw [upd, if_neg (fun h => q8.2.2.2 h)]; exact k3
            · intro h
              subst h
              exact q7.2.2.2.2 (by rw [k2]; simp [own])
          · have hrd : rdT (textT t) = none := by unfold rdT; rw [if_pos (by omega)]
            have e1 : specB code = none := by
              unfold specB
              rw [if_neg h200, hrp]
              simp only
              rw [if_neg h80]
            rw [hrd, e1]
            simp only [Option.isSome_none, Bool.not_false, if_true, buildR]
            exact giveAll_two rfl
        · have hlt : ((0 : Int) < (b.n : Int)) := by
            have : lp.length ≠ 0 := by simpa using hl0
            omega
          have e1 : specB code = none := by
            unfold specB
            rw [if_neg h200, hrp]
            obtain ⟨t, rfl⟩ : ∃ t, st = [t] := by
              match st, hn1 with
              | [t], _ => exact ⟨t, rfl⟩
            cases lp with
            | nil => exact absurd rfl hl0
            | cons q l => rfl
          rw [e1]
          simp only [h6, hsb, h2, hs2, hd1, hlt, buildR, len_rw ra, len_rw rb, zeroN, TMA, RR, IA, PA, RA0, RA1, RA2, RA3, RA4, RA5, RA6, RA7, RA8, RA9, RA10, Nat.reduceAdd, Nat.reduceMul, Nat.reduceEqDiff, Nat.reduceLeDiff, Nat.reduceLT, Int.reduceToNat, Int.reduceLT, Int.reduceLE, Int.reduceEq, Int.reduceNeg, Int.reduceAdd, Int.reduceSub, Int.reduceMul, reduceIte]
          exact giveAll_two rfl
      · have hd1 : ¬ ((a.n : Int) = 1) := by omega
        have e1 : specB code = none := by
          unfold specB
          rw [if_neg h200, hrp]
          match st, hn1 with
          | [], _ => rfl
          | x :: y :: l, _ => rfl
        rw [e1]
        simp only [h6, hsb, h2, hs2, hd1, buildR, len_rw ra, len_rw rb, zeroN, TMA, RR, IA, PA, RA0, RA1, RA2, RA3, RA4, RA5, RA6, RA7, RA8, RA9, RA10, Nat.reduceAdd, Nat.reduceMul, Nat.reduceEqDiff, Nat.reduceLeDiff, Nat.reduceLT, Int.reduceToNat, Int.reduceLT, Int.reduceLE, Int.reduceEq, Int.reduceNeg, Int.reduceAdd, Int.reduceSub, Int.reduceMul, reduceIte]
        exact giveAll_two rfl
end
end Go.Proofs.YtegbkihgnofkfaaGreatDoor.Ev

/-
Code: what the reference says of code.
-/
namespace Go.Proofs.YtegbkihgnofkfaaGreatDoor.Ev
section
set_option linter.unusedVariables false
set_option linter.unusedSimpArgs false
open Go Go.RowKit
set_option linter.unusedVariables false
set_option linter.unusedSimpArgs false
theorem adopt4 {σ : Sto} {key : Nat} {x y : AV} {n m E sz : Nat} {cs ds : List AV} (hx : closed x = true) (hy : closed y = true) (hc : closedL cs = true) (hd : closedL ds = true) :
    adopt σ key (.t [x, .o E sz n cs, .o E sz m ds, y]) = some (.t [x, .w (key + 1) 0 n, .w (key + 1 + 1) 0 m, y], upd (upd σ (key + 1) (some (.row E sz n cs))) (key + 1 + 1) (some (.row E sz m ds))) := by
  simp only [adopt]
  rw [if_neg (by simp [closedL, closed])]
  simp only [List.length_cons, List.length_nil, adoptL, adopt1_closed hx, adopt1_closed hy, adopt1_o hc, adopt1_o hd, Option.bind_some, Option.map_some]
  rfl
theorem T_specTermOf : TT 44 = some (Tryz.f44, bodyOf Tryz.f44) := by kernel_rfl
theorem adopt_b4 (σ : Sto) (key : Nat) (t : T) (hs ls : List Nat) : adopt σ key (.t [.a (encN t), .o 3 1 hs.length (nats hs), .o 3 1 ls.length (nats ls), B true]) = some (.t [.a (encN t), .w (key + 1) 0 hs.length, .w (key + 1 + 1) 0 ls.length, B true], upd (upd σ (key + 1) (some (.row 3 1 hs.length (nats hs)))) (key + 1 + 1) (some (.row 3 1 ls.length (nats ls)))) :=
  adopt4 (by simp only [closed, encN_closed]) rfl (nats_closed _) (nats_closed _)
theorem adopt_z4 (σ : Sto) (key : Nat) : adopt σ key (.t [.a zeroN, .s true 0 [], .s true 0 [], B false]) = some (.t [.a zeroN, .s true 0 [], .s true 0 [], B false], σ) := rfl
theorem zeroN_len : zeroN.length = 3 := rfl
theorem zeroN_leaf : zeroN.all leafOk = true := rfl
theorem specB_wf {code : List UInt8} {t : T} {hs ls : List Nat} (h : specB code = some (t, hs, ls)) : WF t ∧ (textT t).length ≤ 80 := by
  obtain ⟨_, hw, _, _, hr⟩ := spec_impl h
  exact ⟨hw, (rdT_wf hr).2.2⟩
theorem specTermOf_ev (code : List UInt8) (hl : code.length < 50000000) : EE 44 [S code] = some (match specB code with | some (t, _, _) => .t [S (textT t), B true] | none => .t [S [], B false]) := by
  refine EE_plain T_specTermOf (by decide) (Nat.le_of_ble_eq_true rfl) rfl ?_
  rw [show opt 44 = [] from rfl]
  simp only [bodyOf, Tryz.f44, SA]
  have h := l7Build_ev code hl
  cases hs : specB code with
  | none =>
    rw [hs] at h
    simp only [buildR] at h
    simp only [h, adopt_z4, zeroN_len, zeroN_leaf, RR, IA, PA, RA0, RA1, RA2, RA3, RA4, RA5, RA6, RA7, RA8, RA9, RA10, Nat.reduceAdd, Nat.reduceMul, Nat.reduceEqDiff, Nat.reduceLeDiff, Nat.reduceLT, Int.reduceToNat, Int.reduceLT, Int.reduceLE, Int.reduceEq, Int.reduceNeg, Int.reduceAdd, Int.reduceSub, Int.reduceMul, reduceIte]
  | some w =>
    obtain ⟨t, hh, lv⟩ := w
    rw [hs] at h
    simp only [buildR] at h
    obtain ⟨hw, h80⟩ := specB_wf hs
    have htx := l5Text_ev t hw (by omega)
    simp only [h, htx, adopt_b4, TMA, RR, IA, PA, RA0, RA1, RA2, RA3, RA4, RA5, RA6, RA7, RA8, RA9, RA10, Nat.reduceAdd, Nat.reduceMul, Nat.reduceEqDiff, Nat.reduceLeDiff, Nat.reduceLT, Int.reduceToNat, Int.reduceLT, Int.reduceLE, Int.reduceEq, Int.reduceNeg, Int.reduceAdd, Int.reduceSub, Int.reduceMul, reduceIte]
theorem T_specCodeValid : TT 27 = some (Tryz.f27, bodyOf Tryz.f27) := by kernel_rfl
theorem specCodeValid_ev (code : List UInt8) (hl : code.length < 50000000) : EE 27 [S code] = some (B (specB code).isSome) := by
  refine EE_plain T_specCodeValid (by decide) (Nat.le_of_ble_eq_true rfl) rfl ?_
  rw [show opt 27 = [] from rfl]
  simp only [bodyOf, Tryz.f27, SA]
  have h := specTermOf_ev code hl
  cases hs : specB code with
  | none =>
    rw [hs] at h
    simp only at h
    simp only [h, adopt_two (show closed (S []) = true from rfl) (show closed (B false) = true from rfl), RR, IA, PA, RA0, RA1, RA2, RA3, RA4, RA5, RA6, RA7, RA8, RA9, RA10, Nat.reduceAdd, Nat.reduceMul, Nat.reduceEqDiff, Nat.reduceLeDiff, Nat.reduceLT, Int.reduceToNat, Int.reduceLT, Int.reduceLE, Int.reduceEq, Int.reduceNeg, Int.reduceAdd, Int.reduceSub, Int.reduceMul, reduceIte]
    rfl
  | some w =>
    obtain ⟨t, hh, lv⟩ := w
    rw [hs] at h
    simp only at h
    simp only [h, adopt_two (show closed (S (textT t)) = true from rfl) (show closed (B true) = true from rfl), RR, IA, PA, RA0, RA1, RA2, RA3, RA4, RA5, RA6, RA7, RA8, RA9, RA10, Nat.reduceAdd, Nat.reduceMul, Nat.reduceEqDiff, Nat.reduceLeDiff, Nat.reduceLT, Int.reduceToNat, Int.reduceLT, Int.reduceLE, Int.reduceEq, Int.reduceNeg, Int.reduceAdd, Int.reduceSub, Int.reduceMul, reduceIte]
    rfl
theorem T_specInstructionsOf : TT 11 = some (Tryz.f11, bodyOf Tryz.f11) := by kernel_rfl
theorem specInstructionsOf_ev (code : List UInt8) (hl : code.length < 50000000) : EE 11 [S code] = some (if (specB code).isSome = true then .o 9 1 (cutL 32 code).length (strs (cutL 32 code)) else .s true 0 []) := by
  refine EE_plain T_specInstructionsOf (by decide) (Nat.le_of_ble_eq_true rfl) rfl ?_
  rw [show opt 11 = [] from rfl]
  simp only [bodyOf, Tryz.f11, SA]
  have h := specCodeValid_ev code hl
  have hcut := l13Cut_ev code 32 (by omega)
  have hu : U 32 = .v (.int .u8 32) := rfl
  rw [hu] at hcut
  cases hs : (specB code).isSome
  · rw [hs] at h
    simp only [h, RR, IA, PA, RA0, RA1, RA2, RA3, RA4, RA5, RA6, RA7, RA8, RA9, RA10, Nat.reduceAdd, Nat.reduceMul, Nat.reduceEqDiff, Nat.reduceLeDiff, Nat.reduceLT, Int.reduceToNat, Int.reduceLT, Int.reduceLE, Int.reduceEq, Int.reduceNeg, Int.reduceAdd, Int.reduceSub, Int.reduceMul, reduceIte]
  · rw [hs] at h
    simp only [h, hcut, strs_closed, RR, IA, PA, RA0, RA1, RA2, RA3, RA4, RA5, RA6, RA7, RA8, RA9, RA10, Nat.reduceAdd, Nat.reduceMul, Nat.reduceEqDiff, Nat.reduceLeDiff, Nat.reduceLT, Int.reduceToNat, Int.reduceLT, Int.reduceLE, Int.reduceEq, Int.reduceNeg, Int.reduceAdd, Int.reduceSub, Int.reduceMul, reduceIte]
    exact give_row (by simp [upd]) (strs_closed _)
end
end Go.Proofs.YtegbkihgnofkfaaGreatDoor.Ev
