/-
Texts Vi to Vk of the work.
-/
import Derived.Test.YtegbkihgnofkfaaGreatDoorZVh
/-
Code: the implementation's loop over all instructions; TermOf.
-/
namespace Go.Proofs.YtegbkihgnofkfaaGreatDoor.Ev
section
set_option linter.unusedVariables false
set_option linter.unusedSimpArgs false
open Go Go.RowKit
set_option linter.unusedVariables false
set_option linter.unusedSimpArgs false
theorem TermOf_endfew (kL : Nat) (L : List (List UInt8)) (hL : L.length < 100000000) (x : UInt8) (r : List (List UInt8)) (i n : Nat) (st : List T) (c v : UInt8) (op : List (UInt8 × UInt8)) (ids : List Nat) (e : Nat → AV) (σ : Sto) (nx : Nat) (q : Option (Ex × St))
    (hd : L.drop i = [x] :: r) (hop : op.length + 1 ≤ i) (hI : SI kL L i st ((c, v) :: op) ids e σ nx)
    (hq : roundsE (evC II EE (withOpt [oPl 52] pf) MX (bodyL Tryz.f36 0)) (n + 1) ⟨e, σ, nx⟩ = q) (he : endM [x] = true) (hfew : st.length < 2) :
    ∃ e' σ' nx', q = some (.ret, ⟨e', σ', nx'⟩) ∧ e' 2 = S [] ∧ e' 3 = B false := by
  obtain ⟨hi, hx, hd'⟩ := strs_drop_head hd
  rw [rounds_rd] at hq
  have hc : ((i : Int) < (L.length : Int)) := by omega
  have hz : (0 : Int) ≤ (i : Int) := by omega
  have hhd : ((strs L).drop i).head? = some (S [x]) := by rw [strs_drop, hd]; rfl
  have hw : IntKind.i64.wrap ((i : Int) + 1) = ((i + 1 : Nat) : Int) := by rw [wrap64 (by omega) (by omega)]; rfl
  have h20 := hI.e20
  have h21 := hI.e21
  have h22 := hI.e22
  have hsL := hI.sL
  have h5 := hI.h5
  have hbe : EE 15 [S [x]] = some (B false) := begins_ev [x]
  have hen := isEnd_ev [x]
  rw [he] at hen
  have har := arity_ev x
  have ha := end_ar he
  rw [ha] at har
  simp only [bodyL, bodyOf, Tryz.f36, SA, loops, List.nil_append, List.append_nil, List.cons_append, List.getD_cons_zero, List.getD_cons_succ] at hq
  have hs : ∀ σ', lenK σ' (e 4) (some ⟨.sl 78, 1, 24, [.slice none 0 0]⟩) = some (N st.length, σ') := fun σ' => by
    rcases hI.h4 with ⟨h, rfl, rfl⟩ | ⟨id, k, k', cl, t, r, o, rfl, h2, h3, _⟩
    · rw [h]; rfl
    · rw [h2]; rfl
  rcases h5 with ⟨_, h, _⟩ | ⟨id5, n5, cs5, hid5, h5e, hσ5, hl5, hn5, ht5⟩
  · cases h
  rw [opS_cons, ← strs_append, Nat.mul_one] at ht5
  obtain ⟨hy, hz5⟩ := drop_last ht5 (by rw [strs_len, opS_len]; rfl)
  simp only [List.length_cons, Nat.add_sub_cancel] at hy hz5 hn5 h5e
  have hlo : ¬ (((op.length + 1 : Nat) : Int) = 0) := by omega
  have hwo : IntKind.i64.wrap (((op.length + 1 : Nat) : Int) - 1) = ((op.length : Nat) : Int) := by rw [wrap64 (by omega) (by omega)]; omega
  have ho1 : (0 : Int) ≤ ((op.length : Nat) : Int) := by omega
  have ho2 : ((op.length : Nat) : Int) < ((op.length + 1 : Nat) : Int) := by omega
  have ho3 : ((op.length : Nat) : Int) ≤ ((op.length + 1 : Nat) : Int) := by omega
  have hlm : ((st.length : Int) < 2) := by omega
  have hne5 : ¬ (id5 = nx + 4 + 12 + 8 + 64 + 8) := by omega
  simp only [h20, h21, h22, hsL, hc, hz, hhd, hbe, hen, har, hs, h5e, hσ5, hne5, hlo, hwo, ho1, ho2, ho3, hy, hlm, TMA, List.length_cons, Int.toNat_natCast, Nat.mul_one, Nat.zero_add, cut_w_lo, cut_w_hi, RR, IA, PA, RA0, RA1, RA2, RA3, RA4, RA5, RA6, RA7, RA8, RA9, RA10, Nat.reduceAdd, Nat.reduceMul, Nat.reduceEqDiff, Nat.reduceLeDiff, Nat.reduceLT, Int.reduceToNat, Int.reduceLT, Int.reduceLE, Int.reduceEq, Int.reduceNeg, Int.reduceAdd, Int.reduceSub, Int.reduceMul, reduceIte] at hq
  exact ⟨_, _, _, hq.symm, rfl, rfl⟩
theorem arM_le (x : UInt8) : ∃ m : Nat, arM [x] = (m : Int) ∧ m ≤ 2 ∧ (isOne x = true → m = 1) ∧ (isOne x = false → isTwo x = true → m = 2) ∧ (isOne x = false → isTwo x = false → m = 0) := by
  cases h1 : isOne x
  · cases h2 : isTwo x
    · exact ⟨0, by simp [arM, h1, h2], by omega, by simp, by simp, by simp⟩
    · exact ⟨2, by simp [arM, h1, h2], by omega, by simp, by simp, by simp⟩
  · exact ⟨1, by simp [arM, h1], by omega, by simp, by simp, by simp⟩
theorem TermOf_loop (kL : Nat) (L : List (List UInt8)) (hL : L.length < 100000000) (av : AV) : ∀ (r : List (List UInt8)) (i n : Nat) (st : List T) (op : List (UInt8 × UInt8)) (ids : List Nat) (e : Nat → AV) (σ : Sto) (nx : Nat) (q : Option (Ex × St)),
    L.drop i = r → i ≤ L.length → r.length < n → st.length ≤ i → op.length ≤ i → SI kL L i st op ids e σ nx → e 0 = av →
    roundsE (evC II EE (withOpt [oPl 52] pf) MX (bodyL Tryz.f36 0)) n ⟨e, σ, nx⟩ = q → SR kL L av q (runI r st op) := by
  intro r
  induction r with
  | nil =>
    intro i n st op ids e σ nx q hd hiL hn hst hop hI h0 hq
    have hlen : L.length ≤ i := by simpa using hd
    have hiE : i = L.length := by omega
    subst hiE
    obtain ⟨k, rfl⟩ : ∃ k, n = k + 1 := ⟨n - 1, by omega⟩
    rw [rounds_rd] at hq
    have hc : ¬ ((L.length : Int) < (L.length : Int)) := by omega
    have h21 := hI.e21
    have h22 := hI.e22
    simp only [bodyL, bodyOf, Tryz.f36, SA, loops, List.nil_append, List.append_nil, List.cons_append, List.getD_cons_zero, List.getD_cons_succ] at hq
    simp only [h21, h22, hc, RR, IA, PA, RA0, RA1, RA2, RA3, RA4, RA5, RA6, RA7, RA8, RA9, RA10, Nat.reduceAdd, Nat.reduceMul, Nat.reduceEqDiff, Nat.reduceLeDiff, Nat.reduceLT, Int.reduceToNat, Int.reduceLT, Int.reduceLE, Int.reduceEq, Int.reduceNeg, Int.reduceAdd, Int.reduceSub, Int.reduceMul, reduceIte] at hq
    have hkLn := hI.kLn
    exact ⟨_, _, _, ids, hq.symm, ⟨hI.e20, hI.sL, by omega, h21, h22, hI.h4, hI.h5.frame (fun _ _ => rfl) (by omega), fun j hj => by
      have := hI.idn j hj
      exact ⟨by omega, this.2.1, this.2.2⟩, hI.o5⟩, h0⟩
  | cons x r ih =>
    intro i n st op ids e σ nx q hd hiL hn hst hop hI h0 hq
    obtain ⟨hi, hx, hd'⟩ := strs_drop_head hd
    obtain ⟨k, rfl⟩ : ∃ k, n = k + 1 := ⟨n - 1, by omega⟩
    have hk : r.length < k := by simpa using hn
    cases hb : begM x
    · rcases x with _ | ⟨a, _ | ⟨b, x⟩⟩
      · simp only [runI, doI]
        exact TermOf_bad kL L hL [] r i k st op ids e σ nx q hd hop hI hq hb (.inl rfl)
      · cases he : endM [a]
        · have hne : ¬ (a = 93 ∨ a = 125) := by simpa [endM] using he
          obtain ⟨m, ha, hm2, hm1, hmt, hm0⟩ := arM_le a
          simp only [runI, doI, if_neg hne]
          have step : ∀ (t' : T), m ≤ st.length → (∀ pc, AllP pc (st.take m).reverse → IsP (.p [S [a], S [], .s false m pc]) t') → SR kL L av q (runI r (t' :: st.drop m) op) := by
            intro t' hm hp
            by_cases hs : st = []
            · subst hs
              have hm00 : m = 0 := by simpa using hm
              subst hm00
              obtain ⟨e', σ', nx', ids', h1, h2, h3⟩ := TermOf_first kL L hL a r i k op ids e σ nx q av hd hI h0 hq he ha t' (hp [] (by simpa using AllP.nil))
              exact ih (i + 1) k _ _ _ _ _ _ q hd' (by omega) hk (by simp) (by omega) h2 h3 h1
            · obtain ⟨e', σ', nx', ids', h1, h2, h3⟩ := TermOf_one kL L hL a r i k st op ids e σ nx q av hd hst hop hI h0 hq he m ha hm hm2 hs t' hp
              exact ih (i + 1) k _ _ _ _ _ _ q hd' (by omega) hk (by simp only [List.length_cons, List.length_drop]; omega) (by omega) h2 h3 h1
          cases h1 : isOne a
          · cases h2 : isTwo a
            · obtain rfl := hm0 h1 h2
              simp only [Bool.false_eq_true, if_false]
              refine step (leafI a) (Nat.zero_le _) fun pc hpc => ?_
              have : pc = [] := by simpa using (by simpa using hpc : AllP pc []).none
              subst this
              unfold leafI
              split
              · exact .dig false a
              · exact .var false a
            · obtain rfl := hmt h1 h2
              simp only [Bool.false_eq_true, if_false, if_true]
              match st, hst, hI, step with
              | [], hst, hI, step => exact TermOf_few kL L hL a r i k [] op ids e σ nx q hd hst hI hq he 2 ha (by simp)
              | [t], hst, hI, step => exact TermOf_few kL L hL a r i k [t] op ids e σ nx q hd hst hI hq he 2 ha (by simp)
              | t :: u :: st, hst, hI, step =>
                refine step (.two a u t) (by simp) fun pc hpc => ?_
                obtain ⟨p1, p2, rfl, e2, e3⟩ := AllP.two (by simpa using hpc)
                exact .two false a e2 e3
          · obtain rfl := hm1 h1
            simp only [if_true]
            match st, hst, hI, step with
            | [], hst, hI, step => exact TermOf_few kL L hL a r i k [] op ids e σ nx q hd hst hI hq he 1 ha (by simp)
            | t :: st, hst, hI, step =>
              refine step (.one a t) (by simp) fun pc hpc => ?_
              obtain ⟨p1, rfl, e2⟩ := AllP.one (by simpa using hpc)
              exact .one false a e2
        · have hee : a = 93 ∨ a = 125 := by simpa [endM] using he
          simp only [runI, doI, if_pos hee]
          cases op with
          | nil => exact TermOf_bad kL L hL [a] r i k st [] ids e σ nx q hd hop hI hq hb (.inr (.inr ⟨a, rfl, he, rfl⟩))
          | cons cv op =>
            obtain ⟨c, v⟩ := cv
            simp only [List.length_cons] at hop
            match st, hst, hI with
            | [], hst, hI => exact TermOf_endfew kL L hL a r i k [] c v op ids e σ nx q hd hop hI hq he (by simp)
            | [t], hst, hI => exact TermOf_endfew kL L hL a r i k [t] c v op ids e σ nx q hd hop hI hq he (by simp)
            | t :: u :: st, hst, hI =>
              obtain ⟨e', σ', nx', ids', h1, h2, h3⟩ := TermOf_end kL L hL a r i k t u st c v op ids e σ nx q av hd (by simpa using hst) hop hI h0 hq he
              exact ih (i + 1) k _ _ _ _ _ _ q hd' (by omega) hk (by simp only [List.length_cons] at hst ⊢; omega) (by omega) h2 h3 h1
      · have hd2 : doI (a :: b :: x) st op = none := by
          cases x with
          | nil =>
            have : ¬ (a = 91 ∨ a = 123) := by simpa [begM] using hb
            simp only [doI, if_neg this]
          | cons y x => rfl
        simp only [runI, hd2]
        exact TermOf_bad kL L hL (a :: b :: x) r i k st op ids e σ nx q hd hop hI hq hb (.inr (.inl (by simp)))
    · obtain ⟨a, v, e', σ', nx', rfl, hav, h1, h2, h3⟩ := TermOf_beg kL L hL x r i k st op ids e σ nx q av hd hop hI h0 hq hb
      simp only [runI, doI, if_pos hav]
      exact ih (i + 1) k _ _ _ _ _ _ q hd' (by omega) hk (by omega) (by simp only [List.length_cons]; omega) h2 h3 h1
end
end Go.Proofs.YtegbkihgnofkfaaGreatDoor.Ev

/-
Code: the implementation's TermOf, CodeValid, InstructionsOf.
-/
namespace Go.Proofs.YtegbkihgnofkfaaGreatDoor.Ev
section
set_option linter.unusedVariables false
set_option linter.unusedSimpArgs false
open Go Go.RowKit
set_option linter.unusedVariables false
set_option linter.unusedSimpArgs false
theorem call_text {σ : Sto} {key k k' : Nat} {t : T} (o : Obj1 σ k k' t) (hw : WFL t) (hl : (textT t).length ≤ 1000000) :
    callOp EE (withOpt [oPl 52] pf) σ key 52 [.r k 0] = some (S (textT t), σ) := by
  have hp : withOpt [oPl 52] pf 52 = 0 := withOpt_pl_on (by decide) (by rfl)
  unfold callOp
  rw [if_neg (by rw [hp]; decide), if_neg (by rw [hp]; decide), if_neg (by rw [hp]; decide)]
  have h2 : deepC (deep σ 8) [.r k 0] = some ([o.ptr], [k, k']) := by
    simp only [deepC, o.deep 5, Option.bind_some, Option.map_some, List.append_nil]
  rw [h2]
  have h3 := text_evL o.hp hw hl
  simp only [Option.bind_some, Obj1.ptr, h3]
  rw [if_pos (.inr (by rfl))]
  rfl
theorem implTermOf_ev (code : List UInt8) (hl : code.length < 50000000) : EE 36 [S code] = some (match implB code with | some t => .t [S (textT t), B true] | none => .t [S [], B false]) := by
  refine EE_plain T_implTermOf (by decide) (Nat.le_of_ble_eq_true rfl) rfl ?_
  rw [show opt 36 = [oPl 52] from rfl]
  simp only [bodyOf, Tryz.f36, SA]
  by_cases h200 : 200 < code.length
  · have hc : ((200 : Int) < (code.length : Int)) := by omega
    simp only [implB, h200, hc, TMA, RR, IA, PA, RA0, RA1, RA2, RA3, RA4, RA5, RA6, RA7, RA8, RA9, RA10, Nat.reduceAdd, Nat.reduceMul, Nat.reduceEqDiff, Nat.reduceLeDiff, Nat.reduceLT, Int.reduceToNat, Int.reduceLT, Int.reduceLE, Int.reduceEq, Int.reduceNeg, Int.reduceAdd, Int.reduceSub, Int.reduceMul, reduceIte]
  · have hc : ¬ ((200 : Int) < (code.length : Int)) := by omega
    have hsp := split_ev code 32 (by omega)
    have hcl := cutL_len 32 code
    simp only [hc, hsp, strs_closed, TMA, RR, IA, PA, RA0, RA1, RA2, RA3, RA4, RA5, RA6, RA7, RA8, RA9, RA10, Nat.reduceAdd, Nat.reduceMul, Nat.reduceEqDiff, Nat.reduceLeDiff, Nat.reduceLT, Int.reduceToNat, Int.reduceLT, Int.reduceLE, Int.reduceEq, Int.reduceNeg, Int.reduceAdd, Int.reduceSub, Int.reduceMul, reduceIte]
    generalize hq : roundsE _ _ _ = q
    have hloop := TermOf_loop 40 (cutL 32 code) (by omega) (S code) (cutL 32 code) 0 MX [] [] [] _ _ _ q rfl (Nat.zero_le _) (lt_MX (by omega)) (Nat.le_refl _) (Nat.le_refl _) ⟨rfl, rfl, by decide, rfl, rfl, .inl ⟨rfl, rfl, rfl⟩, .inl ⟨rfl, rfl, rfl⟩, fun j hj => absurd hj List.not_mem_nil, by show 40 ∉ []; simp⟩ rfl hq
    clear hq
    cases hr : runI (cutL 32 code) [] [] with
    | none =>
      rw [hr] at hloop
      obtain ⟨e', σ', nx', rfl, h2, h3⟩ := hloop
      simp only [implB, h200, hr, h2, h3, TMA, RR, IA, PA, RA0, RA1, RA2, RA3, RA4, RA5, RA6, RA7, RA8, RA9, RA10, Nat.reduceAdd, Nat.reduceMul, Nat.reduceEqDiff, Nat.reduceLeDiff, Nat.reduceLT, Int.reduceToNat, Int.reduceLT, Int.reduceLE, Int.reduceEq, Int.reduceNeg, Int.reduceAdd, Int.reduceSub, Int.reduceMul, reduceIte]
    | some w =>
      obtain ⟨st, op⟩ := w
      rw [hr] at hloop
      obtain ⟨e', σ', nx', ids, rfl, hI, h0⟩ := hloop
      have hls : ∀ σ', lenK σ' (e' 4) (some ⟨.sl 78, 1, 24, [.slice none 0 0]⟩) = some (N st.length, σ') := fun σ' => by
        rcases hI.h4 with ⟨h, rfl, rfl⟩ | ⟨id, k, k', cl, t, r, o, rfl, h2, h3, _⟩
        · rw [h]; rfl
        · rw [h2]; rfl
      by_cases hn1 : st.length = 1
      · by_cases ho0 : op = []
        · subst ho0
          obtain ⟨t, rfl⟩ : ∃ t, st = [t] := by
            match st, hn1 with
            | [t], _ => exact ⟨t, rfl⟩
          rcases hI.h4 with ⟨_, h, _⟩ | ⟨id, k, k', cl, t0, r0, o, hst0, h4, hσ, hcl2, rfl, n1, n2, n3⟩
          · cases h
          cases hst0
          have hcl0 : cl = [] := by simpa using hcl2.none
          subst hcl0
          have hwl := (runI_l hr (fun t h => absurd h List.not_mem_nil) (fun q h => absurd h List.not_mem_nil)).1 t (by simp)
          have hsz := runI_sz hr
          have hsz2 : (textT t).length ≤ 5 * (cutL 32 code).length := by simpa [szT] using hsz
          have hco := implCodeOf_ev (textT t) (by omega)
          simp only [List.nil_append] at hσ
          simp only [h4, hσ, len_lsp hI.h5, List.length_nil, List.length_cons, TMA, RR, IA, PA, RA0, RA1, RA2, RA3, RA4, RA5, RA6, RA7, RA8, RA9, RA10, Nat.reduceAdd, Nat.reduceMul, Nat.reduceEqDiff, Nat.reduceLeDiff, Nat.reduceLT, Int.reduceToNat, Int.reduceLT, Int.reduceLE, Int.reduceEq, Int.reduceNeg, Int.reduceAdd, Int.reduceSub, Int.reduceMul, reduceIte]
          rw [call_text o hwl (by omega)]
          have himp : implB code = if codeT (textT t) = some code then some t else none := by
            unfold implB
            rw [if_neg h200, hr]
          cases hcd : codeT (textT t) with
          | none =>
            rw [hcd] at hco
            simp only at hco
            rw [himp, hcd, if_neg (by intro h; cases h)]
            simp only [hco, adopt_two (show closed (S []) = true from rfl) (show closed (B false) = true from rfl), TMA, RR, IA, PA, RA0, RA1, RA2, RA3, RA4, RA5, RA6, RA7, RA8, RA9, RA10, Nat.reduceAdd, Nat.reduceMul, Nat.reduceEqDiff, Nat.reduceLeDiff, Nat.reduceLT, Int.reduceToNat, Int.reduceLT, Int.reduceLE, Int.reduceEq, Int.reduceNeg, Int.reduceAdd, Int.reduceSub, Int.reduceMul, reduceIte]
          | some c =>
            rw [hcd] at hco
            simp only at hco
            rw [himp, hcd]
            have hcA : ∀ (σ : Sto) (key : Nat), adopt σ key (.t [S c, B true]) = some (.t [S c, B true], σ) := fun σ key => adopt_two rfl rfl
            by_cases hcc : c = code
            · subst hcc
              have e1 : (c == c) = true := by simp
              simp only [hco, hcA, h0, e1, TMA, RR, IA, PA, RA0, RA1, RA2, RA3, RA4, RA5, RA6, RA7, RA8, RA9, RA10, Nat.reduceAdd, Nat.reduceMul, Nat.reduceEqDiff, Nat.reduceLeDiff, Nat.reduceLT, Int.reduceToNat, Int.reduceLT, Int.reduceLE, Int.reduceEq, Int.reduceNeg, Int.reduceAdd, Int.reduceSub, Int.reduceMul, reduceIte]
            · have e1 : (c == code) = false := by simp [hcc]
              rw [if_neg (by intro h; exact hcc (Option.some.inj h))]
              simp only [hco, hcA, h0, e1, TMA, RR, IA, PA, RA0, RA1, RA2, RA3, RA4, RA5, RA6, RA7, RA8, RA9, RA10, Nat.reduceAdd, Nat.reduceMul, Nat.reduceEqDiff, Nat.reduceLeDiff, Nat.reduceLT, Int.reduceToNat, Int.reduceLT, Int.reduceLE, Int.reduceEq, Int.reduceNeg, Int.reduceAdd, Int.reduceSub, Int.reduceMul, reduceIte]
        · have himp : implB code = none := by
            unfold implB
            rw [if_neg h200, hr]
            obtain ⟨t, rfl⟩ : ∃ t, st = [t] := by
              match st, hn1 with
              | [t], _ => exact ⟨t, rfl⟩
            cases op with
            | nil => exact absurd rfl ho0
            | cons q l => rfl
          have hon : ((0 : Int) < (op.length : Int)) := by
            have : op.length ≠ 0 := by simpa using ho0
            omega
          have hd1 : ((st.length : Int) = 1) := by omega
          rw [himp]
          simp only [hls, hd1, hon, len_lsp hI.h5, TMA, RR, IA, PA, RA0, RA1, RA2, RA3, RA4, RA5, RA6, RA7, RA8, RA9, RA10, Nat.reduceAdd, Nat.reduceMul, Nat.reduceEqDiff, Nat.reduceLeDiff, Nat.reduceLT, Int.reduceToNat, Int.reduceLT, Int.reduceLE, Int.reduceEq, Int.reduceNeg, Int.reduceAdd, Int.reduceSub, Int.reduceMul, reduceIte]
      · have himp : implB code = none := by
          unfold implB
          rw [if_neg h200, hr]
          match st, hn1 with
          | [], _ => rfl
          | x :: y :: l, _ => rfl
        have hd1 : ¬ ((st.length : Int) = 1) := by omega
        rw [himp]
        simp only [hls, hd1, TMA, RR, IA, PA, RA0, RA1, RA2, RA3, RA4, RA5, RA6, RA7, RA8, RA9, RA10, Nat.reduceAdd, Nat.reduceMul, Nat.reduceEqDiff, Nat.reduceLeDiff, Nat.reduceLT, Int.reduceToNat, Int.reduceLT, Int.reduceLE, Int.reduceEq, Int.reduceNeg, Int.reduceAdd, Int.reduceSub, Int.reduceMul, reduceIte]
end
end Go.Proofs.YtegbkihgnofkfaaGreatDoor.Ev

/-
Code: the laws of TermOf and CodeValid.
-/
namespace Go.Proofs.YtegbkihgnofkfaaGreatDoor.Ev
section
set_option linter.unusedVariables false
set_option linter.unusedSimpArgs false
open Go Go.RowKit
set_option linter.unusedVariables false
set_option linter.unusedSimpArgs false
theorem adopt_sb (σ : Sto) (key : Nat) (l : List UInt8) (b : Bool) : adopt σ key (.t [S l, B b]) = some (.t [S l, B b], σ) := adopt_two rfl rfl
theorem T_implCodeValid : TT 21 = some (Tryz.f21, bodyOf Tryz.f21) := by kernel_rfl
theorem implCodeValid_ev (code : List UInt8) (hl : code.length < 50000000) : EE 21 [S code] = some (B (specB code).isSome) := by
  refine EE_plain T_implCodeValid (by decide) (Nat.le_of_ble_eq_true rfl) rfl ?_
  rw [show opt 21 = [] from rfl]
  simp only [bodyOf, Tryz.f21, SA]
  have h := implTermOf_ev code hl
  rw [impl_eq] at h
  cases hs : specB code with
  | none =>
    rw [hs] at h
    simp only [Option.map_none] at h
    simp only [h, adopt_sb, RR, IA, PA, RA0, RA1, RA2, RA3, RA4, RA5, RA6, RA7, RA8, RA9, RA10, Nat.reduceAdd, Nat.reduceMul, Nat.reduceEqDiff, Nat.reduceLeDiff, Nat.reduceLT, Int.reduceToNat, Int.reduceLT, Int.reduceLE, Int.reduceEq, Int.reduceNeg, Int.reduceAdd, Int.reduceSub, Int.reduceMul, reduceIte]
    rfl
  | some w =>
    obtain ⟨t, hh, lv⟩ := w
    rw [hs] at h
    simp only [Option.map_some] at h
    simp only [h, adopt_sb, RR, IA, PA, RA0, RA1, RA2, RA3, RA4, RA5, RA6, RA7, RA8, RA9, RA10, Nat.reduceAdd, Nat.reduceMul, Nat.reduceEqDiff, Nat.reduceLeDiff, Nat.reduceLT, Int.reduceToNat, Int.reduceLT, Int.reduceLE, Int.reduceEq, Int.reduceNeg, Int.reduceAdd, Int.reduceSub, Int.reduceMul, reduceIte]
    rfl
end
end Go.Proofs.YtegbkihgnofkfaaGreatDoor.Ev
