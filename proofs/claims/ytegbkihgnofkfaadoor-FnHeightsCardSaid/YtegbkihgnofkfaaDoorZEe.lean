/-
Texts Ee to Ee of the work.
-/
import Derived.Test.YtegbkihgnofkfaaDoorZEd
/-
Drawn laws: the loop over the instructions (written by wip/tools/gen_ed.py).
-/
namespace Go.Proofs.YtegbkihgnofkfaaDoor.Ev
section
set_option linter.unusedVariables false
set_option linter.unusedSimpArgs false
open Go Go.RowKit
set_option linter.unusedVariables false
set_option linter.unusedSimpArgs false
/-- The state of the loop: i instructions done, p: what is built of them. -/
structure HS (hid lid iid : Nat) (L : List (List UInt8)) (Hs Ls : List Nat) (σ : Sto) (i h v : Nat) (e : Nat → AV) : Prop where
  e4 : e 4 = .w hid 0 L.length
  e6 : e 6 = .w lid 0 L.length
  e13 : e 13 = N h
  e14 : e 14 = N v
  e104 : e 104 = .w iid 0 L.length
  e105 : e 105 = N L.length
  e106 : e 106 = N i
  r4 : σ hid = some (.row 3 1 L.length (nats Hs))
  r6 : σ lid = some (.row 3 1 L.length (nats Ls))
  ri : σ iid = some (.row 9 1 L.length (strs L))
theorem nats_head {l : List Nat} {i x : Nat} {r : List Nat} (h : l.drop i = x :: r) : ((nats l).drop i).head? = some (N (x : Int)) := by
  have : (nats l).drop i = nats (l.drop i) := by simp [nats]
  rw [this, h]
  rfl
set_option maxHeartbeats 8000000 in
theorem hs_one {hid lid iid : Nat} {L : List (List UInt8)} {Hs Ls : List Nat} {σ : Sto} {i h v : Nat} {e : Nat → AV} {nx n : Nat} {q : Option (Ex × St)} (a : UInt8) (ha : a = 83 ∨ a = 77 ∨ a = 73 ∨ a = 78 ∨ a = 82 ∨ a = 67 ∨ a = 80) {r : List (List UInt8)} {hr lr : List Nat}
    (hS : HS hid lid iid L Hs Ls σ i h v e) (hL : L.drop i = [a] :: r) (hH : Hs.drop i = h :: hr) (hl : Ls.drop i = v :: lr) (hp : 0 < h) (hn : L.length ≤ 1000) (hb : h ≤ 2000) (vb : v ≤ 2000)
    (hq : roundsE (evC II EE (withOpt [] pf) MX (bodyL Tryd.f4 0)) (n + 1) ⟨e, σ, nx⟩ = q) :
    ∃ e' nx', roundsE (evC II EE (withOpt [] pf) MX (bodyL Tryd.f4 0)) n ⟨e', σ, nx'⟩ = q ∧ HS hid lid iid L Hs Ls σ (i + 1) h v e' ∧ (∀ t, t < 13 → e' t = e t) := by
  rw [rounds_rd] at hq
  have hlt : i < L.length := by
    have := congrArg List.length hL
    simp only [List.length_drop, List.length_cons] at this
    omega
  have hc : ((i : Int) < (L.length : Int)) := by omega
  have hz : (0 : Int) ≤ (i : Int) := by omega
  have hw : IntKind.i64.wrap ((i : Int) + 1) = ((i + 1 : Nat) : Int) := by rw [wrap64 (by omega) (by omega)]; rfl
  have hd : ((strs L).drop i).head? = some (S [a]) := by
    rw [strs_drop, hL]
    rfl
  have hdh := nats_head hH
  have hdl := nats_head hl
  have hsl : (strs L).length = L.length := strs_len L
  have h4 := hS.e4
  have h6 := hS.e6
  have h13 := hS.e13
  have h14 := hS.e14
  have h104 := hS.e104
  have h105 := hS.e105
  have h106 := hS.e106
  have r4 := hS.r4
  have r6 := hS.r6
  have ri := hS.ri
  have p1 : ¬ (((h : Nat) : Int) < 1) := by omega
  have hee : decide (((h : Nat) : Int) = ((h : Nat) : Int)) = true := by simp
  have lee : decide (((v : Nat) : Int) = ((v : Nat) : Int)) = true := by simp
  have va83 : (((83 : UInt8).toNat : Nat) : Int) = 83 := rfl
  have va77 : (((77 : UInt8).toNat : Nat) : Int) = 77 := rfl
  have va73 : (((73 : UInt8).toNat : Nat) : Int) = 73 := rfl
  have va78 : (((78 : UInt8).toNat : Nat) : Int) = 78 := rfl
  have va82 : (((82 : UInt8).toNat : Nat) : Int) = 82 := rfl
  have va67 : (((67 : UInt8).toNat : Nat) : Int) = 67 := rfl
  have va80 : (((80 : UInt8).toNat : Nat) : Int) = 80 := rfl
  simp only [bodyL, bodyOf, Tryd.f4, SA, loops, List.nil_append, List.append_nil, List.cons_append, List.getD_cons_zero, List.getD_cons_succ] at hq
  rcases ha with rfl | rfl | rfl | rfl | rfl | rfl | rfl
  all_goals
    simp only [h4, h6, h13, h14, h104, h105, h106, r4, r6, ri, hc, hz, hw, hd, hdh, hdl, hsl, p1, hee, lee, va83, va77, va73, va78, va82, va67, va80,  Int.toNat_natCast, Nat.mul_one, Nat.zero_add, RR, IA, PA, RA0, RA1, RA2, RA3, RA4, RA5, RA6, RA7, RA8, RA9, RA10, Nat.reduceAdd, Nat.reduceMul, Nat.reduceEqDiff, Nat.reduceLeDiff, Nat.reduceLT, Int.reduceToNat, Int.reduceLT, Int.reduceLE, Int.reduceEq, Int.reduceNeg, Int.reduceAdd, Int.reduceSub, Int.reduceMul, reduceIte] at hq
    refine ⟨_, _, hq, ⟨h4, h6, ?_, ?_, h104, h105, rfl, r4, r6, ri⟩, fun t ht => ?_⟩
    · first | exact h13 | rfl
    · first | exact h14 | rfl
    · have hN : ∀ k, 13 ≤ k → ¬ (t = k) := fun k hk => by omega
      simp only [hN 106 (by decide), hN 174 (by decide), hN 173 (by decide), hN 172 (by decide), hN 171 (by decide), hN 170 (by decide), hN 169 (by decide), hN 168 (by decide), hN 167 (by decide), hN 166 (by decide), hN 165 (by decide), hN 164 (by decide), hN 163 (by decide), hN 162 (by decide), hN 161 (by decide), hN 160 (by decide), hN 159 (by decide), hN 158 (by decide), hN 157 (by decide), hN 156 (by decide), hN 153 (by decide), hN 152 (by decide), hN 151 (by decide), hN 150 (by decide), hN 149 (by decide), hN 148 (by decide), hN 147 (by decide), hN 146 (by decide), hN 17 (by decide), hN 145 (by decide), hN 155 (by decide), hN 154 (by decide), hN 112 (by decide), hN 111 (by decide), hN 15 (by decide), hN 16 (by decide), hN 110 (by decide), hN 109 (by decide), hN 108 (by decide), hN 107 (by decide), hN 13 (by decide), hN 14 (by decide), hN 143 (by decide), hN 144 (by decide), hN 113 (by decide), hN 114 (by decide), hN 126 (by decide), hN 127 (by decide), hN 131 (by decide), hN 132 (by decide), hN 133 (by decide), hN 134 (by decide), hN 115 (by decide), hN 116 (by decide), hN 117 (by decide), hN 118 (by decide), hN 119 (by decide), hN 120 (by decide), hN 121 (by decide), hN 122 (by decide), hN 123 (by decide), hN 124 (by decide), hN 125 (by decide), hN 128 (by decide), hN 129 (by decide), hN 130 (by decide), hN 135 (by decide), hN 136 (by decide), hN 137 (by decide), hN 138 (by decide), hN 139 (by decide), hN 140 (by decide), hN 141 (by decide), hN 142 (by decide), if_false]
set_option maxHeartbeats 8000000 in
theorem hs_beg {hid lid iid : Nat} {L : List (List UInt8)} {Hs Ls : List Nat} {σ : Sto} {i h v : Nat} {e : Nat → AV} {nx n : Nat} {q : Option (Ex × St)} (a b : UInt8) (ha : a = 91 ∨ a = 123) {r : List (List UInt8)} {hr lr : List Nat}
    (hS : HS hid lid iid L Hs Ls σ i h v e) (hL : L.drop i = [a, b] :: r) (hH : Hs.drop i = h :: hr) (hl : Ls.drop i = v :: lr) (hp : 0 < h) (hn : L.length ≤ 1000) (hb : h ≤ 2000) (vb : (v + 1) ≤ 2000)
    (hq : roundsE (evC II EE (withOpt [] pf) MX (bodyL Tryd.f4 0)) (n + 1) ⟨e, σ, nx⟩ = q) :
    ∃ e' nx', roundsE (evC II EE (withOpt [] pf) MX (bodyL Tryd.f4 0)) n ⟨e', σ, nx'⟩ = q ∧ HS hid lid iid L Hs Ls σ (i + 1) h (v + 1) e' ∧ (∀ t, t < 13 → e' t = e t) := by
  rw [rounds_rd] at hq
  have hlt : i < L.length := by
    have := congrArg List.length hL
    simp only [List.length_drop, List.length_cons] at this
    omega
  have hc : ((i : Int) < (L.length : Int)) := by omega
  have hz : (0 : Int) ≤ (i : Int) := by omega
  have hw : IntKind.i64.wrap ((i : Int) + 1) = ((i + 1 : Nat) : Int) := by rw [wrap64 (by omega) (by omega)]; rfl
  have hd : ((strs L).drop i).head? = some (S [a, b]) := by
    rw [strs_drop, hL]
    rfl
  have hdh := nats_head hH
  have hdl := nats_head hl
  have hsl : (strs L).length = L.length := strs_len L
  have h4 := hS.e4
  have h6 := hS.e6
  have h13 := hS.e13
  have h14 := hS.e14
  have h104 := hS.e104
  have h105 := hS.e105
  have h106 := hS.e106
  have r4 := hS.r4
  have r6 := hS.r6
  have ri := hS.ri
  have p1 : ¬ (((h : Nat) : Int) < 1) := by omega
  have hee : decide (((h : Nat) : Int) = ((h : Nat) : Int)) = true := by simp
  have lee : decide (((v : Nat) : Int) = ((v : Nat) : Int)) = true := by simp
  have va91 : (((91 : UInt8).toNat : Nat) : Int) = 91 := rfl
  have va123 : (((123 : UInt8).toNat : Nat) : Int) = 123 := rfl
  have wv : IntKind.i64.wrap ((v : Int) + 1) = ((v + 1 : Nat) : Int) := by rw [wrap64 (by omega) (by omega)]; omega
  have wv2 : IntKind.i64.wrap (((v + 1 : Nat) : Int) - 1) = (v : Int) := by rw [wrap64 (by omega) (by omega)]; omega
  simp only [bodyL, bodyOf, Tryd.f4, SA, loops, List.nil_append, List.append_nil, List.cons_append, List.getD_cons_zero, List.getD_cons_succ] at hq
  rcases ha with rfl | rfl
  all_goals
    simp only [h4, h6, h13, h14, h104, h105, h106, r4, r6, ri, hc, hz, hw, hd, hdh, hdl, hsl, p1, hee, lee, va91, va123, wv, wv2,  Int.toNat_natCast, Nat.mul_one, Nat.zero_add, RR, IA, PA, RA0, RA1, RA2, RA3, RA4, RA5, RA6, RA7, RA8, RA9, RA10, Nat.reduceAdd, Nat.reduceMul, Nat.reduceEqDiff, Nat.reduceLeDiff, Nat.reduceLT, Int.reduceToNat, Int.reduceLT, Int.reduceLE, Int.reduceEq, Int.reduceNeg, Int.reduceAdd, Int.reduceSub, Int.reduceMul, reduceIte] at hq
    refine ⟨_, _, hq, ⟨h4, h6, ?_, ?_, h104, h105, rfl, r4, r6, ri⟩, fun t ht => ?_⟩
    · first | exact h13 | rfl
    · first | exact h14 | rfl
    · have hN : ∀ k, 13 ≤ k → ¬ (t = k) := fun k hk => by omega
      simp only [hN 106 (by decide), hN 174 (by decide), hN 173 (by decide), hN 172 (by decide), hN 171 (by decide), hN 170 (by decide), hN 169 (by decide), hN 168 (by decide), hN 167 (by decide), hN 166 (by decide), hN 165 (by decide), hN 164 (by decide), hN 163 (by decide), hN 162 (by decide), hN 161 (by decide), hN 160 (by decide), hN 159 (by decide), hN 158 (by decide), hN 157 (by decide), hN 156 (by decide), hN 153 (by decide), hN 152 (by decide), hN 151 (by decide), hN 150 (by decide), hN 149 (by decide), hN 148 (by decide), hN 147 (by decide), hN 146 (by decide), hN 17 (by decide), hN 145 (by decide), hN 155 (by decide), hN 154 (by decide), hN 112 (by decide), hN 111 (by decide), hN 15 (by decide), hN 16 (by decide), hN 110 (by decide), hN 109 (by decide), hN 108 (by decide), hN 107 (by decide), hN 13 (by decide), hN 14 (by decide), hN 143 (by decide), hN 144 (by decide), hN 113 (by decide), hN 114 (by decide), hN 126 (by decide), hN 127 (by decide), hN 131 (by decide), hN 132 (by decide), hN 133 (by decide), hN 134 (by decide), hN 115 (by decide), hN 116 (by decide), hN 117 (by decide), hN 118 (by decide), hN 119 (by decide), hN 120 (by decide), hN 121 (by decide), hN 122 (by decide), hN 123 (by decide), hN 124 (by decide), hN 125 (by decide), hN 128 (by decide), hN 129 (by decide), hN 130 (by decide), hN 135 (by decide), hN 136 (by decide), hN 137 (by decide), hN 138 (by decide), hN 139 (by decide), hN 140 (by decide), hN 141 (by decide), hN 142 (by decide), if_false]
set_option maxHeartbeats 8000000 in
theorem hs_end {hid lid iid : Nat} {L : List (List UInt8)} {Hs Ls : List Nat} {σ : Sto} {i h v : Nat} {e : Nat → AV} {nx n : Nat} {q : Option (Ex × St)} (a : UInt8) (ha : a = 93 ∨ a = 125) {r : List (List UInt8)} {hr lr : List Nat}
    (hS : HS hid lid iid L Hs Ls σ i (h + 1) (v + 1) e) (hL : L.drop i = [a] :: r) (hH : Hs.drop i = h :: hr) (hl : Ls.drop i = v :: lr) (hp : 0 < h) (hn : L.length ≤ 1000) (hb : h ≤ 2000) (vb : v ≤ 2000)
    (hq : roundsE (evC II EE (withOpt [] pf) MX (bodyL Tryd.f4 0)) (n + 1) ⟨e, σ, nx⟩ = q) :
    ∃ e' nx', roundsE (evC II EE (withOpt [] pf) MX (bodyL Tryd.f4 0)) n ⟨e', σ, nx'⟩ = q ∧ HS hid lid iid L Hs Ls σ (i + 1) h v e' ∧ (∀ t, t < 13 → e' t = e t) := by
  rw [rounds_rd] at hq
  have hlt : i < L.length := by
    have := congrArg List.length hL
    simp only [List.length_drop, List.length_cons] at this
    omega
  have hc : ((i : Int) < (L.length : Int)) := by omega
  have hz : (0 : Int) ≤ (i : Int) := by omega
  have hw : IntKind.i64.wrap ((i : Int) + 1) = ((i + 1 : Nat) : Int) := by rw [wrap64 (by omega) (by omega)]; rfl
  have hd : ((strs L).drop i).head? = some (S [a]) := by
    rw [strs_drop, hL]
    rfl
  have hdh := nats_head hH
  have hdl := nats_head hl
  have hsl : (strs L).length = L.length := strs_len L
  have h4 := hS.e4
  have h6 := hS.e6
  have h13 := hS.e13
  have h14 := hS.e14
  have h104 := hS.e104
  have h105 := hS.e105
  have h106 := hS.e106
  have r4 := hS.r4
  have r6 := hS.r6
  have ri := hS.ri
  have p1 : ¬ (((h : Nat) : Int) < 1) := by omega
  have hee : decide (((h : Nat) : Int) = ((h : Nat) : Int)) = true := by simp
  have lee : decide (((v : Nat) : Int) = ((v : Nat) : Int)) = true := by simp
  have va93 : (((93 : UInt8).toNat : Nat) : Int) = 93 := rfl
  have va125 : (((125 : UInt8).toNat : Nat) : Int) = 125 := rfl
  have wv : IntKind.i64.wrap (((v + 1 : Nat) : Int) - 1) = (v : Int) := by rw [wrap64 (by omega) (by omega)]; omega
  have wh : IntKind.i64.wrap (((h + 1 : Nat) : Int) - 1) = (h : Int) := by rw [wrap64 (by omega) (by omega)]; omega
  simp only [bodyL, bodyOf, Tryd.f4, SA, loops, List.nil_append, List.append_nil, List.cons_append, List.getD_cons_zero, List.getD_cons_succ] at hq
  rcases ha with rfl | rfl
  all_goals
    simp only [h4, h6, h13, h14, h104, h105, h106, r4, r6, ri, hc, hz, hw, hd, hdh, hdl, hsl, p1, hee, lee, va93, va125, wv, wh,  Int.toNat_natCast, Nat.mul_one, Nat.zero_add, RR, IA, PA, RA0, RA1, RA2, RA3, RA4, RA5, RA6, RA7, RA8, RA9, RA10, Nat.reduceAdd, Nat.reduceMul, Nat.reduceEqDiff, Nat.reduceLeDiff, Nat.reduceLT, Int.reduceToNat, Int.reduceLT, Int.reduceLE, Int.reduceEq, Int.reduceNeg, Int.reduceAdd, Int.reduceSub, Int.reduceMul, reduceIte] at hq
    refine ⟨_, _, hq, ⟨h4, h6, ?_, ?_, h104, h105, rfl, r4, r6, ri⟩, fun t ht => ?_⟩
    · first | exact h13 | rfl
    · first | exact h14 | rfl
    · have hN : ∀ k, 13 ≤ k → ¬ (t = k) := fun k hk => by omega
      simp only [hN 106 (by decide), hN 174 (by decide), hN 173 (by decide), hN 172 (by decide), hN 171 (by decide), hN 170 (by decide), hN 169 (by decide), hN 168 (by decide), hN 167 (by decide), hN 166 (by decide), hN 165 (by decide), hN 164 (by decide), hN 163 (by decide), hN 162 (by decide), hN 161 (by decide), hN 160 (by decide), hN 159 (by decide), hN 158 (by decide), hN 157 (by decide), hN 156 (by decide), hN 153 (by decide), hN 152 (by decide), hN 151 (by decide), hN 150 (by decide), hN 149 (by decide), hN 148 (by decide), hN 147 (by decide), hN 146 (by decide), hN 17 (by decide), hN 145 (by decide), hN 155 (by decide), hN 154 (by decide), hN 112 (by decide), hN 111 (by decide), hN 15 (by decide), hN 16 (by decide), hN 110 (by decide), hN 109 (by decide), hN 108 (by decide), hN 107 (by decide), hN 13 (by decide), hN 14 (by decide), hN 143 (by decide), hN 144 (by decide), hN 113 (by decide), hN 114 (by decide), hN 126 (by decide), hN 127 (by decide), hN 131 (by decide), hN 132 (by decide), hN 133 (by decide), hN 134 (by decide), hN 115 (by decide), hN 116 (by decide), hN 117 (by decide), hN 118 (by decide), hN 119 (by decide), hN 120 (by decide), hN 121 (by decide), hN 122 (by decide), hN 123 (by decide), hN 124 (by decide), hN 125 (by decide), hN 128 (by decide), hN 129 (by decide), hN 130 (by decide), hN 135 (by decide), hN 136 (by decide), hN 137 (by decide), hN 138 (by decide), hN 139 (by decide), hN 140 (by decide), hN 141 (by decide), hN 142 (by decide), if_false]
set_option maxHeartbeats 8000000 in
theorem hs_two {hid lid iid : Nat} {L : List (List UInt8)} {Hs Ls : List Nat} {σ : Sto} {i h v : Nat} {e : Nat → AV} {nx n : Nat} {q : Option (Ex × St)} (a : UInt8) (ha : a = 43 ∨ a = 42 ∨ a = 94 ∨ a = 45 ∨ a = 61 ∨ a = 60 ∨ a = 64) {r : List (List UInt8)} {hr lr : List Nat}
    (hS : HS hid lid iid L Hs Ls σ i (h + 1) v e) (hL : L.drop i = [a] :: r) (hH : Hs.drop i = h :: hr) (hl : Ls.drop i = v :: lr) (hp : 0 < h) (hn : L.length ≤ 1000) (hb : h ≤ 2000) (vb : v ≤ 2000)
    (hq : roundsE (evC II EE (withOpt [] pf) MX (bodyL Tryd.f4 0)) (n + 1) ⟨e, σ, nx⟩ = q) :
    ∃ e' nx', roundsE (evC II EE (withOpt [] pf) MX (bodyL Tryd.f4 0)) n ⟨e', σ, nx'⟩ = q ∧ HS hid lid iid L Hs Ls σ (i + 1) h v e' ∧ (∀ t, t < 13 → e' t = e t) := by
  rw [rounds_rd] at hq
  have hlt : i < L.length := by
    have := congrArg List.length hL
    simp only [List.length_drop, List.length_cons] at this
    omega
  have hc : ((i : Int) < (L.length : Int)) := by omega
  have hz : (0 : Int) ≤ (i : Int) := by omega
  have hw : IntKind.i64.wrap ((i : Int) + 1) = ((i + 1 : Nat) : Int) := by rw [wrap64 (by omega) (by omega)]; rfl
  have hd : ((strs L).drop i).head? = some (S [a]) := by
    rw [strs_drop, hL]
    rfl
  have hdh := nats_head hH
  have hdl := nats_head hl
  have hsl : (strs L).length = L.length := strs_len L
  have h4 := hS.e4
  have h6 := hS.e6
  have h13 := hS.e13
  have h14 := hS.e14
  have h104 := hS.e104
  have h105 := hS.e105
  have h106 := hS.e106
  have r4 := hS.r4
  have r6 := hS.r6
  have ri := hS.ri
  have p1 : ¬ (((h : Nat) : Int) < 1) := by omega
  have hee : decide (((h : Nat) : Int) = ((h : Nat) : Int)) = true := by simp
  have lee : decide (((v : Nat) : Int) = ((v : Nat) : Int)) = true := by simp
  have va43 : (((43 : UInt8).toNat : Nat) : Int) = 43 := rfl
  have va42 : (((42 : UInt8).toNat : Nat) : Int) = 42 := rfl
  have va94 : (((94 : UInt8).toNat : Nat) : Int) = 94 := rfl
  have va45 : (((45 : UInt8).toNat : Nat) : Int) = 45 := rfl
  have va61 : (((61 : UInt8).toNat : Nat) : Int) = 61 := rfl
  have va60 : (((60 : UInt8).toNat : Nat) : Int) = 60 := rfl
  have va64 : (((64 : UInt8).toNat : Nat) : Int) = 64 := rfl
  have wh : IntKind.i64.wrap (((h + 1 : Nat) : Int) - 1) = (h : Int) := by rw [wrap64 (by omega) (by omega)]; omega
  simp only [bodyL, bodyOf, Tryd.f4, SA, loops, List.nil_append, List.append_nil, List.cons_append, List.getD_cons_zero, List.getD_cons_succ] at hq
  rcases ha with rfl | rfl | rfl | rfl | rfl | rfl | rfl
  all_goals
    simp only [h4, h6, h13, h14, h104, h105, h106, r4, r6, ri, hc, hz, hw, hd, hdh, hdl, hsl, p1, hee, lee, va43, va42, va94, va45, va61, va60, va64, wh,  Int.toNat_natCast, Nat.mul_one, Nat.zero_add, RR, IA, PA, RA0, RA1, RA2, RA3, RA4, RA5, RA6, RA7, RA8, RA9, RA10, Nat.reduceAdd, Nat.reduceMul, Nat.reduceEqDiff, Nat.reduceLeDiff, Nat.reduceLT, Int.reduceToNat, Int.reduceLT, Int.reduceLE, Int.reduceEq, Int.reduceNeg, Int.reduceAdd, Int.reduceSub, Int.reduceMul, reduceIte] at hq
    refine ⟨_, _, hq, ⟨h4, h6, ?_, ?_, h104, h105, rfl, r4, r6, ri⟩, fun t ht => ?_⟩
    · first | exact h13 | rfl
    · first | exact h14 | rfl
    · have hN : ∀ k, 13 ≤ k → ¬ (t = k) := fun k hk => by omega
      simp only [hN 106 (by decide), hN 174 (by decide), hN 173 (by decide), hN 172 (by decide), hN 171 (by decide), hN 170 (by decide), hN 169 (by decide), hN 168 (by decide), hN 167 (by decide), hN 166 (by decide), hN 165 (by decide), hN 164 (by decide), hN 163 (by decide), hN 162 (by decide), hN 161 (by decide), hN 160 (by decide), hN 159 (by decide), hN 158 (by decide), hN 157 (by decide), hN 156 (by decide), hN 153 (by decide), hN 152 (by decide), hN 151 (by decide), hN 150 (by decide), hN 149 (by decide), hN 148 (by decide), hN 147 (by decide), hN 146 (by decide), hN 17 (by decide), hN 145 (by decide), hN 155 (by decide), hN 154 (by decide), hN 112 (by decide), hN 111 (by decide), hN 15 (by decide), hN 16 (by decide), hN 110 (by decide), hN 109 (by decide), hN 108 (by decide), hN 107 (by decide), hN 13 (by decide), hN 14 (by decide), hN 143 (by decide), hN 144 (by decide), hN 113 (by decide), hN 114 (by decide), hN 126 (by decide), hN 127 (by decide), hN 131 (by decide), hN 132 (by decide), hN 133 (by decide), hN 134 (by decide), hN 115 (by decide), hN 116 (by decide), hN 117 (by decide), hN 118 (by decide), hN 119 (by decide), hN 120 (by decide), hN 121 (by decide), hN 122 (by decide), hN 123 (by decide), hN 124 (by decide), hN 125 (by decide), hN 128 (by decide), hN 129 (by decide), hN 130 (by decide), hN 135 (by decide), hN 136 (by decide), hN 137 (by decide), hN 138 (by decide), hN 139 (by decide), hN 140 (by decide), hN 141 (by decide), hN 142 (by decide), if_false]
set_option maxHeartbeats 8000000 in
theorem hs_def {hid lid iid : Nat} {L : List (List UInt8)} {Hs Ls : List Nat} {σ : Sto} {i h v : Nat} {e : Nat → AV} {nx n : Nat} {q : Option (Ex × St)} (a : UInt8) (ha : ¬ a = 83 ∧ ¬ a = 77 ∧ ¬ a = 73 ∧ ¬ a = 78 ∧ ¬ a = 82 ∧ ¬ a = 67 ∧ ¬ a = 80 ∧ ¬ a = 91 ∧ ¬ a = 123 ∧ ¬ a = 93 ∧ ¬ a = 125 ∧ ¬ a = 43 ∧ ¬ a = 42 ∧ ¬ a = 94 ∧ ¬ a = 45 ∧ ¬ a = 61 ∧ ¬ a = 60 ∧ ¬ a = 64) {r : List (List UInt8)} {hr lr : List Nat}
    (hS : HS hid lid iid L Hs Ls σ i h v e) (hL : L.drop i = [a] :: r) (hH : Hs.drop i = (h + 1) :: hr) (hl : Ls.drop i = v :: lr) (hp : 0 < (h + 1)) (hn : L.length ≤ 1000) (hb : (h + 1) ≤ 2000) (vb : v ≤ 2000)
    (hq : roundsE (evC II EE (withOpt [] pf) MX (bodyL Tryd.f4 0)) (n + 1) ⟨e, σ, nx⟩ = q) :
    ∃ e' nx', roundsE (evC II EE (withOpt [] pf) MX (bodyL Tryd.f4 0)) n ⟨e', σ, nx'⟩ = q ∧ HS hid lid iid L Hs Ls σ (i + 1) (h + 1) v e' ∧ (∀ t, t < 13 → e' t = e t) := by
  rw [rounds_rd] at hq
  have hlt : i < L.length := by
    have := congrArg List.length hL
    simp only [List.length_drop, List.length_cons] at this
    omega
  have hc : ((i : Int) < (L.length : Int)) := by omega
  have hz : (0 : Int) ≤ (i : Int) := by omega
  have hw : IntKind.i64.wrap ((i : Int) + 1) = ((i + 1 : Nat) : Int) := by rw [wrap64 (by omega) (by omega)]; rfl
  have hd : ((strs L).drop i).head? = some (S [a]) := by
    rw [strs_drop, hL]
    rfl
  have hdh := nats_head hH
  have hdl := nats_head hl
  have hsl : (strs L).length = L.length := strs_len L
  have h4 := hS.e4
  have h6 := hS.e6
  have h13 := hS.e13
  have h14 := hS.e14
  have h104 := hS.e104
  have h105 := hS.e105
  have h106 := hS.e106
  have r4 := hS.r4
  have r6 := hS.r6
  have ri := hS.ri
  have p1 : ¬ ((((h + 1) : Nat) : Int) < 1) := by omega
  have hee : decide ((((h + 1) : Nat) : Int) = (((h + 1) : Nat) : Int)) = true := by simp
  have lee : decide (((v : Nat) : Int) = ((v : Nat) : Int)) = true := by simp
  obtain ⟨g83, g77, g73, g78, g82, g67, g80, g91, g123, g93, g125, g43, g42, g94, g45, g61, g60, g64⟩ := ha
  have k83 : ¬ ((a.toNat : Int) = 83) := fun e => g83 (UInt8.toNat_inj.1 (by show a.toNat = 83; omega))
  have k77 : ¬ ((a.toNat : Int) = 77) := fun e => g77 (UInt8.toNat_inj.1 (by show a.toNat = 77; omega))
  have k73 : ¬ ((a.toNat : Int) = 73) := fun e => g73 (UInt8.toNat_inj.1 (by show a.toNat = 73; omega))
  have k78 : ¬ ((a.toNat : Int) = 78) := fun e => g78 (UInt8.toNat_inj.1 (by show a.toNat = 78; omega))
  have k82 : ¬ ((a.toNat : Int) = 82) := fun e => g82 (UInt8.toNat_inj.1 (by show a.toNat = 82; omega))
  have k67 : ¬ ((a.toNat : Int) = 67) := fun e => g67 (UInt8.toNat_inj.1 (by show a.toNat = 67; omega))
  have k80 : ¬ ((a.toNat : Int) = 80) := fun e => g80 (UInt8.toNat_inj.1 (by show a.toNat = 80; omega))
  have k91 : ¬ ((a.toNat : Int) = 91) := fun e => g91 (UInt8.toNat_inj.1 (by show a.toNat = 91; omega))
  have k123 : ¬ ((a.toNat : Int) = 123) := fun e => g123 (UInt8.toNat_inj.1 (by show a.toNat = 123; omega))
  have k93 : ¬ ((a.toNat : Int) = 93) := fun e => g93 (UInt8.toNat_inj.1 (by show a.toNat = 93; omega))
  have k125 : ¬ ((a.toNat : Int) = 125) := fun e => g125 (UInt8.toNat_inj.1 (by show a.toNat = 125; omega))
  have k43 : ¬ ((a.toNat : Int) = 43) := fun e => g43 (UInt8.toNat_inj.1 (by show a.toNat = 43; omega))
  have k42 : ¬ ((a.toNat : Int) = 42) := fun e => g42 (UInt8.toNat_inj.1 (by show a.toNat = 42; omega))
  have k94 : ¬ ((a.toNat : Int) = 94) := fun e => g94 (UInt8.toNat_inj.1 (by show a.toNat = 94; omega))
  have k45 : ¬ ((a.toNat : Int) = 45) := fun e => g45 (UInt8.toNat_inj.1 (by show a.toNat = 45; omega))
  have k61 : ¬ ((a.toNat : Int) = 61) := fun e => g61 (UInt8.toNat_inj.1 (by show a.toNat = 61; omega))
  have k60 : ¬ ((a.toNat : Int) = 60) := fun e => g60 (UInt8.toNat_inj.1 (by show a.toNat = 60; omega))
  have k64 : ¬ ((a.toNat : Int) = 64) := fun e => g64 (UInt8.toNat_inj.1 (by show a.toNat = 64; omega))
  have wh : IntKind.i64.wrap ((h : Int) + 1) = ((h + 1 : Nat) : Int) := by rw [wrap64 (by omega) (by omega)]; omega
  simp only [bodyL, bodyOf, Tryd.f4, SA, loops, List.nil_append, List.append_nil, List.cons_append, List.getD_cons_zero, List.getD_cons_succ] at hq
  simp only [h4, h6, h13, h14, h104, h105, h106, r4, r6, ri, hc, hz, hw, hd, hdh, hdl, hsl, p1, hee, lee, k83, k77, k73, k78, k82, k67, k80, k91, k123, k93, k125, k43, k42, k94, k45, k61, k60, k64, wh,  Int.toNat_natCast, Nat.mul_one, Nat.zero_add, RR, IA, PA, RA0, RA1, RA2, RA3, RA4, RA5, RA6, RA7, RA8, RA9, RA10, Nat.reduceAdd, Nat.reduceMul, Nat.reduceEqDiff, Nat.reduceLeDiff, Nat.reduceLT, Int.reduceToNat, Int.reduceLT, Int.reduceLE, Int.reduceEq, Int.reduceNeg, Int.reduceAdd, Int.reduceSub, Int.reduceMul, reduceIte] at hq
  refine ⟨_, _, hq, ⟨h4, h6, ?_, ?_, h104, h105, rfl, r4, r6, ri⟩, fun t ht => ?_⟩
  · first | exact h13 | rfl
  · first | exact h14 | rfl
  · have hN : ∀ k, 13 ≤ k → ¬ (t = k) := fun k hk => by omega
    simp only [hN 106 (by decide), hN 174 (by decide), hN 173 (by decide), hN 172 (by decide), hN 171 (by decide), hN 170 (by decide), hN 169 (by decide), hN 168 (by decide), hN 167 (by decide), hN 166 (by decide), hN 165 (by decide), hN 164 (by decide), hN 163 (by decide), hN 162 (by decide), hN 161 (by decide), hN 160 (by decide), hN 159 (by decide), hN 158 (by decide), hN 157 (by decide), hN 156 (by decide), hN 153 (by decide), hN 152 (by decide), hN 151 (by decide), hN 150 (by decide), hN 149 (by decide), hN 148 (by decide), hN 147 (by decide), hN 146 (by decide), hN 17 (by decide), hN 145 (by decide), hN 155 (by decide), hN 154 (by decide), hN 112 (by decide), hN 111 (by decide), hN 15 (by decide), hN 16 (by decide), hN 110 (by decide), hN 109 (by decide), hN 108 (by decide), hN 107 (by decide), hN 13 (by decide), hN 14 (by decide), hN 143 (by decide), hN 144 (by decide), hN 113 (by decide), hN 114 (by decide), hN 126 (by decide), hN 127 (by decide), hN 131 (by decide), hN 132 (by decide), hN 133 (by decide), hN 134 (by decide), hN 115 (by decide), hN 116 (by decide), hN 117 (by decide), hN 118 (by decide), hN 119 (by decide), hN 120 (by decide), hN 121 (by decide), hN 122 (by decide), hN 123 (by decide), hN 124 (by decide), hN 125 (by decide), hN 128 (by decide), hN 129 (by decide), hN 130 (by decide), hN 135 (by decide), hN 136 (by decide), hN 137 (by decide), hN 138 (by decide), hN 139 (by decide), hN 140 (by decide), hN 141 (by decide), hN 142 (by decide), if_false]
end
end Go.Proofs.YtegbkihgnofkfaaDoor.Ev
