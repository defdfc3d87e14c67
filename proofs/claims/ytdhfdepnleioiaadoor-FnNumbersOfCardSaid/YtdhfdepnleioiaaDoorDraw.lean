/-
The reference's source of draws: picking a number, an element of a list of numbers. Plain laws on the printed functions; no memory in them.
-/
import Derived.Test.YtdhfdepnleioiaaDoorGen
import Derived.Test.YtdhfdepnleioiaaDoorFA82
import Derived.Test.YtdhfdepnleioiaaDoorFA90
import Derived.Test.YtdhfdepnleioiaaDoorFA69
import Derived.Laws.BitsLemmas
namespace Go.Proofs.YtdhfdepnleioiaaDoor.PA
open Go Go.RowKit Go.Proofs.YtdhfdepnleioiaaDoorW.PrintWords Go.Proofs.YtdhfdepnleioiaaDoorW.PrintLast

theorem xor64 (a b : Nat) (ha : a < 2 ^ 62) (hb : b < 2 ^ 62) : 0 ≤ Go.bits .xor .i64 (a : Int) (b : Int) := by
  have hx : a ^^^ b < 2 ^ 62 := Nat.xor_lt_two_pow ha hb
  have h1 : (BitVec.ofInt 64 (a : Int)).toNat = a := by
    rw [BitVec.ofInt_natCast, BitVec.toNat_ofNat]
    exact Nat.mod_eq_of_lt (by omega)
  have h2 : (BitVec.ofInt 64 (b : Int)).toNat = b := by
    rw [BitVec.ofInt_natCast, BitVec.toNat_ofNat]
    exact Nat.mod_eq_of_lt (by omega)
  show 0 ≤ IntKind.i64.wrap ((BitVec.ofInt 64 (a : Int) ^^^ BitVec.ofInt 64 (b : Int)).toNat : Int)
  rw [BitVec.toNat_xor, h1, h2, IntKind.wrap_i64]
  omega
theorem tmod_lt {x n : Int} (hx : 0 ≤ x) (hn : 1 ≤ n) : 0 ≤ Int.tmod x n ∧ Int.tmod x n < n := by
  rw [Int.tmod_eq_emod_of_nonneg hx]
  exact ⟨Int.emod_nonneg _ (by omega), Int.emod_lt_of_pos _ (by omega)⟩
def U8s (b : List Int) : Prop := ∀ x ∈ b, 0 ≤ x ∧ x ≤ 255
theorem rd_u8 {b : List Int} (hb : U8s b) (i : Int) (h0 : 0 ≤ i) (h1 : i < (b.length : Int)) : 0 ≤ rd b i ∧ rd b i ≤ 255 := by
  obtain ⟨n, rfl⟩ : ∃ n : Nat, i = (n : Int) := ⟨i.toNat, by omega⟩
  rw [rd_get b n (by omega)]
  exact hb _ (List.getElem_mem _)
theorem pick_ev (b : List Int) (hb : U8s b) (hl : b.length ≤ 2000) (p : Nat) (hp : p ≤ 1000000000) (n : Int) (hn : n ≤ 1000000) :
    ∃ v : Int, 0 ≤ v ∧ (1 ≤ n → v < n) ∧ (n < 1 → v = 0) ∧ Ev (fun k => spec_l13Rd_pick.f k b (p : Int) n) (v, ((p + 1 : Nat) : Int)) := by
  have w1 : wrap64 ((p : Int) + 1) = ((p + 1 : Nat) : Int) := by rw [w64 (by omega) (by omega)]; omega
  have w2 : wrap64 (((p + 1 : Nat) : Int) - 1) = (p : Int) := by rw [w64 (by omega) (by omega)]; omega
  by_cases h1 : n < 1
  · refine ⟨0, by omega, fun h => by omega, fun _ => rfl, Ev.congr (f := fun k => spec_l13Rd_pick.j0 k n true b ((p + 1 : Nat) : Int)) (fun k => by unfold spec_l13Rd_pick.f; rw [if_pos h1, w1]) ?_⟩
    exact Ev.step (f := fun _ => _) (fun k => by rw [spec_l13Rd_pick.j0, if_pos rfl]) (Ev.now _)
  by_cases h2 : b.length = 0
  · refine ⟨0, by omega, fun h => by omega, fun _ => rfl, Ev.congr (f := fun k => spec_l13Rd_pick.j0 k n true b ((p + 1 : Nat) : Int)) (fun k => ?_) ?_⟩
    · unfold spec_l13Rd_pick.f
      rw [if_neg h1, w1, h2]
      rfl
    · exact Ev.step (f := fun _ => _) (fun k => by rw [spec_l13Rd_pick.j0, if_pos rfl]) (Ev.now _)
  have hz : ((b.length : Int) == 0) = false := by rw [beq_eq_false_iff_ne]; omega
  have hn0 : ¬ n = 0 := by omega
  by_cases h3 : (p : Int) < (b.length : Int)
  · obtain ⟨r0, r1⟩ := rd_u8 hb (p : Int) (by omega) h3
    have hw : wrap64 (rd b (p : Int)) = rd b (p : Int) := w64 (by omega) (by omega)
    obtain ⟨t0, t1⟩ := tmod_lt r0 (show 1 ≤ n by omega)
    refine ⟨Int.tmod (rd b (p : Int)) n, t0, fun _ => t1, fun h => absurd h h1, Ev.congr (f := fun k => spec_l13Rd_pick.j0 k n false b ((p + 1 : Nat) : Int)) (fun k => by unfold spec_l13Rd_pick.f; rw [if_neg h1, w1, hz]) ?_⟩
    refine Ev.step (f := fun _ => _) (fun k => ?_) (Ev.now _)
    rw [spec_l13Rd_pick.j0, if_neg (by decide), w2, if_pos h3, if_pos (by omega), if_neg hn0, hw]
  · obtain ⟨c0, c1⟩ := tmod_lt (show 0 ≤ (p : Int) by omega) (show 1 ≤ (b.length : Int) by omega)
    have e7 : wrap64 (wrap64 ((p : Int) * 7) + 3) = (p : Int) * 7 + 3 := by rw [w64 (x := (p : Int) * 7) (by omega) (by omega), w64 (by omega) (by omega)]
    obtain ⟨d0, d1⟩ := tmod_lt (show 0 ≤ (p : Int) * 7 + 3 by omega) (show 1 ≤ (b.length : Int) by omega)
    obtain ⟨r0, r1⟩ := rd_u8 hb _ c0 c1
    obtain ⟨s0, s1⟩ := rd_u8 hb _ d0 d1
    have hq : 0 ≤ Int.tdiv (p : Int) (b.length : Int) ∧ Int.tdiv (p : Int) (b.length : Int) ≤ (p : Int) := by
      rw [Int.tdiv_eq_ediv_of_nonneg (by omega)]
      exact ⟨Int.ediv_nonneg (by omega) (by omega), Int.ediv_le_self _ (by omega)⟩
    have hX : ∃ X : Nat, X < 2 ^ 61 ∧ wrap64 ((wrap64 ((wrap64 ((wrap64 ((wrap64 (rd b (Int.tmod (p : Int) (b.length : Int)))) * 131)) + (wrap64 ((wrap64 (rd b (Int.tmod ((p : Int) * 7 + 3) (b.length : Int)))) * 1117)))) + (wrap64 ((p : Int) * 29)))) + (wrap64 ((wrap64 (Int.tdiv (p : Int) (b.length : Int))) * 53))) = (X : Int) := by
      generalize rd b (Int.tmod (p : Int) (b.length : Int)) = x at r0 r1 ⊢
      generalize rd b (Int.tmod ((p : Int) * 7 + 3) (b.length : Int)) = y at s0 s1 ⊢
      generalize Int.tdiv (p : Int) (b.length : Int) = q at hq ⊢
      obtain ⟨q0, q1⟩ := hq
      have u1 : wrap64 x = x := w64 (by omega) (by omega)
      have u2 : wrap64 y = y := w64 (by omega) (by omega)
      have u3 : wrap64 q = q := w64 (by omega) (by omega)
      have u4 : wrap64 (x * 131) = x * 131 := w64 (by omega) (by omega)
      have u5 : wrap64 (y * 1117) = y * 1117 := w64 (by omega) (by omega)
      have u6 : wrap64 ((p : Int) * 29) = (p : Int) * 29 := w64 (by omega) (by omega)
      have u7 : wrap64 (q * 53) = q * 53 := w64 (by omega) (by omega)
      rw [u1, u2, u3, u4, u5, u6, u7]
      have u8 : wrap64 (x * 131 + y * 1117) = x * 131 + y * 1117 := w64 (by omega) (by omega)
      rw [u8]
      have u9 : wrap64 (x * 131 + y * 1117 + (p : Int) * 29) = x * 131 + y * 1117 + (p : Int) * 29 := w64 (by omega) (by omega)
      rw [u9]
      have u10 : wrap64 (x * 131 + y * 1117 + (p : Int) * 29 + q * 53) = x * 131 + y * 1117 + (p : Int) * 29 + q * 53 := w64 (by omega) (by omega)
      rw [u10]
      exact ⟨(x * 131 + y * 1117 + (p : Int) * 29 + q * 53).toNat, by omega, by omega⟩
    obtain ⟨X, hX1, hX2⟩ := hX
    have hd : wrap64 (Int.tdiv (X : Int) 64) = ((X / 64 : Nat) : Int) := by
      rw [Int.tdiv_eq_ediv_of_nonneg (by omega), w64 (by omega) (by omega)]
      omega
    have hxor := xor64 X (X / 64) (by omega) (by omega)
    obtain ⟨t0, t1⟩ := tmod_lt hxor (show 1 ≤ n by omega)
    refine ⟨Int.tmod (Go.bits .xor .i64 (X : Int) ((X / 64 : Nat) : Int)) n, t0, fun _ => t1, fun h => absurd h h1, Ev.congr (f := fun k => spec_l13Rd_pick.j0 k n false b ((p + 1 : Nat) : Int)) (fun k => by unfold spec_l13Rd_pick.f; rw [if_neg h1, w1, hz]) ?_⟩
    refine Ev.step (f := fun _ => _) (fun k => ?_) (Ev.now _)
    rw [spec_l13Rd_pick.j0, if_neg (by decide), w2, if_neg h3, if_neg (by omega), if_pos c0, if_pos c1, e7, if_pos d0, if_pos d1, if_neg hn0, hX2, hd]
theorem num_ev (b : List Int) (hb : U8s b) (hl : b.length ≤ 2000) (p : Nat) (hp : p ≤ 1000000000) (l : List Int) (h1 : 1 ≤ l.length) (h2 : l.length ≤ 1000) :
    ∃ x ∈ l, Ev (fun k => spec_l13Rd_num.f k b (p : Int) l) (x, ((p + 1 : Nat) : Int)) := by
  obtain ⟨v, v0, v1, -, hv⟩ := pick_ev b hb hl p hp (l.length : Int) (by omega)
  have v2 := v1 (by omega)
  obtain ⟨i, rfl⟩ : ∃ i : Nat, v = (i : Int) := ⟨v.toNat, by omega⟩
  refine ⟨l[i]'(by omega), List.getElem_mem _, Ev.congr (fun k => by unfold spec_l13Rd_num.f; rfl) (Ev.bind hv ?_)⟩
  refine Ev.congr (f := fun _ => some (rd l (i : Int), ((p + 1 : Nat) : Int))) (fun k => by rw [if_pos v0, if_pos v2]) ?_
  rw [rd_get l i (by omega)]
  exact Ev.now _
theorem open_ev (l : List Int) (hb : U8s l) : ∃ b, U8s b ∧ b.length ≤ 2000 ∧ spec_l13Open.f l = some (b, ((0 : Nat) : Int)) := by
  unfold spec_l13Open.f
  by_cases h : (l.length : Int) > 2000
  · refine ⟨l.take 2000, fun x hx => hb x (List.mem_of_mem_take hx), by rw [List.length_take]; omega, ?_⟩
    rw [if_pos h, if_pos (by omega)]
    rfl
  · exact ⟨l, hb, by omega, by rw [if_neg h]; rfl⟩
end Go.Proofs.YtdhfdepnleioiaaDoor.PA
