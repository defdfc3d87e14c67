/-
The reference's draws of an array's text and a depth end, whatever the bytes are. Plain laws on the printed functions; no memory in them.
-/
import Derived.Test.YtdhfdepnleioiaaDoorDraw
import Derived.Test.YtdhfdepnleioiaaDoorFA83
import Derived.Test.YtdhfdepnleioiaaDoorFA80
import Derived.Test.YtdhfdepnleioiaaDoorFA81
import Derived.Test.YtdhfdepnleioiaaDoorFA68
import Derived.Test.YtdhfdepnleioiaaDoorFA48
namespace Go.Proofs.YtdhfdepnleioiaaDoor.PA
open Go Go.RowKit Go.Proofs.YtdhfdepnleioiaaDoorW.PrintWords Go.Proofs.YtdhfdepnleioiaaDoorW.PrintLast

def SD : Nat → Nat
  | 0 => 20
  | d + 1 => 4 * SD d + 6
def PD : Nat → Nat
  | 0 => 2
  | d + 1 => 4 * PD d + 1
theorem SD_le : ∀ d : Nat, d ≤ 3 → SD d ≤ 1406 ∧ PD d ≤ 149
  | 0, _ => by decide
  | 1, _ => by decide
  | 2, _ => by decide
  | 3, _ => by decide
  | d + 4, h => by omega
theorem of_ev (b : List Int) (hb : U8s b) (hl : b.length ≤ 2000) (p : Nat) (hp : p ≤ 1000000000) (l : List ByteArray) (h1 : 1 ≤ l.length) (h2 : l.length ≤ 1000) :
    ∃ x ∈ l, Ev (fun k => spec_l13Rd_of.f k b (p : Int) l) (x, ((p + 1 : Nat) : Int)) := by
  obtain ⟨v, v0, v1, -, hv⟩ := pick_ev b hb hl p hp (l.length : Int) (by omega)
  have v2 := v1 (by omega)
  obtain ⟨i, rfl⟩ : ∃ i : Nat, v = (i : Int) := ⟨v.toNat, by omega⟩
  refine ⟨l[i]'(by omega), List.getElem_mem _, Ev.congr (fun k => by unfold spec_l13Rd_of.f; rfl) (Ev.bind hv ?_)⟩
  refine Ev.congr (f := fun _ => some (rdOf ByteArray.empty l (i : Int), ((p + 1 : Nat) : Int))) (fun k => by rw [if_pos v0, if_pos v2]) ?_
  have hr : rdOf ByteArray.empty l (i : Int) = l[i]'(by omega) := by
    have hi : i < l.length := by omega
    unfold rdOf
    simp [List.getD_eq_getElem?_getD, hi]
  rw [hr]
  exact Ev.now _
theorem drawArr_loop (b : List Int) (d : Nat) (hd : d ≤ 90) (S D T P : Nat) (hT : T ≤ 100000)
    (ih : ∀ p, p + D ≤ P → ∃ t q, 1 ≤ t.size ∧ t.size ≤ S ∧ q ≤ p + D ∧ Ev (fun k => spec_l1Draw.f k b (p : Int) (d : Int)) (t, ((q : Nat) : Int))) (n : Nat) (hn : n ≤ 4) :
    ∀ (m i p : Nat) (acc : ByteArray), n - i = m → i ≤ n → 1 ≤ acc.size → acc.size + m * (S + 1) + 1 ≤ T → p + m * D ≤ P →
      ∃ t q, 1 ≤ t.size ∧ t.size ≤ T ∧ q ≤ p + m * D ∧ Ev (fun k => spec_l1Draw.l0 k ((d + 1 : Nat) : Int) acc (n : Int) (i : Int) b (p : Int)) (t, ((q : Nat) : Int)) := by
  intro m
  induction m with
  | zero =>
    intro i p acc hm hi h1 hs hp
    have e2 : (⟨#[93]⟩ : ByteArray).size = 1 := rfl
    have h5 : (acc ++ ⟨#[93]⟩).size = acc.size + 1 := by rw [ByteArray.size_append, e2]
    refine ⟨acc ++ ⟨#[93]⟩, p, by omega, by omega, by omega, Ev.step (f := fun _ => _) (fun k => ?_) (Ev.now _)⟩
    rw [spec_l1Draw.l0, if_neg (by omega), if_pos (by omega)]
  | succ m ihm =>
    intro i p acc hm hi h1 hs hp
    have hx := w64_succ (show i < n by omega) (by omega)
    have hpd := w64_pred (d := d) (by omega)
    have e4 := Nat.succ_mul m (S + 1)
    have e5 := Nat.succ_mul m D
    rw [e4] at hs
    rw [e5] at hp ⊢
    generalize m * (S + 1) = X at hs ihm
    generalize m * D = Y at hp ihm ⊢
    obtain ⟨t, q, t1, t2, q1, ht⟩ := ih p (by omega)
    have e1 : (⟨#[44]⟩ : ByteArray).size = 1 := rfl
    have h44 : (acc ++ (⟨#[44]⟩ : ByteArray)).size = acc.size + 1 := by rw [ByteArray.size_append, e1]
    by_cases h0 : (i : Int) > 0
    · have h5 : ((acc ++ (⟨#[44]⟩ : ByteArray)) ++ t).size = acc.size + 1 + t.size := by rw [ByteArray.size_append, h44]
      obtain ⟨t', q', a1, a2, a3, a4⟩ := ihm (i + 1) q ((acc ++ ⟨#[44]⟩) ++ t) (by omega) (by omega) (by omega) (by omega) (by omega)
      refine ⟨t', q', a1, a2, by omega, ?_⟩
      refine Ev.step (f := fun k => (spec_l1Draw.f k b (p : Int) (d : Int)).bind fun bt => (if (acc ++ (⟨#[44]⟩ : ByteArray)).size + bt.1.size ≤ 9223372036854775807 then (spec_l1Draw.l0 k ((d + 1 : Nat) : Int) ((acc ++ (⟨#[44]⟩ : ByteArray)) ++ bt.1) (n : Int) ((i + 1 : Nat) : Int) b bt.2) else none)) (fun k => ?_) (Ev.bind ht ?_)
      · rw [spec_l1Draw.l0, if_pos (by omega), if_pos h0, if_pos (by omega), hpd, hx]
      · have hc : (acc ++ (⟨#[44]⟩ : ByteArray)).size + t.size ≤ 9223372036854775807 := by omega
        exact Ev.congr (fun k => if_pos hc) a4
    · have h5 : (acc ++ t).size = acc.size + t.size := ByteArray.size_append
      obtain ⟨t', q', a1, a2, a3, a4⟩ := ihm (i + 1) q (acc ++ t) (by omega) (by omega) (by omega) (by omega) (by omega)
      refine ⟨t', q', a1, a2, by omega, ?_⟩
      refine Ev.step (f := fun k => (spec_l1Draw.f k b (p : Int) (d : Int)).bind fun bt => (if acc.size + bt.1.size ≤ 9223372036854775807 then (spec_l1Draw.l0 k ((d + 1 : Nat) : Int) (acc ++ bt.1) (n : Int) ((i + 1 : Nat) : Int) b bt.2) else none)) (fun k => ?_) (Ev.bind ht ?_)
      · rw [spec_l1Draw.l0, if_pos (by omega), if_neg h0, hpd, hx]
      · have hc : acc.size + t.size ≤ 9223372036854775807 := by omega
        exact Ev.congr (fun k => if_pos hc) a4
theorem drawArr (b : List Int) (hb : U8s b) (hl : b.length ≤ 2000) : ∀ (d : Nat), d ≤ 3 → ∀ p, p + PD d ≤ 10000000 →
    ∃ t q, 1 ≤ t.size ∧ t.size ≤ SD d ∧ q ≤ p + PD d ∧ Ev (fun k => spec_l1Draw.f k b (p : Int) (d : Int)) (t, ((q : Nat) : Int))
  | 0, _, p, hp => by
    have hp0 : PD 0 = 2 := rfl
    obtain ⟨v, v0, v1, -, hv⟩ := pick_ev b hb hl p (by omega) 9 (by omega)
    have v2 := v1 (by omega)
    obtain ⟨x, hx, hn⟩ := num_ev b hb hl (p + 1) (by omega) [1, 0, 2, 3, v, 5, 10006, 100] (by simp) (by simp)
    simp only [List.mem_cons, List.not_mem_nil, or_false] at hx
    have hx2 : 0 ≤ x ∧ x ≤ 10006 := by omega
    have hdec := l13Dec_all x (by omega) (by omega)
    have hsz := itoa_size x (by omega) (by omega)
    have hpos : 1 ≤ (Lib.itoa x).length := by
      obtain ⟨u, rfl⟩ : ∃ u : Nat, x = (u : Int) := ⟨x.toNat, by omega⟩
      rw [itoa_nat]
      exact decDigits_pos u
    refine ⟨ba (Lib.itoa x), p + 1 + 1, by rw [ba_size]; exact hpos, by rw [ba_size]; exact hsz, Nat.le_refl _, ?_⟩
    refine Ev.step (f := _) (fun k => by rw [spec_l1Draw.f, if_pos (show ((0 : Nat) : Int) = 0 from rfl)]) (Ev.bind hv (Ev.bind hn (Ev.bind (f := fun _ t => some (t, ((p + 1 + 1 : Nat) : Int))) hdec (Ev.now _))))
  | d + 1, hd, p, hp => by
    obtain ⟨hs1, hs2⟩ := SD_le d (by omega)
    obtain ⟨x, hx, hn⟩ := num_ev b hb hl p (by omega) [2, 0, 1, 3, 4] (by simp) (by simp)
    simp only [List.mem_cons, List.not_mem_nil, or_false] at hx
    obtain ⟨n, rfl⟩ : ∃ n : Nat, x = (n : Int) := ⟨x.toNat, by omega⟩
    have hn4 : n ≤ 4 := by omega
    have m1 : n * (SD d + 1) ≤ 4 * (SD d + 1) := Nat.mul_le_mul_right _ hn4
    have m2 : n * PD d ≤ 4 * PD d := Nat.mul_le_mul_right _ hn4
    have e1 : (⟨#[91]⟩ : ByteArray).size = 1 := rfl
    have hSD : SD (d + 1) = 4 * SD d + 6 := rfl
    have hPD : PD (d + 1) = 4 * PD d + 1 := rfl
    have ih := fun q (hq : q + PD d ≤ 10000000) => drawArr b hb hl d (by omega) q hq
    obtain ⟨t, q, t1, t2, q1, ht⟩ := drawArr_loop b d (by omega) (SD d) (PD d) (SD (d + 1)) 10000000 (by omega) ih n hn4 n 0 (p + 1) ⟨#[91]⟩ rfl (by omega) (by rw [e1]; omega) (by rw [e1]; omega) (by omega)
    refine ⟨t, q, t1, t2, by omega, ?_⟩
    exact Ev.step (f := _) (fun k => by rw [spec_l1Draw.f, if_neg (by omega)]) (Ev.bind hn ht)
theorem some_end (b : List Int) (hb : U8s b) (hl : b.length ≤ 2000) (x : Int) (t : ByteArray) (h1 : 1 ≤ t.size) (h2 : t.size ≤ 1406) (p : Nat) (hp : p ≤ 10000) : ∃ t' q, Ev (fun k => spec_l1Some.j0 k x t b (p : Int)) (t', x, ((q : Nat) : Int)) := by
  obtain ⟨v, v0, -, -, hv⟩ := pick_ev b hb hl p (by omega) 14 (by omega)
  by_cases hpos : v > 0
  · exact ⟨t, p + 1, Ev.step (f := _) (fun k => by rw [spec_l1Some.j0]) (Ev.bind hv (Ev.congr (fun k => if_pos hpos) (Ev.now _)))⟩
  obtain ⟨u, u0, u1, -, hu⟩ := pick_ev b hb hl (p + 1) (by omega) (t.size : Int) (by omega)
  have u2 := u1 (by omega)
  obtain ⟨s, hs, hof⟩ := of_ev b hb hl (p + 1 + 1) (by omega) [(⟨#[]⟩ : ByteArray), (⟨#[91]⟩ : ByteArray), (⟨#[93]⟩ : ByteArray), (⟨#[44]⟩ : ByteArray), (⟨#[48]⟩ : ByteArray), (⟨#[120]⟩ : ByteArray), (⟨#[57, 57, 57, 57, 57]⟩ : ByteArray)] (by decide) (by decide)
  have hss : s.size ≤ 5 := by
    simp only [List.mem_cons, List.not_mem_nil, or_false] at hs
    rcases hs with rfl | rfl | rfl | rfl | rfl | rfl | rfl <;> decide
  obtain ⟨z, z0, z1, -, hz⟩ := pick_ev b hb hl (p + 1 + 1 + 1) (by omega) 2 (by omega)
  have z2 := z1 (by omega)
  have hw : wrap64 (u + z) = u + z := w64 (by omega) (by omega)
  have hx1 : (t.extract 0 u.toNat).size ≤ 1406 := by rw [ByteArray.size_extract]; omega
  have hx2 : (t.extract (u + z).toNat t.size).size ≤ 1406 := by rw [ByteArray.size_extract]; omega
  refine ⟨(t.extract 0 u.toNat ++ s) ++ t.extract (u + z).toNat t.size, p + 1 + 1 + 1 + 1, Ev.step (f := _) (fun k => by rw [spec_l1Some.j0]) (Ev.bind hv (Ev.congr (fun k => if_neg hpos) (Ev.bind hu ?_)))⟩
  refine Ev.congr (fun k => by rw [if_pos u0, if_pos (by omega)]) (Ev.bind hof ?_)
  have hc1 : (t.extract 0 u.toNat).size + s.size ≤ 9223372036854775807 := by omega
  refine Ev.congr (fun k => if_pos hc1) (Ev.bind hz ?_)
  simp only [hw]
  refine Ev.congr (f := fun _ => _) (fun k => ?_) (Ev.now _)
  have hx3 : (t.extract 0 u.toNat ++ s).size = (t.extract 0 u.toNat).size + s.size := ByteArray.size_append
  have hc : (t.extract 0 u.toNat ++ s).size + (t.extract (u + z).toNat t.size).size ≤ 9223372036854775807 := by omega
  rw [if_pos (by omega), if_pos (by omega), if_pos hc]
theorem some_ev (b : List Int) (hb : U8s b) (hl : b.length ≤ 2000) : ∃ t x q, Ev (fun k => spec_l1Some.f k b ((0 : Nat) : Int)) (t, x, ((q : Nat) : Int)) := by
  obtain ⟨x, hx, hn⟩ := num_ev b hb hl 0 (by omega) [2, 1, 3, 2, 1, 0, 4, (-1)] (by decide) (by decide)
  simp only [List.mem_cons, List.not_mem_nil, or_false] at hx
  have hdep : Ev (fun k => spec_l1Depth.f k b ((0 : Nat) : Int)) (x, ((0 + 1 : Nat) : Int)) := Ev.congr (fun k => by unfold spec_l1Depth.f; rfl) (Ev.bind hn (Ev.now _))
  have hmx : ∃ d : Nat, mx (mn x 3) 0 = (d : Int) ∧ d ≤ 3 ∧ (x = -1 → d = 0) := by
    have h1 : mx (mn x 3) 0 = max (min x 3) 0 := by unfold mx mn; split <;> split <;> omega
    rw [h1]
    exact ⟨(max (min x 3) 0).toNat, by omega, by omega, by omega⟩
  obtain ⟨d, hd1, hd2, hd3⟩ := hmx
  obtain ⟨hs1, hs2⟩ := SD_le d hd2
  obtain ⟨t, q, t1, t2, q1, ht⟩ := drawArr b hb hl d hd2 (0 + 1) (by omega)
  by_cases hbig : (t.size : Int) > 100
  · have hmn : ∃ e : Nat, mn x 1 = (e : Int) ∧ e ≤ 1 := by
      have h1 : mn x 1 = min x 1 := by unfold mn; split <;> omega
      have hne : x ≠ -1 := by
        intro hx1
        have h0 := hd3 hx1
        subst h0
        have : SD 0 = 20 := rfl
        omega
      rw [h1]
      exact ⟨(min x 1).toNat, by omega, by omega⟩
    obtain ⟨e, he1, he2⟩ := hmn
    obtain ⟨ks1, ks2⟩ := SD_le e (by omega)
    obtain ⟨t', q', a1, a2, a3, ha⟩ := drawArr b hb hl e (by omega) q (by omega)
    obtain ⟨t'', q'', hf⟩ := some_end b hb hl x t' a1 (by omega) q' (by omega)
    refine ⟨t'', x, q'', Ev.congr (fun k => by unfold spec_l1Some.f; rfl) (Ev.bind hdep ?_)⟩
    simp only [hd1, he1]
    exact Ev.bind ht (Ev.congr (fun k => if_pos hbig) (Ev.bind ha hf))
  · obtain ⟨t'', q'', hf⟩ := some_end b hb hl x t t1 (by omega) q (by omega)
    refine ⟨t'', x, q'', Ev.congr (fun k => by unfold spec_l1Some.f; rfl) (Ev.bind hdep ?_)⟩
    simp only [hd1]
    exact Ev.bind ht (Ev.congr (fun k => if_neg hbig) hf)
theorem drawNumbers_ev (l : List Int) (h : U8s l) : ∃ t x, Ev (fun k => spec_DrawNumbersOf.f k l) (t, x) := by
  obtain ⟨b, hb, hl, ho⟩ := open_ev l h
  obtain ⟨t, x, q, hs⟩ := some_ev b hb hl
  exact ⟨t, x, Ev.congr (fun k => by unfold spec_DrawNumbersOf.f; rw [ho, Option.bind_some]) (Ev.bind hs (Ev.now _))⟩
end Go.Proofs.YtdhfdepnleioiaaDoor.PA
