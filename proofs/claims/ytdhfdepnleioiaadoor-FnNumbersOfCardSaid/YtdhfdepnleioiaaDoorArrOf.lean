/-
The program's and the reference's arrays of a text: of any text and depth, both take the same array, whose text it is, or both take none.
-/
import Derived.Test.YtdhfdepnleioiaaDoorArrNode
import Derived.Test.YtdhfdepnleioiaaDoorFA50
import Derived.Test.YtdhfdepnleioiaaDoorFA51
namespace Go.Proofs.YtdhfdepnleioiaaDoor.PA
open Go Go.RowKit Go.Proofs.YtdhfdepnleioiaaDoorW.PrintWords Go.Proofs.YtdhfdepnleioiaaDoorW.PrintLast Go.Proofs.YtdhfdepnleioiaaDoor.Dig

theorem read_both (s : ByteArray) (hs : s.size ≤ 400) : ∀ (d : Nat), d ≤ 3 → ∀ p, p ≤ s.size → Both s d p (fun k => impl_readArr.f k (suf s p) (d : Int)) (fun k => spec_l1Reader_node.f k s (p : Int) false (d : Int))
  | 0, _, p, hp => by
    have specGo : ∀ (n : Int) (q : Int) (b : Bool), Ev (fun k => spec_l1Reader_number.f k s (p : Int) false) (n, s, q, b) → Ev (fun k => spec_l1Reader_node.f k s (p : Int) false ((0 : Nat) : Int)) (n, [], s, q, b) := by
      intro n q b h
      refine Ev.step (f := fun k => (spec_l1Reader_number.f k s (p : Int) false).bind fun bt => some (bt.1, [], bt.2.1, bt.2.2.1, bt.2.2.2)) (fun k => ?_) (Ev.bind h (Ev.now _))
      simp only [spec_l1Reader_node.f, Option.bind_some]
      exact if_pos rfl
    rcases read0 s hs p hp with ⟨v, e, h1, h2, h3, h4, h5, h6⟩ | ⟨h5, n, q, h6⟩
    · refine .inl ⟨⟨(v : Int), []⟩, p + e, by omega, h2, ⟨?_, ?_, rfl⟩, ?_, h5, specGo _ _ _ h6⟩
      · simp [tr]
      · simp [tr]
        omega
      · rw [h4]
        simp [txt, tr]
    · exact .inr ⟨h5, n, [], q, specGo _ _ _ h6⟩
  | d + 1, hd, p, hp => by
    have ih := read_both s hs d (by omega)
    have hsz := suf_size s p
    have hsz1 := suf_size s (p + 1)
    -- no opening bracket
    by_cases hb : p < s.size ∧ bt s (p : Int) = 91
    · obtain ⟨hlt, hb⟩ := hb
      have hne : ¬ (suf s p).toList = [] := by rw [toList_nil_iff]; omega
      have implIn : ∀ r, Ev (fun k => impl_readArr.l1 k (suf s (p + 1)) ((d + 1 : Nat) : Int) 0 []) r → Ev (fun k => impl_readArr.f k (suf s p) ((d + 1 : Nat) : Int)) r := by
        intro r hr
        refine Ev.step (f := fun k => impl_readArr.j2 k (suf s p) ((d + 1 : Nat) : Int) false) (fun k => ?_) (Ev.step (f := fun k => impl_readArr.l1 k (suf s (p + 1)) ((d + 1 : Nat) : Int) 0 []) (fun k => ?_) hr)
        · simp only [impl_readArr.f]
          rw [if_neg (by omega), if_neg hne, if_pos (by omega), bt_suf0 s p hlt, hb]
          rfl
        · simp only [impl_readArr.j2]
          rw [if_neg (by decide), if_pos (by omega), suf_suf]
      by_cases h93 : p + 1 < s.size ∧ bt s ((p + 1 : Nat) : Int) = 93
      · obtain ⟨hlt1, hb1⟩ := h93
        refine .inl ⟨⟨0, []⟩, p + 1 + 1, by omega, by omega, ⟨rfl, fun x hx => by simp [tr, trs] at hx⟩, ?_, implIn _ ?_, ?_⟩
        · rw [extract_split s p (p + 1) (p + 1 + 1) (by omega) (by omega) (by omega), extract_byte s p 91 hlt (by rw [hb]; rfl), extract_byte s (p + 1) 93 hlt1 (by rw [hb1]; rfl)]
          rfl
        · have hne1 : ¬ (suf s (p + 1)).toList = [] := by rw [toList_nil_iff]; omega
          refine Ev.step (f := fun k => impl_readArr.j4 k (suf s (p + 1)) ((d + 1 : Nat) : Int) false 0 []) (fun k => ?_) (Ev.step (f := fun _ => _) (fun k => ?_) (Ev.now _))
          · simp only [impl_readArr.l1]
            rw [if_neg hne1, if_pos (by omega), bt_suf0 s (p + 1) hlt1, if_pos hb1]
            rfl
          · simp only [impl_readArr.j4]
            rw [if_neg (by decide), if_neg hne1, if_pos (by omega), suf_suf]
            rfl
        · refine Ev.step (f := fun _ => _) (fun k => ?_) (Ev.now _)
          simp only [spec_l1Reader_node.f, Option.bind_some]
          rw [if_neg (by omega), is_yes s (by omega) p 91 hlt hb]
          simp only [Option.bind_some, if_true]
          rw [is_yes s (by omega) (p + 1) 93 hlt1 hb1]
          rfl
      · have specPart : ∀ r, Ev (fun k => (spec_l1Reader_node.f k s ((p + 1 : Nat) : Int) false (d : Int)).bind fun b => spec_l1Reader_node.l0 k ((d + 1 : Nat) : Int) b.2.2.1 b.2.2.2.1 b.2.2.2.2 0 ([(⟨b.1, b.2.1⟩ : S57)])) r → Ev (fun k => spec_l1Reader_node.f k s (p : Int) false ((d + 1 : Nat) : Int)) r := by
          intro r hr
          refine Ev.step (f := _) (fun k => ?_) hr
          have e : ((d + 1 : Nat) : Int) - 1 = (d : Int) := by omega
          have hlim : ([] : List S57).length < 4398046511104 := by decide
          simp only [spec_l1Reader_node.f, Option.bind_some]
          rw [if_neg (by omega), is_yes s (by omega) p 91 hlt hb]
          simp only [Option.bind_some, if_true]
          rw [is_no s (p + 1) 93 (fun h1 h2 => h93 ⟨h1, h2⟩)]
          simp only [Option.bind_some, Bool.false_eq_true, if_false]
          rw [w64 (by omega) (by omega), e]
          simp only [eq_true hlim, if_true, List.nil_append]
        by_cases hend : p + 1 = s.size
        · refine .inr ⟨implIn _ ?_, ?_⟩
          · refine Ev.step (f := fun k => impl_readArr.j4 k (suf s (p + 1)) ((d + 1 : Nat) : Int) false 0 []) (fun k => ?_) (Ev.step (f := fun _ => _) (fun k => ?_) (Ev.now _))
            · simp only [impl_readArr.l1]
              rw [if_pos (by rw [toList_nil_iff]; omega)]
            · simp only [impl_readArr.j4]
              rw [if_neg (by decide), if_pos (by rw [toList_nil_iff]; omega)]
          · rcases ih (p + 1) (by omega) with ⟨n', r, h1, h2, _⟩ | ⟨_, v, l, r, hr⟩
            · omega
            · refine ⟨0, [⟨v, l⟩], r, specPart _ (Ev.bind hr ?_)⟩
              refine Ev.step (f := fun _ => _) (fun k => ?_) (Ev.now _)
              simp only [spec_l1Reader_node.l0]
              rfl
        · have hne1 : ¬ (suf s (p + 1)).toList = [] := by rw [toList_nil_iff]; omega
          have implPart : ∀ r, Ev (fun k => (impl_readArr.f k (suf s (p + 1)) (d : Int)).bind fun b => if b.2.2.2 = true then behind k ((d + 1 : Nat) : Int) b.2.2.1 [] ⟨b.1, b.2.1⟩ else impl_readArr.j5 k ((d + 1 : Nat) : Int) b.2.2.1 true 0 [] b.1 b.2.1) r →
              Ev (fun k => impl_readArr.f k (suf s p) ((d + 1 : Nat) : Int)) r := by
            intro r hr
            refine implIn _ (Ev.step (f := fun k => impl_readArr.j4 k (suf s (p + 1)) ((d + 1 : Nat) : Int) true 0 []) (fun k => ?_) (Ev.step (f := _) (fun k => ?_) hr))
            · simp only [impl_readArr.l1]
              rw [if_neg hne1, if_pos (by omega), bt_suf0 s (p + 1) (by omega), if_neg (fun h => h93 ⟨by omega, h⟩)]
            · simp only [impl_readArr.j4]
              rw [if_pos trivial, w64 (by omega) (by omega)]
              have e : ((d + 1 : Nat) : Int) - 1 = (d : Int) := by omega
              rw [e]
              rfl
          rcases ih (p + 1) (by omega) with ⟨n', r, h1, h2, h3, h4, h5, h6⟩ | ⟨hI, v, l, r, hr⟩
          · have hnext := loop_both s hs d (by omega) ih (p + 1) (s.size - r) r [] n' rfl (by omega) h2 (by simp; omega) (by
              intro x hx
              rw [List.nil_append, List.mem_singleton] at hx
              rw [hx]
              exact h3) (by
              rw [h4, List.nil_append, show (trs [n']).map (txt d) = [txt d (tr n')] from rfl, commas_one])
            have hIm : ∀ R, Ev (fun k => behind k ((d + 1 : Nat) : Int) (suf s r) (trs []) (tr n')) R → Ev (fun k => impl_readArr.f k (suf s p) ((d + 1 : Nat) : Int)) R := by
              intro R hR
              refine implPart _ (Ev.bind h5 ?_)
              simp only [if_true]
              exact hR
            have hSp : ∀ R, Ev (fun k => spec_l1Reader_node.l0 k ((d + 1 : Nat) : Int) s (r : Int) false 0 ([] ++ [n'])) R → Ev (fun k => spec_l1Reader_node.f k s (p : Int) false ((d + 1 : Nat) : Int)) R := by
              intro R hR
              exact specPart _ (Ev.bind h6 (by cases n'; exact hR))
            rcases hnext with ⟨ys, r', g1, g2, g3, g4, g5, g6⟩ | ⟨g1, v, l, r', g2⟩
            · refine .inl ⟨⟨0, ys⟩, r', by omega, g2, ⟨rfl, fun x hx => ?_⟩, ?_, hIm _ g5, hSp _ g6⟩
              · rw [tr_f1, trs_map] at hx
                obtain ⟨y, hy, rfl⟩ := List.mem_map.1 hx
                exact g3 y hy
              · rw [extract_split s p (p + 1) r' (by omega) (by omega) g2, g4, extract_byte s p 91 hlt (by rw [hb]; rfl)]
                rfl
            · exact .inr ⟨hIm _ g1, v, l, r', hSp _ g2⟩
          · refine .inr ⟨implPart _ (Ev.bind hI ?_), 0, [⟨v, l⟩], r, specPart _ (Ev.bind hr ?_)⟩
            · simp only [Bool.false_eq_true, if_false]
              exact j5_fail _ _ _ _ _
            · refine Ev.step (f := fun _ => _) (fun k => ?_) (Ev.now _)
              simp only [spec_l1Reader_node.l0]
              rfl
    · refine .inr ⟨?_, 0, [], p, ?_⟩
      · refine Ev.step (f := fun k => impl_readArr.j2 k (suf s p) ((d + 1 : Nat) : Int) true) (fun k => ?_) (Ev.step (f := fun _ => _) (fun k => ?_) (Ev.now _))
        · simp only [impl_readArr.f]
          rw [if_neg (by omega)]
          by_cases hlt : p < s.size
          · rw [if_neg (by rw [toList_nil_iff]; omega), if_pos (by omega), bt_suf0 s p hlt]
            have : (bt s (p : Int) != 91) = true := bne_iff_ne.2 (fun h => hb ⟨hlt, h⟩)
            rw [this]
          · rw [if_pos (by rw [toList_nil_iff]; omega)]
        · simp only [impl_readArr.j2]
          rfl
      · refine Ev.step (f := fun _ => _) (fun k => ?_) (Ev.now _)
        simp only [spec_l1Reader_node.f, Option.bind_some]
        rw [if_neg (by omega), is_no s p 91 (fun h1 h2 => hb ⟨h1, h2⟩)]
        rfl
theorem suf_zero (s : ByteArray) : suf s 0 = s := by
  unfold suf
  apply ByteArray.ext
  rw [ByteArray.data_extract]
  exact Array.extract_size
/-- The array of a text, by both. -/
theorem arr_both (s : ByteArray) (dep : Int) :
    (∃ (d : Nat) (n : S57), dep = (d : Int) ∧ d ≤ 3 ∧ s.size ≤ 400 ∧ VA d (tr n) ∧ s.data.toList = txt d (tr n) ∧ Ev (fun k => impl_arrOf.f k s dep) ((tr n).f0, (tr n).f1, true) ∧ Ev (fun k => spec_l1Read.f k s dep) (n.f0, n.f1, true)) ∨
      ((∃ a : S62, (a = ⟨0, []⟩ ∨ ∃ d : Nat, dep = (d : Int) ∧ d ≤ 3 ∧ VA d a) ∧ Ev (fun k => impl_arrOf.f k s dep) (a.f0, a.f1, false)) ∧ Ev (fun k => spec_l1Read.f k s dep) (0, [], false)) := by
  have specBad : ∀ b : Bool, spec_l1In.f dep 0 3 = some b → (b = true → (s.size : Int) > 400) → Ev (fun k => spec_l1Read.f k s dep) (0, [], false) := by
    intro b hb hbig
    refine Ev.congr (f := fun k => spec_l1Read.j0 k s dep true) (fun k => ?_) (Ev.step (f := fun _ => _) (fun k => ?_) (Ev.now _))
    · unfold spec_l1Read.f
      rw [hb, Option.bind_some]
      cases b with
      | true => rw [if_pos rfl, decide_eq_true (hbig rfl)]
      | false => rw [if_neg (by decide)]
    · simp only [spec_l1Read.j0]
      rfl
  by_cases h0 : dep < 0
  · refine .inr ⟨⟨⟨0, []⟩, .inl rfl, Ev.congr (f := fun _ => _) (fun k => ?_) (Ev.now _)⟩, specBad false ?_ (fun h => by cases h)⟩
    · unfold impl_arrOf.f
      rw [if_pos h0]
    · unfold spec_l1In.f
      rw [if_neg (by omega)]
  by_cases h3 : dep > 3
  · refine .inr ⟨⟨⟨0, []⟩, .inl rfl, Ev.congr (f := fun _ => _) (fun k => ?_) (Ev.now _)⟩, specBad false ?_ (fun h => by cases h)⟩
    · unfold impl_arrOf.f
      rw [if_neg h0, if_pos h3]
    · unfold spec_l1In.f
      rw [if_pos (by omega)]
      exact congrArg some (decide_eq_false (by omega))
  have hin : spec_l1In.f dep 0 3 = some true := by
    unfold spec_l1In.f
    rw [if_pos (by omega)]
    exact congrArg some (decide_eq_true (by omega))
  by_cases hbig : (s.size : Int) > 400
  · refine .inr ⟨⟨⟨0, []⟩, .inl rfl, Ev.congr (f := fun _ => _) (fun k => ?_) (Ev.now _)⟩, specBad true hin (fun _ => hbig)⟩
    unfold impl_arrOf.f
    rw [if_neg h0, if_neg h3, if_pos hbig]
  obtain ⟨d, rfl⟩ : ∃ d : Nat, dep = (d : Int) := ⟨dep.toNat, by omega⟩
  have hsz : s.size ≤ 400 := by omega
  have specGo : ∀ r, Ev (fun k => (spec_l1Reader_node.f k s 0 false (d : Int)).bind fun bt159 => (if bt159.2.2.2.2 = true then (some (0, ([] : List S57), false)) else (if bt159.2.2.2.1 = (s.size : Int) then (some (bt159.1, bt159.2.1, true)) else (some (0, ([] : List S57), false))))) r → Ev (fun k => spec_l1Read.f k s (d : Int)) r := by
    intro r hr
    refine Ev.congr (f := fun k => spec_l1Read.j0 k s (d : Int) false) (fun k => ?_) (Ev.step (f := _) (fun k => ?_) hr)
    · unfold spec_l1Read.f
      rw [hin, Option.bind_some, if_pos rfl, decide_eq_false hbig]
    · simp only [spec_l1Read.j0]
      rw [if_neg (by decide)]
  have implGo : ∀ r, Ev (fun k => (impl_readArr.f k s (d : Int)).bind fun bt190 => (if bt190.2.2.2 = true then (some (bt190.1, bt190.2.1, (bt190.2.2.1.toList == ([] : List UInt8)))) else (some (bt190.1, bt190.2.1, false)))) r → Ev (fun k => impl_arrOf.f k s (d : Int)) r := by
    intro r hr
    refine Ev.congr (fun k => ?_) hr
    unfold impl_arrOf.f
    rw [if_neg h0, if_neg h3, if_neg hbig]
  have hb := read_both s hsz d (by omega) 0 (Nat.zero_le _)
  rw [suf_zero] at hb
  rcases hb with ⟨n, q, h1, h2, h4, h5, h6, h7⟩ | ⟨h6, v, l, q, h7⟩
  · by_cases hq : q = s.size
    · subst hq
      refine .inl ⟨d, n, rfl, by omega, hsz, h4, ?_, implGo _ (Ev.bind h6 ?_), specGo _ (Ev.bind h7 ?_)⟩
      · rw [← h5]
        have := suf_zero s
        unfold suf at this
        rw [this]
      · have : ((suf s s.size).toList == ([] : List UInt8)) = true := by
          rw [beq_iff_eq, toList_nil_iff, suf_size]
          omega
        simp only [if_true, this]
        exact Ev.now _
      · simp only [Bool.false_eq_true, if_false, if_true]
        exact Ev.now _
    · refine .inr ⟨⟨tr n, .inr ⟨d, rfl, by omega, h4⟩, implGo _ (Ev.bind h6 ?_)⟩, specGo _ (Ev.bind h7 ?_)⟩
      · have : ((suf s q).toList == ([] : List UInt8)) = false := by
          rw [beq_eq_false_iff_ne]
          intro h
          rw [toList_nil_iff, suf_size] at h
          omega
        simp only [if_true, this]
        exact Ev.now _
      · have hne : ¬ ((q : Int) = (s.size : Int)) := by omega
        simp only [Bool.false_eq_true, if_false, eq_false hne]
        exact Ev.now _
  · refine .inr ⟨⟨⟨0, []⟩, .inl rfl, implGo _ (Ev.bind h6 ?_)⟩, specGo _ (Ev.bind h7 ?_)⟩
    · simp only [Bool.false_eq_true, if_false]
      exact Ev.now _
    · simp only [if_true]
      exact Ev.now _
end Go.Proofs.YtdhfdepnleioiaaDoor.PA
