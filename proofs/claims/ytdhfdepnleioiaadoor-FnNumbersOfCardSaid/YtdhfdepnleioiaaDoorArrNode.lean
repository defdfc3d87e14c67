/-
The program's and the reference's readers of arrays of a depth: of any text of at most 400 bytes, from any place on, both take the same array, whose text it is, and stop at the same place, or both take none.
-/
import Derived.Test.YtdhfdepnleioiaaDoorArrRead
namespace Go.Proofs.YtdhfdepnleioiaaDoor.PA
open Go Go.RowKit Go.Proofs.YtdhfdepnleioiaaDoorW.PrintWords Go.Proofs.YtdhfdepnleioiaaDoorW.PrintLast Go.Proofs.YtdhfdepnleioiaaDoor.Dig

mutual
/-- An array of the reference's as one of the program's. -/
def tr : S57 → S62
  | ⟨n, ps⟩ => ⟨n, trs ps⟩
def trs : List S57 → List S62
  | [] => []
  | p :: r => tr p :: trs r
end
theorem tr_f0 (n : S57) : (tr n).f0 = n.f0 := by cases n; rfl
theorem tr_f1 (n : S57) : (tr n).f1 = trs n.f1 := by cases n; rfl
theorem trs_map (l : List S57) : trs l = l.map tr := by
  induction l with
  | nil => rfl
  | cons p r ih => simp [trs, ih]
theorem trs_append (l m : List S57) : trs (l ++ m) = trs l ++ trs m := by simp [trs_map]
theorem trs_one (n : S57) : trs [n] = [⟨(tr n).f0, (tr n).f1⟩] := by cases n; rfl
theorem trs_length (l : List S57) : (trs l).length = l.length := by simp [trs_map]
/-- An array of a depth. -/
def VA : Nat → S62 → Prop
  | 0, a => 0 ≤ a.f0 ∧ a.f0 ≤ 10006 ∧ a.f1 = []
  | d + 1, a => a.f0 = 0 ∧ ∀ p ∈ a.f1, VA d p
/-- Its text. -/
def commas (ls : List (List UInt8)) : List UInt8 := Lib.join ls [44]
def txt : Nat → S62 → List UInt8
  | 0, a => Lib.decDigits a.f0.toNat
  | d + 1, a => 91 :: (commas (a.f1.map (txt d)) ++ [93])
theorem commas_nil : commas [] = [] := rfl
theorem commas_one (x : List UInt8) : commas [x] = x := by simp [commas, Lib.join, List.intercalate]
theorem intercalate_cons (sep x : List UInt8) (ls : List (List UInt8)) (h : ls ≠ []) : sep.intercalate (x :: ls) = x ++ sep ++ sep.intercalate ls := by
  cases ls with
  | nil => exact absurd rfl h
  | cons y r => simp [List.intercalate]
theorem commas_snoc : ∀ (ls : List (List UInt8)) (x : List UInt8), ls ≠ [] → commas (ls ++ [x]) = commas ls ++ 44 :: x
  | [], _, h => absurd rfl h
  | [y], x, _ => by simp [commas, Lib.join, List.intercalate]
  | y :: z :: r, x, _ => by
    have ih := commas_snoc (z :: r) x (by simp)
    unfold commas Lib.join at ih ⊢
    rw [List.cons_append, intercalate_cons _ _ _ (by simp), ih, intercalate_cons _ y (z :: r) (by simp)]
    simp
theorem extract_split (s : ByteArray) (a b c : Nat) (h1 : a ≤ b) (h2 : b ≤ c) (_h3 : c ≤ s.size) : (s.extract a c).data.toList = (s.extract a b).data.toList ++ (s.extract b c).data.toList := by
  rw [ByteArray.data_extract, ByteArray.data_extract, ByteArray.data_extract, Array.toList_extract, Array.toList_extract, Array.toList_extract]
  have e1 : c - a = (b - a) + (c - b) := by omega
  have e2 : (s.data.toList.drop a).drop (b - a) = s.data.toList.drop b := by rw [List.drop_drop]; congr 1; omega
  simp only [List.extract]
  rw [e1, List.take_add, e2]
theorem extract_one (s : ByteArray) (q : Nat) (h : q < s.size) : ∃ c : UInt8, (s.extract q (q + 1)).data.toList = [c] ∧ bt s (q : Int) = (c.toNat : Int) := by
  have hl := seg_len s q 1 (by omega)
  obtain ⟨c, hc, hb⟩ := seg_get s q 1 0 (by omega) (by omega)
  refine ⟨c, ?_, by simpa using hb⟩
  match hm : (s.extract q (q + 1)).data.toList, hl, hc with
  | [x], _, hc => simpa using hc
theorem extract_byte (s : ByteArray) (q : Nat) (v : UInt8) (h : q < s.size) (hb : bt s (q : Int) = (v.toNat : Int)) : (s.extract q (q + 1)).data.toList = [v] := by
  obtain ⟨c, hc, hb2⟩ := extract_one s q h
  rw [hc]
  congr 1
  apply UInt8.toNat_inj.1
  omega
theorem is_yes (s : ByteArray) (hs : s.size ≤ 1000) (q : Nat) (c : Int) (h : q < s.size) (hb : bt s (q : Int) = c) : spec_l1Reader_is.f s (q : Int) false c = some (true, s, ((q + 1 : Nat) : Int), false) := by
  unfold spec_l1Reader_is.f
  rw [if_pos (by omega), if_pos (by omega), if_pos hb, w64 (by omega) (by omega)]
  rfl
theorem is_no (s : ByteArray) (q : Nat) (c : Int) (h : q < s.size → ¬ bt s (q : Int) = c) : spec_l1Reader_is.f s (q : Int) false c = some (false, s, (q : Int), false) := by
  unfold spec_l1Reader_is.f
  by_cases hq : (q : Int) < (s.size : Int)
  · rw [if_pos hq, if_pos (by omega), if_neg (h (by omega))]
  · rw [if_neg hq]

abbrev ImplRes := Int × List S62 × ByteArray × Bool
abbrev SpecRes := Int × List S57 × ByteArray × Int × Bool
/-- Both take the same, or both take none. -/
def Both (s : ByteArray) (d p : Nat) (I : Nat → Option ImplRes) (R : Nat → Option SpecRes) : Prop :=
  (∃ (n : S57) (q : Nat), p < q ∧ q ≤ s.size ∧ VA d (tr n) ∧ (s.extract p q).data.toList = txt d (tr n) ∧ Ev I ((tr n).f0, (tr n).f1, suf s q, true) ∧ Ev R (n.f0, n.f1, s, (q : Int), false)) ∨
    (Ev I (0, [], ⟨#[]⟩, false) ∧ ∃ (n : Int) (l : List S57) (q : Nat), Ev R (n, l, s, (q : Int), true))
/-- What the program does behind a part. -/
def behind (k : Nat) (x1 : Int) (rest : ByteArray) (ps : List S62) (a : S62) : Option ImplRes :=
  if rest.toList = ([] : List UInt8) then impl_readArr.j5 k x1 rest true 0 ps a.f0 a.f1 else (if 0 < (rest.size : Int) then (if bt rest 0 = 44 then impl_readArr.j5 k x1 rest false 0 ps a.f0 a.f1 else impl_readArr.j5 k x1 rest (bt rest 0 != 93) 0 ps a.f0 a.f1) else none)
theorem j5_fail (x1 : Int) (rest : ByteArray) (ps : List S62) (n : Int) (l : List S62) : Ev (fun k => impl_readArr.j5 k x1 rest true 0 ps n l) (0, [], ⟨#[]⟩, false) := by
  refine Ev.step (f := fun _ => _) (fun k => ?_) (Ev.now _)
  simp only [impl_readArr.j5]
  rfl
theorem behind_fail (s : ByteArray) (x1 : Int) (q : Nat) (ps : List S62) (a : S62) (h : q < s.size → ¬ bt s (q : Int) = 44 ∧ ¬ bt s (q : Int) = 93) : Ev (fun k => behind k x1 (suf s q) ps a) (0, [], ⟨#[]⟩, false) := by
  refine Ev.congr (f := fun k => impl_readArr.j5 k x1 (suf s q) true 0 ps a.f0 a.f1) (fun k => ?_) (j5_fail _ _ _ _ _)
  unfold behind
  by_cases hq : q < s.size
  · have hn : ¬ (suf s q).toList = [] := by rw [toList_nil_iff, suf_size]; omega
    rw [if_neg hn, if_pos (by rw [suf_size]; omega), bt_suf0 s q hq, if_neg (h hq).1]
    have : (bt s (q : Int) != 93) = true := bne_iff_ne.2 (h hq).2
    rw [this]
  · rw [if_pos (by rw [toList_nil_iff, suf_size]; omega)]
/-- The two loops over parts, once a part has been taken. -/
theorem loop_both (s : ByteArray) (hs : s.size ≤ 400) (d : Nat) (hd : d ≤ 3)
    (ih : ∀ p, p ≤ s.size → Both s d p (fun k => impl_readArr.f k (suf s p) (d : Int)) (fun k => spec_l1Reader_node.f k s (p : Int) false (d : Int))) (p1 : Nat) :
    ∀ (m q : Nat) (xs : List S57) (n : S57), s.size - q = m → p1 < q → q ≤ s.size → xs.length < q → (∀ x ∈ xs ++ [n], VA d (tr x)) → (s.extract p1 q).data.toList = commas ((trs (xs ++ [n])).map (txt d)) →
      (∃ (ys : List S57) (r : Nat), q < r ∧ r ≤ s.size ∧ (∀ x ∈ ys, VA d (tr x)) ∧ (s.extract p1 r).data.toList = commas ((trs ys).map (txt d)) ++ [93] ∧
          Ev (fun k => behind k ((d + 1 : Nat) : Int) (suf s q) (trs xs) (tr n)) (0, trs ys, suf s r, true) ∧ Ev (fun k => spec_l1Reader_node.l0 k ((d + 1 : Nat) : Int) s (q : Int) false 0 (xs ++ [n])) (0, ys, s, (r : Int), false)) ∨
        (Ev (fun k => behind k ((d + 1 : Nat) : Int) (suf s q) (trs xs) (tr n)) (0, [], ⟨#[]⟩, false) ∧ ∃ (v : Int) (l : List S57) (r : Nat), Ev (fun k => spec_l1Reader_node.l0 k ((d + 1 : Nat) : Int) s (q : Int) false 0 (xs ++ [n])) (v, l, s, (r : Int), true)) := by
  intro m
  induction m using Nat.strongRecOn with
  | _ m ihm =>
  intro q xs n hm hp hq hlen hva htx
  have hssz := suf_size s q
  -- the reference where no comma stands
  have specEnd : (¬ (q < s.size ∧ bt s (q : Int) = 44)) → ∀ b : Bool, (spec_l1Reader_is.f s (q : Int) false 93 = some (b, s, ((if b then q + 1 else q : Nat) : Int), false)) →
      Ev (fun k => spec_l1Reader_node.l0 k ((d + 1 : Nat) : Int) s (q : Int) false 0 (xs ++ [n])) (0, xs ++ [n], s, ((if b then q + 1 else q : Nat) : Int), !b) := by
    intro h44 b hb
    refine Ev.step (f := fun _ => _) (fun k => ?_) (Ev.now _)
    simp only [spec_l1Reader_node.l0]
    rw [if_neg (by decide), is_no s q 44 (fun h1 h2 => h44 ⟨h1, h2⟩)]
    simp only [Option.bind_some]
    rw [if_neg (by decide), if_neg (by decide), hb]
    simp only [Option.bind_some]
  by_cases h93 : q < s.size ∧ bt s (q : Int) = 93
  · -- the end
    obtain ⟨hlt, hb⟩ := h93
    refine .inl ⟨xs ++ [n], q + 1, by omega, by omega, hva, ?_, ?_, ?_⟩
    · rw [extract_split s p1 q (q + 1) (by omega) (by omega) (by omega), htx, extract_byte s q 93 hlt (by rw [hb]; rfl)]
    · have hne : ¬ (suf s q).toList = [] := by rw [toList_nil_iff]; omega
      refine Ev.congr (f := fun k => impl_readArr.j5 k ((d + 1 : Nat) : Int) (suf s q) false 0 (trs xs) (tr n).f0 (tr n).f1) (fun k => ?_) ?_
      · unfold behind
        rw [if_neg hne, if_pos (by omega), bt_suf0 s q hlt, if_neg (by omega), hb]
        rfl
      · refine Ev.step (f := fun _ => _) (fun k => ?_) (Ev.now _)
        simp only [impl_readArr.j5]
        rw [if_neg (by decide), if_pos (by rw [trs_length]; omega)]
        simp only [Option.bind_some]
        rw [if_pos (by omega), bt_suf0 s q hlt, if_pos hb, if_pos (by omega), suf_suf, trs_append, trs_one]
    · have h1 : ¬ (q < s.size ∧ bt s (q : Int) = 44) := by omega
      have := specEnd h1 true (by simpa using is_yes s (by omega) q 93 hlt hb)
      simpa using this
  · by_cases h44 : q < s.size ∧ bt s (q : Int) = 44
    · -- a comma
      obtain ⟨hlt, hb⟩ := h44
      have hne : ¬ (suf s q).toList = [] := by rw [toList_nil_iff]; omega
      have hsz1 := suf_size s (q + 1)
      -- the program goes on to the next part
      have implGo : ∀ r, Ev (fun k => impl_readArr.l1 k (suf s (q + 1)) ((d + 1 : Nat) : Int) 0 (trs (xs ++ [n]))) r → Ev (fun k => behind k ((d + 1 : Nat) : Int) (suf s q) (trs xs) (tr n)) r := by
        intro r hr
        refine Ev.congr (f := fun k => impl_readArr.j5 k ((d + 1 : Nat) : Int) (suf s q) false 0 (trs xs) (tr n).f0 (tr n).f1) (fun k => ?_) (Ev.step (f := fun k => impl_readArr.l1 k (suf s (q + 1)) ((d + 1 : Nat) : Int) 0 (trs (xs ++ [n]))) (fun k => ?_) hr)
        · unfold behind
          rw [if_neg hne, if_pos (by omega), bt_suf0 s q hlt, if_pos hb]
        · simp only [impl_readArr.j5]
          rw [if_neg (by decide), if_pos (by rw [trs_length]; omega)]
          simp only [Option.bind_some]
          rw [if_pos (by omega), bt_suf0 s q hlt, if_neg (by omega), if_pos (by omega), suf_suf, trs_append, trs_one]
      have specGo : ∀ r, Ev (fun k => (spec_l1Reader_node.f k s ((q + 1 : Nat) : Int) false (d : Int)).bind fun b => spec_l1Reader_node.l0 k ((d + 1 : Nat) : Int) b.2.2.1 b.2.2.2.1 b.2.2.2.2 0 ((xs ++ [n]) ++ [(⟨b.1, b.2.1⟩ : S57)])) r → Ev (fun k => spec_l1Reader_node.l0 k ((d + 1 : Nat) : Int) s (q : Int) false 0 (xs ++ [n])) r := by
        intro r hr
        refine Ev.step (f := _) (fun k => ?_) hr
        simp only [spec_l1Reader_node.l0]
        rw [if_neg (by decide), is_yes s (by omega) q 44 hlt hb]
        simp only [Option.bind_some, if_true]
        have hlim : (xs ++ [n]).length < 4398046511104 := by rw [List.length_append, List.length_singleton]; omega
        have e : ((d + 1 : Nat) : Int) - 1 = (d : Int) := by omega
        rw [w64 (by omega) (by omega), e]
        simp only [eq_true hlim, if_true]
      by_cases hend : q + 1 = s.size
      · -- nothing behind the comma
        refine .inr ⟨implGo _ ?_, ?_⟩
        · refine Ev.step (f := fun k => impl_readArr.j4 k (suf s (q + 1)) ((d + 1 : Nat) : Int) false 0 (trs (xs ++ [n]))) (fun k => ?_) (Ev.step (f := fun _ => _) (fun k => ?_) (Ev.now _))
          · simp only [impl_readArr.l1]
            rw [if_pos (by rw [toList_nil_iff]; omega)]
          · simp only [impl_readArr.j4]
            rw [if_neg (by decide), if_pos (by rw [toList_nil_iff]; omega)]
        · rcases ih (q + 1) (by omega) with ⟨n', r, h1, h2, _⟩ | ⟨_, v, l, r, hr⟩
          · omega
          · refine ⟨0, (xs ++ [n]) ++ [⟨v, l⟩], r, specGo _ (Ev.bind hr ?_)⟩
            refine Ev.step (f := fun _ => _) (fun k => ?_) (Ev.now _)
            simp only [spec_l1Reader_node.l0]
            rfl
      · have implPart : ∀ r, Ev (fun k => (impl_readArr.f k (suf s (q + 1)) (d : Int)).bind fun b => if b.2.2.2 = true then behind k ((d + 1 : Nat) : Int) b.2.2.1 (trs (xs ++ [n])) ⟨b.1, b.2.1⟩ else impl_readArr.j5 k ((d + 1 : Nat) : Int) b.2.2.1 true 0 (trs (xs ++ [n])) b.1 b.2.1) r →
            Ev (fun k => behind k ((d + 1 : Nat) : Int) (suf s q) (trs xs) (tr n)) r := by
          intro r hr
          refine implGo _ (Ev.step (f := fun k => impl_readArr.j4 k (suf s (q + 1)) ((d + 1 : Nat) : Int) true 0 (trs (xs ++ [n]))) (fun k => ?_) (Ev.step (f := _) (fun k => ?_) hr))
          · simp only [impl_readArr.l1]
            rw [if_neg (by rw [toList_nil_iff]; omega), if_pos (by omega)]
            have hl : decide (((trs (xs ++ [n])).length : Int) > 0) = true := decide_eq_true (by rw [trs_length, List.length_append, List.length_singleton]; omega)
            rw [hl]
            exact ite_self _
          · simp only [impl_readArr.j4]
            rw [if_pos trivial, w64 (by omega) (by omega)]
            have e : ((d + 1 : Nat) : Int) - 1 = (d : Int) := by omega
            rw [e]
            rfl
        rcases ih (q + 1) (by omega) with ⟨n', r, h1, h2, h3, h4, h5, h6⟩ | ⟨hI, v, l, r, hr⟩
        · have hnext := ihm (s.size - r) (by omega) r (xs ++ [n]) n' rfl (by omega) h2 (by simp; omega) (by
            intro x hx
            rcases List.mem_append.1 hx with hx | hx
            · exact hva x hx
            · rw [List.mem_singleton.1 hx]
              exact h3) (by
            rw [extract_split s p1 q r (by omega) (by omega) h2, extract_split s q (q + 1) r (by omega) (by omega) h2, htx, h4, extract_byte s q 44 hlt (by rw [hb]; rfl), trs_append (xs ++ [n]) [n'], List.map_append, show (trs [n']).map (txt d) = [txt d (tr n')] from rfl, commas_snoc _ _ (by rw [trs_map]; simp)]
            simp)
          have hIm : ∀ R, Ev (fun k => behind k ((d + 1 : Nat) : Int) (suf s r) (trs (xs ++ [n])) (tr n')) R → Ev (fun k => behind k ((d + 1 : Nat) : Int) (suf s q) (trs xs) (tr n)) R := by
            intro R hR
            refine implPart _ (Ev.bind h5 ?_)
            simp only [if_true]
            exact hR
          have hSp : ∀ R, Ev (fun k => spec_l1Reader_node.l0 k ((d + 1 : Nat) : Int) s (r : Int) false 0 ((xs ++ [n]) ++ [n'])) R → Ev (fun k => spec_l1Reader_node.l0 k ((d + 1 : Nat) : Int) s (q : Int) false 0 (xs ++ [n])) R := by
            intro R hR
            exact specGo _ (Ev.bind h6 (by cases n'; exact hR))
          rcases hnext with ⟨ys, r', g1, g2, g3, g4, g5, g6⟩ | ⟨g1, v, l, r', g2⟩
          · exact .inl ⟨ys, r', by omega, g2, g3, g4, hIm _ g5, hSp _ g6⟩
          · exact .inr ⟨hIm _ g1, v, l, r', hSp _ g2⟩
        · refine .inr ⟨implPart _ (Ev.bind hI ?_), 0, (xs ++ [n]) ++ [⟨v, l⟩], r, specGo _ (Ev.bind hr ?_)⟩
          · simp only [Bool.false_eq_true, if_false]
            exact j5_fail _ _ _ _ _
          · refine Ev.step (f := fun _ => _) (fun k => ?_) (Ev.now _)
            simp only [spec_l1Reader_node.l0]
            rfl
    · refine .inr ⟨behind_fail s _ q _ _ (fun h => ⟨fun h2 => h44 ⟨h, h2⟩, fun h2 => h93 ⟨h, h2⟩⟩), 0, xs ++ [n], q, ?_⟩
      have := specEnd h44 false (by simpa using is_no s q 93 (fun h1 h2 => h93 ⟨h1, h2⟩))
      simpa using this
end Go.Proofs.YtdhfdepnleioiaaDoor.PA
