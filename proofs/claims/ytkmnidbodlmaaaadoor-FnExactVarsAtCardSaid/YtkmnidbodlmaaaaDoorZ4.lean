/-
Texts EvClone to Td of the work, in one.
-/
import Derived.Test.YtkmnidbodlmaaaaDoorZ3
import Derived.Test.YtkmnidbodlmaaaaDoorProg
import Derived.Shelf.RegionOpenPlain
import Derived.WalkKit
import Derived.KernelRfl
import Derived.Lib.Walk
import Derived.Deep.LoopGhost
import Derived.Lib.SliceRun
import Derived.Laws.AppendOwn
import Derived.Test.YtkmnidbodlmaaaaDoorShelfB
import Derived.Lib.OwnBridge
import Derived.Test.YtkmnidbodlmaaaaDoorShelf
import Derived.Lib.Join
/-
The engine at this seat: slices.Clone of a part of a row of pointers that is lent.
-/
namespace Go.Proofs.YtkmnidbodlmaaaaDoor.Ev
section
set_option linter.unusedVariables false
set_option linter.unusedSimpArgs false
open Go Go.RowKit Go.Lib
set_option linter.unusedVariables false
set_option linter.unusedSimpArgs false
set_option maxHeartbeats 2000000 in
set_option maxRecDepth 100000 in
theorem clone_some (ad : Addr) (n c : Nat) (zs : List Value) (w : World) (hz : zs.length = n) (hbig : n * 8 ≤ 140737488355328) (hc : ∀ (j : Nat) v, zs[j]? = some v → w.cell? (ad.add j) = some v) (h1 : ∀ u ∈ zs, u.oneCell' = true) :
    Calls Tryd.prog 50 #[.slice (some ad) n c] w fun e w' => ∃ v', e = .returned v' ∧ w'.ownsRow w.heap.size 48 1 v' n zs ∧ Below w.heap.size w w' := by
  have q46 : ∀ (w : World) (a : Option Addr) (n c n' c' : Nat), (binOp .eql 46 (.slice a n c) (.slice none n' c')).run Tryd.prog w = .ok (.bool a.isNone) w := fun w a n c n' c' => Lib.run_eql_slice_nil w _ _ a n c n' c' Tryd.underlying46
  obtain ⟨i0, hi, hz0, hz1, hz2⟩ := info_parts (P := Tryd.prog) (e := 48) (z := .pointer none) (size := 1) (bytes := 8) (by kernel_rfl)
  have A : Aside (∀ (j : Nat) v, zs[j]? = some v → w.cell? (ad.add j) = some v) := hc
  clear hc
  go_enter Tryd.func50, Tryd.ntmps50
  go_wp2_with (at_builtin; refine wpList_append_own _ rfl _ _ 46 rfl w.heap.size 48 i0 (.pointer none) 1 8 Tryd.underlying46 hi hz0 hz1 hz2 rfl (by decide) _ _ _ rfl (World.ownsRow_made w #[] 0 (Nat.le_refl _) (Nat.zero_le _) rfl) ad n c zs rfl ?qc1 ?qc2 ?qc3 ?qc4 ?qc5 ?qc6 ?_)
  case qc1 => omega
  case qc2 =>
    intro j u hj
    refine Lib.cell?_alloc_some _ ?_
    exact A.out j u hj
  case qc3 => exact h1
  case qc4 => unfold maxLen; omega
  case qc5 => omega
  case qc6 => simp
  intro v' w1 hown hgrow hnil
  go_wp2
  go_ret
  refine ⟨v', rfl, by simpa using hown, ?_⟩
  exact ((Below.refl _ w).alloc (Nat.le_refl _) _).grown hgrow (by simp) (by intro k hk; simp [Value.ownBlock] at hk; omega)
set_option maxHeartbeats 1000000 in
theorem clone_nil (n c : Nat) (w : World) : Calls Tryd.prog 50 #[.slice none n c] w fun e w' => e = .returned (.slice none 0 0) ∧ w' = w := by
  have q46 : ∀ (w : World) (a : Option Addr) (n c n' c' : Nat), (binOp .eql 46 (.slice a n c) (.slice none n' c')).run Tryd.prog w = .ok (.bool a.isNone) w := fun w a n c n' c' => Lib.run_eql_slice_nil w _ _ a n c n' c' Tryd.underlying46
  go_enter Tryd.func50, Tryd.ntmps50
  go_wp2
  go_ret
  exact ⟨rfl, rfl⟩
theorem cells_below {w w' : World} {V : Nat → Prop} (hb : Below w.heap.size w w') (hV : ∀ b, V b → b < w.heap.size) : Onto w (gV V) w' (gV V) :=
  ⟨fun _ h => h, fun b hb' => hb.block b (hV b hb'), fun _ h => h, fun _ _ => rfl⟩
theorem res1_below {w w' : World} {V : Nat → Prop} {E sz n : Nat} {cs : List AV} {u : Value} {B : List Nat} (hb : Below w.heap.size w w') (hV : ∀ b, V b → b < w.heap.size) (h : Res1 w V (.o E sz n cs) u B) : Res1 w' V (.o E sz n cs) u B := by
  obtain ⟨A, c, e1, e2, e3, e4, e5, e6, h⟩ := h
  refine ⟨A, c, e1, e2, e3, e4, e5, e6, ?_⟩
  rcases h with h | ⟨b, vs, g1, g2, g3, g4, g5, g6⟩
  · exact .inl h
  · have hlt : b < w.heap.size := (Array.getElem?_eq_some_iff.1 g3).1
    exact .inr ⟨b, vs, g1, g2, by rw [hb.block b hlt]; exact g3, g4, g5.onto (cells_below hb hV), g6⟩
/-- What is lent of a row, cloned. -/
theorem clone_ok (lo n N : Nat) (cs : List AV) (hlf : cs.all leafOk = true) (hln : lo + n ≤ N) (hbig : n * 8 ≤ 140737488355328) :
    LentOk Tryd.prog 50 [.t [.v (.bool false), ni lo, ni n, .o 48 1 N cs]] (.t [.o 48 1 n ((cs.drop lo).take n), .t [.t [.v (.bool false), ni lo, ni n, .o 48 1 N cs]]]) := by
  refine ⟨⟨_, Tryd.func50, by rfl, by rfl⟩, _, _, rfl, fun w V us crs B hV hL hnd => ?_⟩
  cases hL with
  | cons h k =>
    cases k
    cases h with
    | pl ht hc hr => exact absurd rfl (ht _)
    | row h hn h0 h1 =>
      rename_i B A0 c0 A c
      rw [List.append_nil] at hnd
      obtain ⟨A', c', e1, hlen, hNc, hcm, hsz, hcc, hrow⟩ := h
      have hR : Res1 w V (.o 48 1 N cs) (.slice A0 N c0) B := ⟨A', c', e1, hlen, hNc, hcm, hsz, hcc, hrow⟩
      simp only [Value.slice.injEq] at e1
      obtain ⟨rfl, -, rfl⟩ := e1
      have hcc2 : closedL ((cs.drop lo).take n) = true := by
        have e : cs = cs.take lo ++ ((cs.drop lo).take n ++ (cs.drop lo).drop n) := by rw [List.take_append_drop, List.take_append_drop]
        rw [e, closedL_append, closedL_append, Bool.and_eq_true, Bool.and_eq_true] at hcc
        exact hcc.2.1
      have hl2 : ((cs.drop lo).take n).length = n := by simp only [List.length_take, List.length_drop]; omega
      have hBw : ∀ b ∈ B, b < w.heap.size := by
        rcases hrow with ⟨_, rfl⟩ | ⟨b, vs, rfl, g2, g3, _⟩
        · intro b hb; cases hb
        · intro b' hb'
          simp only [List.mem_singleton] at hb'
          subst hb'
          exact (Array.getElem?_eq_some_iff.1 g3).1
      -- what comes back
      have hback : ∀ w' u B1, Below w.heap.size w w' → Res1 w' V (.o 48 1 n ((cs.drop lo).take n)) u B1 → B1.Nodup → (∀ b ∈ B1, w.heap.size ≤ b) →
          ∃ V' u' B1 B2, u = u' ∧ w'.os = w.os ∧ w'.tape = w.tape ∧ w'.output = w.output ∧ w.heap.size ≤ w'.heap.size ∧ (∀ k, k < w.heap.size → k ∉ B ++ [] → w'.heap[k]? = w.heap[k]?) ∧
          (∀ b, V b → V' b) ∧ (∀ b, V' b → (V b ∨ w.heap.size ≤ b ∨ b ∈ B ++ []) ∧ b < w'.heap.size) ∧ Res w' V' (.o 48 1 n ((cs.drop lo).take n)) u' B1 ∧ LentO w' V' [.t [.v (.bool false), ni lo, ni n, .o 48 1 N cs]] [.slice A n c] [⟨A0, c0⟩] B2 ∧ (B1 ++ B2).Nodup ∧ ∀ b ∈ B1 ++ B2, b ∈ B ++ [] ∨ w.heap.size ≤ b := by
        intro w' u B1 hbl hres hnd1 hB1
        refine ⟨V, u, B1, B ++ [], rfl, hbl.os, hbl.tape, hbl.output, hbl.size, fun k hk _ => hbl.block k hk, fun _ h => h, fun b hb => ⟨.inl hb, Nat.lt_of_lt_of_le (hV b hb) hbl.size⟩, hres, .cons (.row (res1_below hbl hV hR) hn h0 h1) .nil, ?_, ?_⟩
        · rw [List.append_nil]
          refine List.nodup_append.2 ⟨hnd1, hnd, fun b hb b' hb' e => ?_⟩
          have := hB1 b hb
          have := hBw b' hb'
          omega
        · intro b hb
          rw [List.append_nil] at hb ⊢
          rcases List.mem_append.1 hb with hb | hb
          · exact .inr (hB1 b hb)
          · exact .inl hb
      have hown : ∀ (w' : World) (v' : Value) (zs : List Value), Below w.heap.size w w' → w'.ownsRow w.heap.size 48 1 v' n zs → (∀ (j : Nat) (x : AV), ((cs.drop lo).take n)[j]? = some x → ∃ u, zs[j]? = some u ∧ Rep w (gV V) x u) → ∃ B1, Res1 w' V (.o 48 1 n ((cs.drop lo).take n)) v' B1 ∧ B1.Nodup ∧ ∀ b ∈ B1, w.heap.size ≤ b := by
        intro w' v' zs hbl ho hcell
        obtain ⟨hzl, ⟨rfl, hn0⟩ | ⟨g, cap, cur, rfl, hg, hgh, hcap, hcm, hcur, htake⟩⟩ := ho
        · subst hn0
          exact ⟨[], ⟨none, 0, rfl, by rw [hl2], Nat.le_refl _, by unfold maxLen; omega, by decide, hcc2, .inl ⟨rfl, rfl⟩⟩, List.nodup_nil, fun b hb => by cases hb⟩
        · refine ⟨[g], ⟨some ⟨g, 0, none⟩, cap, rfl, by rw [hl2, Nat.mul_one], hcap, hcm, by decide, hcc2, .inr ⟨g, cur, rfl, rfl, hgh, hcur, fun j x hj => ?_, fun hv => by have := hV g hv; omega⟩⟩, by simp, fun b hb => by simp only [List.mem_singleton] at hb; omega⟩
          obtain ⟨u, h2, h3⟩ := hcell j x hj
          refine ⟨u, ?_, h3.onto (cells_below hbl hV)⟩
          rw [← htake, List.getElem?_take] at h2
          split at h2
          · simpa using h2
          · cases h2
      by_cases hn0 : n = 0
      · subst hn0
        cases A with
        | none =>
          refine (clone_nil 0 c w).mono ?_
          rintro e w' ⟨rfl, rfl⟩
          obtain ⟨V', u', C1, C2, rfl, rest⟩ := hback w' _ [] (Below.refl _ _) ⟨none, 0, rfl, by simp, Nat.le_refl _, by unfold maxLen; omega, by decide, by simp [closedL],   .inl ⟨rfl, rfl⟩⟩ List.nodup_nil (fun b hb => by cases hb)
          exact ⟨V', _, C1, C2, rfl, rest⟩
        | some ad =>
          refine (clone_some ad 0 c [] w rfl (by omega) (fun j v hj => by simp at hj) (fun u hu => by cases hu)).mono ?_
          rintro e w' ⟨v', rfl, ho, hbl⟩
          obtain ⟨B1, k1, k2, k3⟩ := hown w' v' [] hbl ho (fun j x hj => by simp at hj)
          obtain ⟨V', u', C1, C2, rfl, rest⟩ := hback w' v' B1 hbl k1 k2 k3
          exact ⟨V', _, C1, C2, rfl, rest⟩
      · obtain ⟨b, rfl, rfl⟩ := h1 (by omega)
        rcases hrow with ⟨hc0, _⟩ | ⟨b', vs, rfl, g2, g3, g4, g5, g6⟩
        · omega
        · simp only [Option.some.injEq, Addr.mk.injEq, and_true] at g2
          subst g2
          have hvl : vs.toList.length = c0 := by simp [g4]
          have hzl : ((vs.toList.drop lo).take n).length = n := by simp only [List.length_take, List.length_drop, hvl]; omega
          have hzj : ∀ (j : Nat) v, ((vs.toList.drop lo).take n)[j]? = some v → j < n ∧ vs[lo + j]? = some v := by
            intro j v hj
            rw [List.getElem?_take] at hj
            split at hj
            · rename_i hlt
              rw [List.getElem?_drop] at hj
              exact ⟨hlt, by simpa using hj⟩
            · cases hj
          have hcj : ∀ (j : Nat) x, ((cs.drop lo).take n)[j]? = some x → j < n ∧ cs[lo + j]? = some x := by
            intro j x hj
            rw [List.getElem?_take] at hj
            split at hj
            · rename_i hlt
              rw [List.getElem?_drop] at hj
              exact ⟨hlt, hj⟩
            · cases hj
          refine (clone_some ⟨b, lo, none⟩ n c ((vs.toList.drop lo).take n) w hzl hbig (fun j v hj => ?_) (fun u hu => ?_)).mono ?_
          · obtain ⟨_, h2⟩ := hzj j v hj
            rw [Addr.add_lit, cell_at w b _ vs _ _ g3]
            exact h2
          · obtain ⟨j, hj⟩ := List.mem_iff_getElem?.1 hu
            obtain ⟨hlt, h2⟩ := hzj j u hj
            have hcl : lo + j < cs.length := by rw [hlen]; omega
            obtain ⟨u', h3, h4⟩ := g5 (lo + j) _ (List.getElem?_eq_getElem hcl)
            rw [h2] at h3
            obtain rfl := Option.some.inj h3
            exact leafOk_one h4 (List.all_eq_true.1 hlf _ (List.getElem_mem hcl))
          · rintro e w' ⟨v', rfl, ho, hbl⟩
            obtain ⟨B1, k1, k2, k3⟩ := hown w' v' _ hbl ho (fun j x hj => by
              obtain ⟨hlt, h2⟩ := hcj j x hj
              obtain ⟨u, h3, h4⟩ := g5 (lo + j) x h2
              refine ⟨u, ?_, h4⟩
              rw [List.getElem?_take, if_pos hlt, List.getElem?_drop]
              simpa using h3)
            obtain ⟨V', u', C1, C2, rfl, rest⟩ := hback w' v' B1 hbl k1 k2 k3
            exact ⟨V', _, C1, C2, rfl, rest⟩
theorem clone_ok0 : LentOk Tryd.prog 50 [.s true 0 []] (.t [.o 48 1 0 [], .t [.s true 0 []]]) := by
  refine ⟨⟨_, Tryd.func50, by rfl, by rfl⟩, _, _, rfl, fun w V us crs B hV hL hnd => ?_⟩
  cases hL with
  | cons h k =>
    cases k
    cases h with
    | pl ht hc hr =>
      have hback : ∀ w' u B1, Below w.heap.size w w' → Res1 w' V (.o 48 1 0 []) u B1 → B1.Nodup → (∀ b ∈ B1, w.heap.size ≤ b) → ∀ us0, Rep w (gV V) (.s true 0 []) us0 →
          ∃ V' u' B1 B2, u = u' ∧ w'.os = w.os ∧ w'.tape = w.tape ∧ w'.output = w.output ∧ w.heap.size ≤ w'.heap.size ∧ (∀ k, k < w.heap.size → k ∉ ([] ++ [] : List Nat) → w'.heap[k]? = w.heap[k]?) ∧
          (∀ b, V b → V' b) ∧ (∀ b, V' b → (V b ∨ w.heap.size ≤ b ∨ b ∈ ([] ++ [] : List Nat)) ∧ b < w'.heap.size) ∧ Res w' V' (.o 48 1 0 []) u' B1 ∧ LentO w' V' [.s true 0 []] [us0] [⟨none, 0⟩] B2 ∧ (B1 ++ B2).Nodup ∧ ∀ b ∈ B1 ++ B2, b ∈ ([] ++ [] : List Nat) ∨ w.heap.size ≤ b := by
        intro w' u B1 hbl hres hnd1 hB1 us0 hus
        refine ⟨V, u, B1, [] ++ [], rfl, hbl.os, hbl.tape, hbl.output, hbl.size, fun k hk _ => hbl.block k hk, fun _ h => h, fun b hb => ⟨.inl hb, Nat.lt_of_lt_of_le (hV b hb) hbl.size⟩, hres, .cons (.pl (by intro xs e; cases e) rfl (hus.onto (cells_below hbl hV))) .nil, ?_, ?_⟩
        · simpa using hnd1
        · intro b hb
          simp only [List.append_nil] at hb
          exact .inr (hB1 b hb)
      have hr2 := hr
      cases hr with
      | s ex n c cs A us hnc he k1 k2 =>
        cases A with
        | none =>
          refine (clone_nil 0 c w).mono ?_
          rintro e w' ⟨rfl, rfl⟩
          obtain ⟨V', u', C1, C2, rfl, rest⟩ := hback w' _ [] (Below.refl _ _) ⟨none, 0, rfl, by simp, Nat.le_refl _, by unfold maxLen; omega, by decide, by simp [closedL], .inl ⟨rfl, rfl⟩⟩ List.nodup_nil (fun b hb => by cases hb) _ hr2
          exact ⟨V', _, C1, C2, rfl, rest⟩
        | some ad =>
          refine (clone_some ad 0 c [] w rfl (by omega) (fun j v hj => by simp at hj) (fun u hu => by cases hu)).mono ?_
          rintro e w' ⟨v', rfl, ho, hbl⟩
          obtain ⟨hzl, ⟨rfl, hn0⟩ | ⟨g, cap, cur, rfl, hg, hgh, hcap, hcm, hcur, htake⟩⟩ := ho
          · obtain ⟨V', u', C1, C2, rfl, rest⟩ := hback w' _ [] hbl ⟨none, 0, rfl, by simp, Nat.le_refl _, by unfold maxLen; omega, by decide, by simp [closedL], .inl ⟨rfl, rfl⟩⟩ List.nodup_nil (fun b hb => by cases hb) _ hr2
            exact ⟨V', _, C1, C2, rfl, rest⟩
          · obtain ⟨V', u', C1, C2, rfl, rest⟩ := hback w' _ [g] hbl ⟨some ⟨g, 0, none⟩, cap, rfl, by simp, hcap, hcm, by decide, by simp [closedL], .inr ⟨g, cur, rfl, rfl, hgh, hcur, fun j x hj => by simp at hj, fun hv => by have := hV g hv; omega⟩⟩ (by simp) (fun b hb => by simp only [List.mem_singleton] at hb; omega) _ hr2
            exact ⟨V', _, C1, C2, rfl, rest⟩
/-- What is known of slices.Clone. -/
def handC (f : FuncId) (xs : List AV) : Option AV :=
  if f = 50 then (match xs with
    | [.s true 0 []] => some (.t [.o 48 1 0 [], .t [.s true 0 []]])
    | [.t [.v (.bool false), .v (.int .i64 lo), .v (.int .i64 n), .o E sz N cs]] =>
      if E = 48 ∧ sz = 1 ∧ 0 ≤ lo ∧ 0 ≤ n ∧ cs.all leafOk = true ∧ lo.toNat + n.toNat ≤ N ∧ n.toNat * 8 ≤ 140737488355328 then
        some (.t [.o 48 1 n.toNat ((cs.drop lo.toNat).take n.toNat), .t [.t [.v (.bool false), .v (.int .i64 lo), .v (.int .i64 n), .o E sz N cs]]])
      else none
    | _ => none) else none
theorem handC_ok (f : FuncId) (xs : List AV) (x : AV) (h : handC f xs = some x) : f = 50 ∧ LentOk Tryd.prog f xs x := by
  unfold handC at h
  split at h
  case isFalse => cases h
  rename_i hf
  subst hf
  refine ⟨rfl, ?_⟩
  split at h
  · obtain rfl := Option.some.inj h
    exact clone_ok0
  · split at h
    · rename_i hc
      obtain ⟨rfl, rfl, h1, h2, h3, h4, h5⟩ := hc
      obtain rfl := Option.some.inj h
      obtain ⟨lo', e1⟩ := Int.eq_ofNat_of_zero_le h1
      obtain ⟨n', e2⟩ := Int.eq_ofNat_of_zero_le h2
      subst e1
      subst e2
      exact clone_ok lo' n' _ _ h3 h4 h5
    · cases h
  · cases h
end
end Go.Proofs.YtkmnidbodlmaaaaDoor.Ev

/-
The engine at this seat: slices.Sort and slices.Compact of a row of texts that is lent.
-/
namespace Go.Proofs.YtkmnidbodlmaaaaDoor.Ev
section
set_option linter.unusedVariables false
set_option linter.unusedSimpArgs false
open Go Go.RowKit Go.Lib Go.Sort
set_option linter.unusedVariables false
set_option linter.unusedSimpArgs false
theorem lent_row1 {w : World} {V : Nat → Prop} {N E : Nat} {cs : List AV} {us : List Value} {crs : List CR} {B : List Nat} (h : LentL w V [lentR N E 1 cs] us crs B) :
    ∃ A c, us = [.slice A N c] ∧ crs = [⟨A, c⟩] ∧ Res1 w V (.o E 1 N cs) (.slice A N c) B := by
  cases h with
  | cons h k =>
    cases k
    generalize hq : lentR N E 1 cs = q at h
    cases h with
    | pl ht hc hr => exact absurd hq.symm (ht _)
    | ob => simp [lentR] at hq
    | @row lo n E' sz' N' cs' A0 c0 A c B h hn h0 h1 =>
      simp only [lentR, ni, AV.t.injEq, List.cons.injEq, AV.v.injEq, Value.int.injEq, AV.o.injEq, true_and, and_true] at hq
      obtain ⟨h2, h3, rfl, rfl, rfl, rfl⟩ := hq
      have h2' : lo = 0 := by omega
      have h3' : n = N := by omega
      subst h2'
      subst h3'
      obtain ⟨rfl, rfl⟩ := h0 rfl
      exact ⟨_, _, rfl, rfl, by rw [List.append_nil]; exact h⟩
theorem row_owns {w : World} {V : Nat → Prop} {E N c b : Nat} {L : List (List UInt8)} {vs : Array Value} (hl : L.length = N) (hN : N ≤ c) (hm : c ≤ maxLen) (h1 : w.heap[b]? = some (.cells vs E (0, 0))) (h2 : vs.size = c * 1) (h3 : Cells w (gV V) (strs L) vs) :
    w.ownsRow 0 E 1 (.slice (some ⟨b, 0, none⟩) N c) N (L.map encStr) := by
  refine ⟨by simp [hl], .inr ⟨b, c, vs, rfl, Nat.zero_le _, h1, hN, hm, h2, ?_⟩⟩
  apply List.ext_getElem?
  intro j
  rw [List.getElem?_take, List.getElem?_map]
  by_cases hj : j < N
  · rw [if_pos (by omega)]
    have hj2 : (strs L)[j]? = some (S (L[j]'(by omega))) := by rw [strs_get, List.getElem?_eq_getElem (by omega)]; rfl
    obtain ⟨u, g1, g2⟩ := h3 j _ hj2
    rw [show L[j]? = some (L[j]'(by omega)) from List.getElem?_eq_getElem (by omega)]
    rw [rep_v_inv g2] at g1
    simpa using g1
  · rw [if_neg (by omega), show L[j]? = none from List.getElem?_eq_none (by omega)]
    rfl
theorem owns_res {w' : World} {V : Nat → Prop} {E k c b : Nat} {M : List (List UInt8)} (ho : w'.ownsRow 0 E 1 (.slice (some ⟨b, 0, none⟩) k c) k (M.map encStr)) (hV : ¬ V b) : Res1 w' V (.o E 1 k (strs M)) (.slice (some ⟨b, 0, none⟩) k c) [b] := by
  obtain ⟨h1, ⟨h2, _⟩ | ⟨g, cap, cur, h2, h3, h4, h5, h6, h7, h8⟩⟩ := ho
  · cases h2
  · simp only [Value.slice.injEq, Option.some.injEq, Addr.mk.injEq, true_and, and_true] at h2
    obtain ⟨rfl, rfl⟩ := h2
    have hM : M.length = k := by simpa using h1
    refine ⟨_, _, rfl, by rw [strs_len, hM, Nat.mul_one], h5, h6, by decide, strs_closed _, .inr ⟨b, cur, rfl, rfl, h4, h7, fun j x hj => ?_, hV⟩⟩
    rw [strs_get] at hj
    obtain ⟨s, hs, rfl⟩ := Option.map_eq_some_iff.1 hj
    have hjk : j < k := by
      have := (List.getElem?_eq_some_iff.1 hs).1
      omega
    have := congrArg (fun z => z[j]?) h8
    simp only [List.getElem?_take, List.getElem?_map, hs, Option.map_some] at this
    rw [if_pos (by omega)] at this
    exact ⟨encStr s, by simpa using this, .v _⟩
theorem put_frame {w : World} {q b : Nat} {d : Array (List UInt8)} (k : Nat) (hk : k ≠ b) : (putRow encStr (Sort.ahead w q) b 0 d).heap[k]? = w.heap[k]? := by
  simp [putRow, mapBlock, Sort.ahead, Array.getElem?_modify, Ne.symm hk]
theorem put_size {w : World} {q b : Nat} {d : Array (List UInt8)} : (putRow encStr (Sort.ahead w q) b 0 d).heap.size = w.heap.size := by
  simp [putRow, mapBlock, Sort.ahead]
def sortS (L : List (List UInt8)) : List (List UInt8) := L.mergeSort fun x y => decide (x ≤ y)
theorem sort_ok (L : List (List UInt8)) (hL : L.length < 4611686018427387904) : LentOk Tryd.prog 87 [lentR L.length 9 1 (strs L)] (.t [.t [], .t [lentR L.length 9 1 (strs (sortS L))]]) := by
  refine ⟨⟨_, Tryd.func87, by rfl, by rfl⟩, _, _, rfl, fun w V us crs B hV hLL hnd => ?_⟩
  obtain ⟨A, c, rfl, rfl, hR⟩ := lent_row1 hLL
  have hR2 := hR
  obtain ⟨A', c', e1, hlen, hNc, hcm, hsz, hcc, hrow⟩ := hR
  simp only [Value.slice.injEq] at e1
  obtain ⟨rfl, -, rfl⟩ := e1
  by_cases hn0 : L.length = 0
  · have hLn : L = [] := by simpa using hn0
    subst hLn
    refine (Tryd.slices_Sort_string_none A c w).mono ?_
    rintro e w' ⟨rfl, rfl⟩
    refine ⟨V, _, [], B ++ [], rfl, rfl, rfl, rfl, Nat.le_refl _, fun _ _ _ => rfl, fun _ h => h, fun b hb => ⟨.inl hb, hV b hb⟩, ⟨#[], rfl, .nil⟩, .cons (by rw [show sortS [] = [] by simp [sortS]]; exact .row hR2 hNc (fun _ => ⟨rfl, rfl⟩) (fun h => absurd h (by simp))) .nil, by simpa using hnd, fun b hb => .inl (by simpa using hb)⟩
  · rcases hrow with ⟨hc0, _⟩ | ⟨b, vs, rfl, rfl, g3, g4, g5, g6⟩
    · omega
    · have hlt : b < w.heap.size := (Array.getElem?_eq_some_iff.1 g3).1
      have ho := row_owns (E := 9) rfl hNc hcm g3 g4 g5
      obtain ⟨g, cap, hg, _, _, _, _, _, hH⟩ := holds_of_ownsRow ho (by intro h; cases h)
      simp only [Value.slice.injEq, Option.some.injEq, Addr.mk.injEq, true_and, and_true] at hg
      obtain ⟨rfl, rfl⟩ := hg
      refine (Tryd.slices_Sort_string b 0 c L w hH hlt hL).mono ?_
      rintro e w' ⟨rfl, q, os, hw⟩
      have hw2 : w' = grow (putRow encStr (Sort.ahead w q) b 0 (sortS L).toArray) os := hw
      clear hw
      subst hw2
      have hsl : (sortS L).length = L.length := by simp [sortS, List.length_mergeSort]
      have ho2 := ownsRow_putRow (q := q) (k := L.length) (ys := sortS L) ho hsl (Nat.le_refl _)
      rw [List.take_of_length_le (by omega)] at ho2
      have hgr : ∀ k, k < w.heap.size → (grow (putRow encStr (Sort.ahead w q) b 0 (sortS L).toArray) os).heap[k]? = (putRow encStr (Sort.ahead w q) b 0 (sortS L).toArray).heap[k]? := by
        intro k hk
        simp only [grow]
        rw [Array.getElem?_append_left (by rw [put_size]; exact hk)]
      have ho3 : (grow (putRow encStr (Sort.ahead w q) b 0 (sortS L).toArray) os).ownsRow 0 9 1 (.slice (some ⟨b, 0, none⟩) L.length c) L.length ((sortS L).map encStr) := by
        obtain ⟨k1, ⟨k2, _⟩ | ⟨g, cap, cur, k2, k3, k4, k5, k6, k7, k8⟩⟩ := ho2
        · cases k2
        · simp only [Value.slice.injEq, Option.some.injEq, Addr.mk.injEq, true_and, and_true] at k2
          obtain ⟨rfl, rfl⟩ := k2
          exact ⟨k1, .inr ⟨b, c, cur, rfl, k3, by rw [hgr b hlt]; exact k4, k5, k6, k7, k8⟩⟩
      have hres := owns_res (V := V) ho3 g6
      refine ⟨V, _, [], [b] ++ [], rfl, rfl, rfl, rfl, ?_, fun k hk hkb => ?_, fun _ h => h, fun b' hb => ⟨.inl hb, ?_⟩, ⟨#[], rfl, .nil⟩, .cons (.row hres hNc (fun _ => ⟨rfl, rfl⟩) (fun _ => ⟨b, rfl, rfl⟩)) .nil, by simp, fun b' hb => .inl (by simpa using hb)⟩
      · simp only [grow, Array.size_append, put_size]; omega
      · rw [hgr k hk, put_frame k (by simpa using hkb)]
      · have := hV b' hb
        simp only [grow, Array.size_append, put_size]; omega
theorem compact_ok (L : List (List UInt8)) (hL : L.length < 4611686018427387904) : LentOk Tryd.prog 88 [lentR L.length 9 1 (strs L)] (.t [.o 9 1 (Lib.compact L).length (strs (Lib.compact L)), .t [.t []]]) := by
  refine ⟨⟨_, Tryd.func88, by rfl, by rfl⟩, _, _, rfl, fun w V us crs B hV hLL hnd => ?_⟩
  obtain ⟨A, c, rfl, rfl, hR⟩ := lent_row1 hLL
  have hR2 := hR
  obtain ⟨A', c', e1, hlen, hNc, hcm, hsz, hcc, hrow⟩ := hR
  simp only [Value.slice.injEq] at e1
  obtain ⟨rfl, -, rfl⟩ := e1
  by_cases hn0 : L.length = 0
  · have hLn : L = [] := by simpa using hn0
    subst hLn
    refine (Tryd.slices_Compact_string_empty A c w).mono ?_
    rintro e w' ⟨rfl, rfl⟩
    refine ⟨V, _, B, [], rfl, rfl, rfl, rfl, Nat.le_refl _, fun _ _ _ => rfl, fun _ h => h, fun b hb => ⟨.inl hb, hV b hb⟩, hR2, .gone .nil, by simpa using hnd, fun b hb => .inl (by simpa using hb)⟩
  · rcases hrow with ⟨hc0, _⟩ | ⟨b, vs, rfl, rfl, g3, g4, g5, g6⟩
    · omega
    · have hlt : b < w.heap.size := (Array.getElem?_eq_some_iff.1 g3).1
      have ho := row_owns (E := 9) rfl hNc hcm g3 g4 g5
      obtain ⟨g, cap, hg, _, _, _, _, _, hH⟩ := holds_of_ownsRow ho (by intro h; cases h)
      simp only [Value.slice.injEq, Option.some.injEq, Addr.mk.injEq, true_and, and_true] at hg
      obtain ⟨rfl, rfl⟩ := hg
      refine (Tryd.slices_Compact_string b 0 c L w hH (by omega) hNc).mono ?_
      rintro e w' ⟨rfl, q, rfl⟩
      have hcl : (Lib.compact L).length ≤ L.length := by
        unfold Lib.compact Lib.compactUpTo
        rw [List.length_map]
        have := List.length_filter_le (Lib.keeps L.toArray) (List.range L.length)
        simpa using this
      have ho2 := ownsRow_putRow (q := q) (k := (Lib.compact L).length) (ys := Lib.compact L ++ List.replicate (L.length - (Lib.compact L).length) []) ho (by simp; omega) hcl
      rw [List.take_append_of_le_length (Nat.le_refl _), List.take_length] at ho2
      have hres := owns_res (V := V) ho2 g6
      refine ⟨V, _, [b], [], rfl, rfl, rfl, rfl, ?_, fun k hk hkb => ?_, fun _ h => h, fun b' hb => ⟨.inl hb, ?_⟩, hres, .gone .nil, by simp, fun b' hb => .inl (by simpa using hb)⟩
      · rw [put_size]; exact Nat.le_refl _
      · rw [put_frame k (by simpa using hkb)]
      · have := hV b' hb
        rw [put_size]; exact this
theorem sort_ok0 : LentOk Tryd.prog 87 [.s true 0 []] (.t [.t [], .t [.s true 0 []]]) := by
  refine ⟨⟨_, Tryd.func87, by rfl, by rfl⟩, _, _, rfl, fun w V us crs B hV hL hnd => ?_⟩
  cases hL with
  | cons h k =>
    cases k
    cases h with
    | pl ht hc hr =>
      have hr2 := hr
      cases hr with
      | s ex n c cs A us hnc he k1 k2 =>
        refine (Tryd.slices_Sort_string_none A c w).mono ?_
        rintro e w' ⟨rfl, rfl⟩
        exact ⟨V, _, [], [] ++ [], rfl, rfl, rfl, rfl, Nat.le_refl _, fun _ _ _ => rfl, fun _ h => h, fun b hb => ⟨.inl hb, hV b hb⟩, ⟨#[], rfl, .nil⟩, .cons (.pl (by intro xs e; cases e) rfl hr2) .nil, by simp, fun b hb => by simp at hb⟩
theorem compact_ok0 : LentOk Tryd.prog 88 [.s true 0 []] (.t [.s true 0 [], .t [.s true 0 []]]) := by
  refine ⟨⟨_, Tryd.func88, by rfl, by rfl⟩, _, _, rfl, fun w V us crs B hV hL hnd => ?_⟩
  cases hL with
  | cons h k =>
    cases k
    cases h with
    | pl ht hc hr =>
      have hr2 := hr
      cases hr with
      | s ex n c cs A us hnc he k1 k2 =>
        refine (Tryd.slices_Compact_string_empty A c w).mono ?_
        rintro e w' ⟨rfl, rfl⟩
        exact ⟨V, _, [], [] ++ [], rfl, rfl, rfl, rfl, Nat.le_refl _, fun _ _ _ => rfl, fun _ h => h, fun b hb => ⟨.inl hb, hV b hb⟩, ⟨rfl, rfl, hr2⟩, .cons (.pl (by intro xs e; cases e) rfl hr2) .nil, by simp, fun b hb => by simp at hb⟩
end
end Go.Proofs.YtkmnidbodlmaaaaDoor.Ev

/-
The engine at this seat: what the shelf tells (strings.Contains, Index, Count with one byte, HasPrefix, Join).
-/
namespace Go.Proofs.YtkmnidbodlmaaaaDoor.Ev
section
set_option linter.unusedVariables false
set_option linter.unusedSimpArgs false
open Go Go.RowKit
set_option linter.unusedVariables false

/-- The texts that cells are. -/
def unSL : List AV → Option (List (List UInt8))
  | [] => some []
  | .v (.string s) :: xs => (unSL xs).map (s.data.toList :: ·)
  | _ => none
theorem unSL_strs : ∀ l, unSL (strs l) = some l
  | [] => rfl
  | x :: l => by simp only [strs_cons, unSL, unSL_strs l, Option.map_some]
theorem unSL_get : ∀ {cs : List AV} {l : List (List UInt8)}, unSL cs = some l → cs = strs l
  | [], l, h => by
    obtain rfl := Option.some.inj h
    rfl
  | c :: cs, l, h => by
    unfold unSL at h
    split at h
    · obtain rfl := Option.some.inj h; rename_i h2; cases h2
    · rename_i s xs h2
      obtain ⟨rfl, rfl⟩ := List.cons.inj h2
      obtain ⟨l', h3, rfl⟩ := Option.map_eq_some_iff.1 h
      rw [strs_cons, unSL_get h3]
    · cases h

def hand2 (f : FuncId) (s : ByteArray) (p : ByteArray) : Option AV :=
  if f = 113 then some (.v (.bool (Lib.hasPrefix s.data.toList p.data.toList)))
  else if f = 77 then (match p.data.toList with | [c] => some (.v (.bool (decide (0 ≤ Lib.indexByte s.data.toList c)))) | _ => none)
  else if f = 103 then (match p.data.toList with | [c] => some (.v (.int .i64 (Lib.indexByte s.data.toList c))) | _ => none)
  else if f = 102 then (match p.data.toList with | [c] => some (.v (.int .i64 (Lib.countByte s.data.toList c : Nat))) | _ => none)
  else none
def handJ (f : FuncId) (n : Nat) (cs : List AV) (sep : ByteArray) : Option AV :=
  if f = 60 then (unSL cs).bind fun l => if l.length = n ∧ n ≤ 140737488355328 ∧ (Lib.join l sep.data.toList).length ≤ 140737488355328 then some (.v (.string ⟨(Lib.join l sep.data.toList).toArray⟩)) else none else none
/-- What is known of slices.Sort and slices.Compact. -/
def handS (f : FuncId) (xs : List AV) : Option AV :=
  match xs with
  | [.s true 0 []] => if f = 87 then some (.t [.t [], .t [.s true 0 []]]) else if f = 88 then some (.t [.s true 0 [], .t [.s true 0 []]]) else none
  | [.t [.v (.bool false), .v (.int .i64 lo), .v (.int .i64 n), .o E sz N cs]] => (unSL cs).bind fun L =>
    if E = 9 ∧ sz = 1 ∧ lo = 0 ∧ n = (L.length : Int) ∧ N = L.length ∧ L.length < 4611686018427387904 then
      (if f = 87 then some (.t [.t [], .t [lentR L.length 9 1 (strs (sortS L))]])
      else if f = 88 then some (.t [.o 9 1 (Lib.compact L).length (strs (Lib.compact L)), .t [.t []]]) else none)
    else none
  | _ => none
theorem handS_ok (f : FuncId) (xs : List AV) (x : AV) (h : handS f xs = some x) : (f = 87 ∨ f = 88) ∧ LentOk Tryd.prog f xs x := by
  unfold handS at h
  split at h
  · split at h
    · rename_i hf
      subst hf
      obtain rfl := Option.some.inj h
      exact ⟨.inl rfl, sort_ok0⟩
    split at h
    · rename_i hf
      subst hf
      obtain rfl := Option.some.inj h
      exact ⟨.inr rfl, compact_ok0⟩
    · cases h
  · obtain ⟨L, hL, h2⟩ := Option.bind_eq_some_iff.1 h
    obtain rfl := unSL_get hL
    split at h2
    · rename_i hc
      obtain ⟨rfl, rfl, rfl, rfl, rfl, hlt⟩ := hc
      split at h2
      · rename_i hf
        subst hf
        obtain rfl := Option.some.inj h2
        exact ⟨.inl rfl, sort_ok L hlt⟩
      split at h2
      · rename_i hf
        subst hf
        obtain rfl := Option.some.inj h2
        exact ⟨.inr rfl, compact_ok L hlt⟩
      · cases h2
    · cases h2
  · cases h
def hand : Sem1 := fun f xs => match xs with
  | [.v (.string s), .v (.string p)] => hand2 f s p
  | [.s _ n cs, .v (.string sep)] => handJ f n cs sep
  | xs => match handC f xs with
    | some x => some x
    | none => handS f xs

theorem hand_mem (f : FuncId) (xs : List AV) (r : AV) (h : hand f xs = some r) : f = 113 ∨ f = 77 ∨ f = 103 ∨ f = 102 ∨ f = 60 ∨ f = 50 ∨ f = 87 ∨ f = 88 := by
  unfold hand at h
  split at h
  · unfold hand2 at h
    repeat' split at h
    all_goals first
      | (cases h; done)
      | simp_all
  · unfold handJ at h
    split at h
    · simp_all
    · cases h
  · split at h
    · rename_i hx
      have := (handC_ok _ _ _ hx).1
      simp_all
    · rcases (handS_ok _ _ _ h).1 with h | h <;> simp_all
theorem one_byte {p : ByteArray} {c : UInt8} (hc : p.data.toList = [c]) : p = ⟨#[c]⟩ := by
  cases p
  rename_i d
  simp only at hc
  rw [show d = d.toList.toArray from rfl, hc]
theorem hand2_ok (f : FuncId) (s p : ByteArray) (x : AV) (h : hand2 f s p = some x) : PureOk Tryd.prog f [.v (.string s), .v (.string p)] x := by
  unfold hand2 at h
  split at h
  · rename_i hf
    subst hf
    obtain rfl := Option.some.inj h
    exact pureOk_of_calls Tryd.func113 (by rfl) (by rfl) [.string s, .string p] _ fun w => Tryd.strings_HasPrefix s p w
  split at h
  · rename_i hf
    subst hf
    split at h
    · rename_i c hc
      obtain rfl := Option.some.inj h
      obtain rfl := one_byte hc
      exact pureOk_of_calls Tryd.func77 (by rfl) (by rfl) [.string s, .string ⟨#[c]⟩] _ fun w => Tryd.strings_Contains_one s c w
    · cases h
  split at h
  · rename_i hf
    subst hf
    split at h
    · rename_i c hc
      obtain rfl := Option.some.inj h
      obtain rfl := one_byte hc
      exact pureOk_of_calls Tryd.func103 (by rfl) (by rfl) [.string s, .string ⟨#[c]⟩] _ fun w => Tryd.strings_Index_one s c w
    · cases h
  split at h
  · rename_i hf
    subst hf
    split at h
    · rename_i c hc
      obtain rfl := Option.some.inj h
      obtain rfl := one_byte hc
      exact pureOk_of_calls Tryd.func102 (by rfl) (by rfl) [.string s, .string ⟨#[c]⟩] _ fun w => Tryd.strings_Count_one s c w
    · cases h
  · cases h
theorem spot_of_cell {w : World} {ad : Addr} {v : Value} (h : w.cell? ad = some v) : ad.spot = none := by
  unfold World.cell? at h
  cases hs : ad.spot with
  | none => rfl
  | some k =>
    rw [hs] at h
    split at h <;> simp at h
theorem handJ_ok (f : FuncId) (ex : Bool) (n : Nat) (cs : List AV) (sep : ByteArray) (x : AV) (h : handJ f n cs sep = some x) : PureOk Tryd.prog f [.s ex n cs, .v (.string sep)] x := by
  unfold handJ at h
  split at h
  case isFalse => cases h
  rename_i hf
  subst hf
  obtain ⟨l, hl, h2⟩ := Option.bind_eq_some_iff.1 h
  clear h
  split at h2
  case isFalse => cases h2
  rename_i hc
  obtain ⟨rfl, hn, hb⟩ := hc
  obtain rfl := Option.some.inj h2
  obtain rfl := unSL_get hl
  refine ⟨⟨_, Tryd.func60, by rfl, by rfl⟩, fun w V us hV hlen hr => ?_⟩
  obtain ⟨u0, u1, rfl⟩ : ∃ u0 u1, us = [u0, u1] := by
    match us, hlen with
    | [u0, u1], _ => exact ⟨_, _, rfl⟩
  have h0 := hr 0 _ u0 rfl rfl
  have h1 := rep_v_inv (hr 1 _ u1 rfl rfl)
  subst h1
  cases h0 with
  | s _ _ c _ A us hnc he k1 k2 =>
    have hfin : ∀ w', Below w.heap.size w w' → ∃ V' u B, (.string ⟨(Lib.join l sep.data.toList).toArray⟩ : Value) = u ∧ Below w.heap.size w w' ∧ (∀ b, V b → V' b) ∧ (∀ b, V' b → (V b ∨ w.heap.size ≤ b) ∧ b < w'.heap.size) ∧ Res w' V' (.v (.string ⟨(Lib.join l sep.data.toList).toArray⟩)) u B ∧ B.Nodup ∧ ∀ b ∈ B, w.heap.size ≤ b ∧ b < w'.heap.size := fun w' hbl =>
      ⟨V, _, [], rfl, hbl, fun _ h => h, fun b hb => ⟨.inl hb, Nat.lt_of_lt_of_le (hV b hb) hbl.size⟩, ⟨rfl, rfl, .v _⟩, List.nodup_nil, fun b hb => by cases hb⟩
    have hmap : l.map (fun s => (⟨s.toArray⟩ : ByteArray).data.toList) = l := by simp
    by_cases hnil : l = []
    · subst hnil
      refine (Tryd.strings_Join_none A c sep w).mono ?_
      rintro e w' ⟨rfl, rfl⟩
      obtain ⟨V', u, B, rfl, k⟩ := hfin w' (Below.refl _ _)
      exact ⟨V', _, B, rfl, k⟩
    · obtain ⟨s0, l', rfl⟩ : ∃ s0 l', l = s0 :: l' := by cases l <;> simp_all
      obtain ⟨ad, rfl, hVa, hc0⟩ := k1 0 _ rfl
      have hcell : ∀ (j : Nat) s, (s0 :: l')[j]? = some s → w.cell? (ad.add j) = some (.string ⟨s.toArray⟩) := by
        intro j s hj
        have hj2 : (strs (s0 :: l'))[j]? = some (S s) := by rw [strs_get, hj]; rfl
        obtain ⟨ad2, e2, _, h5⟩ := k1 j _ hj2
        obtain rfl := Option.some.inj e2
        rw [h5, rep_v_inv (k2 j _ hj2)]
      have h00 := hcell 0 s0 rfl
      rw [Addr.add, if_pos rfl] at h00
      have hsp := spot_of_cell h00
      obtain ⟨bk, o, sp⟩ := ad
      simp only at hsp
      subst hsp
      have hj := Tryd.strings_Join bk o c ((s0 :: l').map fun s => ⟨s.toArray⟩) sep w (fun j x hx => by
        rw [List.getElem?_map] at hx
        obtain ⟨s, hs, rfl⟩ := Option.map_eq_some_iff.1 hx
        have := hcell j s hs
        unfold Addr.add at this
        by_cases hj0 : j = 0
        · subst hj0
          simpa using this
        · simpa [hj0] using this) (hV _ hVa) (by simpa using hn) (by simpa using hnc) (by simpa [List.map_map, Function.comp_def] using hb)
      simp only [List.length_map, List.map_map, Function.comp_def] at hj
      rw [hmap] at hj
      refine hj.mono ?_
      rintro e w' ⟨rfl, hbl⟩
      obtain ⟨V', u, B, rfl, k⟩ := hfin w' hbl
      exact ⟨V', _, B, rfl, k⟩
theorem hand2_mem (f : FuncId) (s p : ByteArray) (x : AV) (h : hand2 f s p = some x) : pf f ≠ 2 := by
  unfold hand2 at h
  split at h
  · rename_i hf; rw [hf]; decide
  split at h
  · rename_i hf; rw [hf]; decide
  split at h
  · rename_i hf; rw [hf]; decide
  split at h
  · rename_i hf; rw [hf]; decide
  · cases h
theorem handJ_mem (f : FuncId) (n : Nat) (cs : List AV) (sep : ByteArray) (x : AV) (h : handJ f n cs sep = some x) : pf f ≠ 2 := by
  unfold handJ at h
  split at h
  · rename_i hf; rw [hf]; decide
  · cases h
theorem hand_ok (f : FuncId) (xs : List AV) (x : AV) (h : hand f xs = some x) : FOk Tryd.prog pf f xs x := by
  unfold FOk
  unfold hand at h
  split at h
  · rw [if_neg (hand2_mem _ _ _ _ h)]
    exact hand2_ok _ _ _ _ h
  · rw [if_neg (handJ_mem _ _ _ _ _ h)]
    exact handJ_ok _ _ _ _ _ _ h
  · split at h
    · rename_i hx
      obtain rfl := Option.some.inj h
      obtain ⟨rfl, hl⟩ := handC_ok _ _ _ hx
      rw [if_pos (by decide)]
      exact hl
    · obtain ⟨h1, hl⟩ := handS_ok _ _ _ h
      rw [if_pos (by rcases h1 with rfl | rfl <;> decide)]
      exact hl
end
end Go.Proofs.YtkmnidbodlmaaaaDoor.Ev

/-
The engine at this seat: modes of calls, options, what functions give (EE), the rows of types.
-/
namespace Go.Proofs.YtkmnidbodlmaaaaDoor.Ev
section
set_option linter.unusedVariables false
set_option linter.unusedSimpArgs false
open Go Go.RowKit
set_option linter.unusedVariables false
/-- Functions that the hand knows are not run. -/
noncomputable def TT : FuncId → Option (Func × Code) := fun f => if f = 77 ∨ f = 113 ∨ f = 103 ∨ f = 102 ∨ f = 60 ∨ f = 50 ∨ f = 87 ∨ f = 88 then none else fitT Tryd.prog pf opt (fun _ _ => []) f
noncomputable def II : Tab := tabOf Tryd.prog
theorem follows_ok : Tryd.prog.follows .mixedOrders = true := by kernel_rfl
theorem le_of_ble {a b : Nat} (h : Nat.ble a b = true) : a ≤ b := Nat.le_of_ble_eq_true h
theorem size_ok : Tryd.prog.funcs.size ≤ 1000000000 := le_of_ble (a := Tryd.prog.funcs.size) (by kernel_rfl)
noncomputable def EE : Sem1 := evAll II TT hand pf opt
theorem hand_none (f : FuncId) (xs : List AV) (r : AV) (h : hand f xs = some r) : TT f = none := by
  have := hand_mem f xs r h
  unfold TT
  rw [if_pos]
  rcases this with rfl | rfl | rfl | rfl | rfl | rfl | rfl | rfl <;> simp
theorem EE_ok (f : FuncId) (xs : List AV) (x : AV) (h : EE f xs = some x) : FOk Tryd.prog pf f xs x :=
  evAll_sound hand_none (fun k f xs x hk => evCall_sound size_ok (tabOf_ok _) follows_ok (fun _ _ => []) (fun f fn c hT => by
    unfold TT at hT
    split at hT
    · cases hT
    · exact fitT_ok f fn c hT) hand_ok k f xs x hk) f xs x h
theorem EE_hand {f : FuncId} {xs : List AV} {r : AV} (h : hand f xs = some r) : EE f xs = some r := evAll_hand hand_none h
/-- A function's code. -/
def bodyOf (fn : Func) : Code := match fn.body with | some c => c | none => .skip
/-- The body of loop number i of a function. -/
def bodyL (fn : Func) (i : Nat) : Code := (loops (strip (bodyOf fn))).getD i .skip
/-- How many rounds a loop may take. -/
def MX : Nat := 2 ^ 64
theorem EE_plain {f : FuncId} {fn : Func} {args : List AV} {r : AV} (hT : TT f = some (fn, bodyOf fn)) (hp : pf f ≠ 2) (h1 : args.length ≤ fn.ntmps) (h2 : closedL args = true)
    (h : (evC II EE (withOpt (opt f) pf) MX (strip (bodyOf fn)) (St.init args)).bind (resK II fn.results.toList) = some r) : EE f args = some r :=
  evAll_plain hand_none hT hp (evF_eq h1 h2 (by rw [← evC_strip]; exact h))
/-- The same for loops of few rounds. -/
theorem EE_few (m : Nat) {f : FuncId} {fn : Func} {args : List AV} {r : AV} (hT : TT f = some (fn, bodyOf fn)) (hp : pf f ≠ 2) (h1 : args.length ≤ fn.ntmps) (h2 : closedL args = true)
    (h : (evC II EE (withOpt (opt f) pf) m (strip (bodyOf fn)) (St.init args)).bind (resK II fn.results.toList) = some r) : EE f args = some r :=
  evAll_plain hand_none hT hp (evF_eq h1 h2 (by rw [← evC_strip]; exact h))
theorem EE_lent {f : FuncId} {fn : Func} {args : List AV} {r : AV} (hT : TT f = some (fn, bodyOf fn)) (hp : pf f = 2) (h : evM II EE (withOpt (opt f) pf) MX fn (bodyOf fn) args = some r) : EE f args = some r :=
  evAll_lent hand_none hT hp h
theorem EE_lend {f : FuncId} {fn : Func} {T : Nat} {cs xs : List AV} {r : AV} (hT : TT f = some (fn, bodyOf fn)) (hp : pf f = 2) (hN : xs.length + 1 ≤ fn.ntmps) (hc : closedL cs = true) (hx : xs.all goes = true)
    (h : (evC II EE (withOpt (opt f) pf) MX (strip (bodyOf fn)) ⟨fun t => (.r 0 0 :: xs).getD t (.v undef), upd (fun _ => none) 0 (some (.ob T cs)), 1⟩).bind (outK II fn.results.toList (.r 0 0 :: xs)) = some r) : EE f (lent T cs :: xs) = some r :=
  EE_lent hT hp (by rw [evM_run hN hc hx, ← evC_strip]; exact h)
theorem I3 : II 3 = some ⟨.int .i64, 1, 8, [.int .i64 0]⟩ := by kernel_rfl
theorem I4 : II 4 = some ⟨.bool, 1, 1, [.bool false]⟩ := by kernel_rfl
theorem I5 : II 5 = some ⟨.int .u8, 1, 1, [.int .u8 0]⟩ := by kernel_rfl
theorem I9 : II 9 = some ⟨.str, 1, 16, [.string { data := #[] }]⟩ := by kernel_rfl
theorem I21 : II 21 = some ⟨.int .i32, 1, 4, [.int .i32 0]⟩ := by kernel_rfl
theorem I25 : II 25 = some ⟨.sl 3, 1, 24, [.slice none 0 0]⟩ := by kernel_rfl
theorem I30 : II 30 = some ⟨.sl 9, 1, 24, [.slice none 0 0]⟩ := by kernel_rfl
theorem I37 : II 37 = some ⟨.sl 5, 1, 24, [.slice none 0 0]⟩ := by kernel_rfl
theorem I40 : II 40 = some ⟨.sl 42, 1, 24, [.slice none 0 0]⟩ := by kernel_rfl
theorem I42 : II 42 = some ⟨.st [(0, 5), (1, 5), (2, 40)], 3, 32, [.int .u8 0, .int .u8 0, .slice none 0 0]⟩ := by kernel_rfl
theorem I46 : II 46 = some ⟨.sl 48, 1, 24, [.slice none 0 0]⟩ := by kernel_rfl
theorem I48 : II 48 = some ⟨.ptr 50, 1, 8, [.pointer none]⟩ := by kernel_rfl
theorem I50 : II 50 = some ⟨.st [(0, 9), (1, 9), (2, 46)], 3, 56, [.string { data := #[] }, .string { data := #[] }, .slice none 0 0]⟩ := by kernel_rfl
theorem I62 : II 62 = some ⟨.ptr 97, 1, 8, [.pointer none]⟩ := by kernel_rfl
theorem I73 : II 73 = some ⟨.ptr 75, 1, 8, [.pointer none]⟩ := by kernel_rfl
theorem I75 : II 75 = some ⟨.st [(0, 40), (1, 30), (2, 25)], 3, 72, [.slice none 0 0, .slice none 0 0, .slice none 0 0]⟩ := by kernel_rfl
theorem I80 : II 80 = some ⟨.ptr 113, 1, 8, [.pointer none]⟩ := by kernel_rfl
theorem I84 : II 84 = some ⟨.ptr 86, 1, 8, [.pointer none]⟩ := by kernel_rfl
theorem I86 : II 86 = some ⟨.st [(0, 84), (1, 37)], 2, 32, [.pointer none, .slice none 0 0]⟩ := by kernel_rfl
theorem I97 : II 97 = some ⟨.st [(0, 37), (1, 3)], 2, 32, [.slice none 0 0, .int .i64 0]⟩ := by kernel_rfl
theorem I100 : II 100 = some ⟨.ptr 102, 1, 8, [.pointer none]⟩ := by kernel_rfl
theorem I102 : II 102 = some ⟨.st [(0, 9), (1, 3), (2, 4)], 3, 32, [.string { data := #[] }, .int .i64 0, .bool false]⟩ := by kernel_rfl
theorem I116 : II 116 = some ⟨.ptr 5, 1, 8, [.pointer none]⟩ := by kernel_rfl
theorem I119 : II 119 = some ⟨.int .u64, 1, 8, [.int .u64 0]⟩ := by kernel_rfl
theorem I130 : II 130 = some ⟨.int .i64, 1, 8, [.int .i64 0]⟩ := by kernel_rfl
theorem I137 : II 137 = some ⟨.int .u32, 1, 4, [.int .u32 0]⟩ := by kernel_rfl
theorem I139 : II 139 = some ⟨.int .u64, 1, 8, [.int .u64 0]⟩ := by kernel_rfl
theorem I141 : II 141 = some ⟨.int .u64, 1, 8, [.int .u64 0]⟩ := by kernel_rfl
theorem I145 : II 145 = some ⟨.ptr 3, 1, 8, [.pointer none]⟩ := by kernel_rfl
theorem I149 : II 149 = some ⟨.st [(0, 5), (1, 5)], 2, 2, [.int .u8 0, .int .u8 0]⟩ := by kernel_rfl
theorem I150 : II 150 = some ⟨.arr 16 149, 32, 32, [.int .u8 0, .int .u8 0, .int .u8 0, .int .u8 0, .int .u8 0, .int .u8 0, .int .u8 0, .int .u8 0, .int .u8 0, .int .u8 0, .int .u8 0, .int .u8 0, .int .u8 0, .int .u8 0, .int .u8 0, .int .u8 0, .int .u8 0, .int .u8 0, .int .u8 0, .int .u8 0, .int .u8 0, .int .u8 0, .int .u8 0, .int .u8 0, .int .u8 0, .int .u8 0, .int .u8 0, .int .u8 0, .int .u8 0, .int .u8 0, .int .u8 0, .int .u8 0]⟩ := by kernel_rfl
theorem pf0 : pf 0 = 0 := rfl
theorem pf1 : pf 1 = 0 := rfl
theorem pf2 : pf 2 = 0 := rfl
theorem pf3 : pf 3 = 0 := rfl
theorem pf4 : pf 4 = 0 := rfl
theorem pf5 : pf 5 = 0 := rfl
theorem pf6 : pf 6 = 0 := rfl
theorem pf7 : pf 7 = 0 := rfl
theorem pf8 : pf 8 = 0 := rfl
theorem pf9 : pf 9 = 0 := rfl
theorem pf10 : pf 10 = 0 := rfl
theorem pf11 : pf 11 = 0 := rfl
theorem pf12 : pf 12 = 0 := rfl
theorem pf13 : pf 13 = 0 := rfl
theorem pf14 : pf 14 = 0 := rfl
theorem pf15 : pf 15 = 0 := rfl
theorem pf16 : pf 16 = 0 := rfl
theorem pf17 : pf 17 = 0 := rfl
theorem pf18 : pf 18 = 0 := rfl
theorem pf19 : pf 19 = 0 := rfl
theorem pf20 : pf 20 = 2 := rfl
theorem pf21 : pf 21 = 0 := rfl
theorem pf22 : pf 22 = 0 := rfl
theorem pf23 : pf 23 = 0 := rfl
theorem pf24 : pf 24 = 0 := rfl
theorem pf25 : pf 25 = 0 := rfl
theorem pf26 : pf 26 = 0 := rfl
theorem pf27 : pf 27 = 2 := rfl
theorem pf28 : pf 28 = 0 := rfl
theorem pf29 : pf 29 = 0 := rfl
theorem pf30 : pf 30 = 0 := rfl
theorem pf31 : pf 31 = 0 := rfl
theorem pf32 : pf 32 = 0 := rfl
theorem pf33 : pf 33 = 0 := rfl
theorem pf34 : pf 34 = 0 := rfl
theorem pf35 : pf 35 = 0 := rfl
theorem pf36 : pf 36 = 0 := rfl
theorem pf37 : pf 37 = 0 := rfl
theorem pf38 : pf 38 = 0 := rfl
theorem pf39 : pf 39 = 0 := rfl
theorem pf40 : pf 40 = 0 := rfl
theorem pf41 : pf 41 = 0 := rfl
theorem pf42 : pf 42 = 0 := rfl
theorem pf43 : pf 43 = 0 := rfl
theorem pf44 : pf 44 = 0 := rfl
theorem pf45 : pf 45 = 1 := rfl
theorem pf46 : pf 46 = 0 := rfl
theorem pf47 : pf 47 = 1 := rfl
theorem pf48 : pf 48 = 1 := rfl
theorem pf49 : pf 49 = 1 := rfl
theorem pf50 : pf 50 = 2 := rfl
theorem pf51 : pf 51 = 1 := rfl
theorem pf52 : pf 52 = 0 := rfl
theorem pf53 : pf 53 = 0 := rfl
theorem pf54 : pf 54 = 1 := rfl
theorem pf55 : pf 55 = 0 := rfl
theorem pf56 : pf 56 = 1 := rfl
theorem pf57 : pf 57 = 1 := rfl
theorem pf58 : pf 58 = 0 := rfl
theorem pf59 : pf 59 = 0 := rfl
theorem pf60 : pf 60 = 0 := rfl
theorem pf61 : pf 61 = 0 := rfl
theorem pf62 : pf 62 = 0 := rfl
theorem pf63 : pf 63 = 0 := rfl
theorem pf64 : pf 64 = 0 := rfl
theorem pf65 : pf 65 = 0 := rfl
theorem pf66 : pf 66 = 0 := rfl
theorem pf67 : pf 67 = 0 := rfl
theorem pf68 : pf 68 = 0 := rfl
theorem pf69 : pf 69 = 0 := rfl
theorem pf70 : pf 70 = 0 := rfl
theorem pf71 : pf 71 = 0 := rfl
theorem pf72 : pf 72 = 0 := rfl
theorem pf73 : pf 73 = 0 := rfl
theorem pf74 : pf 74 = 2 := rfl
theorem pf75 : pf 75 = 0 := rfl
theorem pf76 : pf 76 = 0 := rfl
theorem pf77 : pf 77 = 1 := rfl
theorem pf78 : pf 78 = 1 := rfl
theorem pf79 : pf 79 = 1 := rfl
theorem pf80 : pf 80 = 0 := rfl
theorem pf81 : pf 81 = 0 := rfl
theorem pf82 : pf 82 = 1 := rfl
theorem pf83 : pf 83 = 0 := rfl
theorem pf84 : pf 84 = 0 := rfl
theorem pf85 : pf 85 = 0 := rfl
theorem pf86 : pf 86 = 1 := rfl
theorem pf87 : pf 87 = 2 := rfl
theorem pf88 : pf 88 = 2 := rfl
theorem pf89 : pf 89 = 0 := rfl
theorem pf90 : pf 90 = 0 := rfl
theorem pf91 : pf 91 = 0 := rfl
theorem pf92 : pf 92 = 0 := rfl
theorem pf93 : pf 93 = 0 := rfl
theorem pf94 : pf 94 = 2 := rfl
theorem pf95 : pf 95 = 0 := rfl
theorem pf96 : pf 96 = 0 := rfl
theorem pf97 : pf 97 = 0 := rfl
theorem pf98 : pf 98 = 2 := rfl
theorem pf99 : pf 99 = 2 := rfl
theorem pf100 : pf 100 = 2 := rfl
theorem pf101 : pf 101 = 0 := rfl
theorem pf102 : pf 102 = 1 := rfl
theorem pf103 : pf 103 = 1 := rfl
theorem pf104 : pf 104 = 0 := rfl
theorem pf105 : pf 105 = 0 := rfl
theorem pf106 : pf 106 = 0 := rfl
theorem pf107 : pf 107 = 0 := rfl
theorem pf108 : pf 108 = 0 := rfl
theorem pf109 : pf 109 = 0 := rfl
theorem pf110 : pf 110 = 0 := rfl
theorem pf111 : pf 111 = 0 := rfl
theorem pf112 : pf 112 = 0 := rfl
theorem pf113 : pf 113 = 1 := rfl
theorem pf114 : pf 114 = 2 := rfl
theorem pf115 : pf 115 = 2 := rfl
theorem pf116 : pf 116 = 2 := rfl
theorem pf117 : pf 117 = 0 := rfl
theorem pf118 : pf 118 = 0 := rfl
theorem pf119 : pf 119 = 0 := rfl
theorem pf120 : pf 120 = 0 := rfl
theorem pf121 : pf 121 = 0 := rfl
theorem pf122 : pf 122 = 0 := rfl
theorem pf123 : pf 123 = 0 := rfl
theorem pf124 : pf 124 = 0 := rfl
theorem pf125 : pf 125 = 0 := rfl
theorem pf126 : pf 126 = 0 := rfl
theorem pf127 : pf 127 = 0 := rfl
theorem pf128 : pf 128 = 0 := rfl
theorem pf129 : pf 129 = 0 := rfl
theorem pf130 : pf 130 = 0 := rfl
theorem pf131 : pf 131 = 0 := rfl
theorem pf132 : pf 132 = 0 := rfl
theorem pf133 : pf 133 = 0 := rfl
theorem pf134 : pf 134 = 0 := rfl
theorem pf135 : pf 135 = 0 := rfl
theorem pf136 : pf 136 = 0 := rfl
theorem pf137 : pf 137 = 0 := rfl
theorem pf138 : pf 138 = 0 := rfl
theorem pf139 : pf 139 = 0 := rfl
theorem pf140 : pf 140 = 0 := rfl
theorem pf141 : pf 141 = 0 := rfl
theorem pf142 : pf 142 = 0 := rfl
theorem pf143 : pf 143 = 0 := rfl
theorem pf144 : pf 144 = 0 := rfl
theorem pf145 : pf 145 = 0 := rfl
theorem pf146 : pf 146 = 0 := rfl
theorem pf147 : pf 147 = 0 := rfl
theorem pf148 : pf 148 = 0 := rfl
theorem pf149 : pf 149 = 0 := rfl
theorem pf150 : pf 150 = 0 := rfl
theorem pf151 : pf 151 = 0 := rfl
theorem pf152 : pf 152 = 0 := rfl
theorem pf153 : pf 153 = 0 := rfl
theorem pf154 : pf 154 = 0 := rfl
theorem pf155 : pf 155 = 0 := rfl
theorem pf156 : pf 156 = 0 := rfl
theorem pf157 : pf 157 = 0 := rfl
theorem pf158 : pf 158 = 0 := rfl
theorem pf159 : pf 159 = 0 := rfl
theorem pf160 : pf 160 = 0 := rfl
theorem pf161 : pf 161 = 0 := rfl
theorem pf162 : pf 162 = 0 := rfl
theorem pf163 : pf 163 = 0 := rfl
theorem pf164 : pf 164 = 0 := rfl
theorem pf165 : pf 165 = 0 := rfl
theorem pf166 : pf 166 = 0 := rfl
theorem pf167 : pf 167 = 0 := rfl
theorem pf168 : pf 168 = 0 := rfl
theorem pf169 : pf 169 = 0 := rfl
theorem pf170 : pf 170 = 0 := rfl
theorem pf171 : pf 171 = 0 := rfl
theorem pf172 : pf 172 = 0 := rfl
theorem pf173 : pf 173 = 0 := rfl
theorem IA : (((((type_of% @I3) ∧ ((type_of% @I4) ∧ (type_of% @I5))) ∧ (((type_of% @I9) ∧ (type_of% @I21)) ∧ ((type_of% @I25) ∧ (type_of% @I30)))) ∧ ((((type_of% @I37) ∧ (type_of% @I40)) ∧ ((type_of% @I42) ∧ (type_of% @I46))) ∧ (((type_of% @I48) ∧ (type_of% @I50)) ∧ ((type_of% @I62) ∧ (type_of% @I73))))) ∧ (((((type_of% @I75) ∧ (type_of% @I80)) ∧ ((type_of% @I84) ∧ (type_of% @I86))) ∧ (((type_of% @I97) ∧ (type_of% @I100)) ∧ ((type_of% @I102) ∧ (type_of% @I116)))) ∧ ((((type_of% @I119) ∧ (type_of% @I130)) ∧ ((type_of% @I137) ∧ (type_of% @I139))) ∧ (((type_of% @I141) ∧ (type_of% @I145)) ∧ ((type_of% @I149) ∧ (type_of% @I150)))))) := ⟨⟨⟨⟨@I3, ⟨@I4, @I5⟩⟩, ⟨⟨@I9, @I21⟩, ⟨@I25, @I30⟩⟩⟩, ⟨⟨⟨@I37, @I40⟩, ⟨@I42, @I46⟩⟩, ⟨⟨@I48, @I50⟩, ⟨@I62, @I73⟩⟩⟩⟩, ⟨⟨⟨⟨@I75, @I80⟩, ⟨@I84, @I86⟩⟩, ⟨⟨@I97, @I100⟩, ⟨@I102, @I116⟩⟩⟩, ⟨⟨⟨@I119, @I130⟩, ⟨@I137, @I139⟩⟩, ⟨⟨@I141, @I145⟩, ⟨@I149, @I150⟩⟩⟩⟩⟩
theorem PA : ((((((((type_of% @pf0) ∧ (type_of% @pf1)) ∧ ((type_of% @pf2) ∧ ((type_of% @pf3) ∧ (type_of% @pf4)))) ∧ (((type_of% @pf5) ∧ (type_of% @pf6)) ∧ ((type_of% @pf7) ∧ ((type_of% @pf8) ∧ (type_of% @pf9))))) ∧ ((((type_of% @pf10) ∧ (type_of% @pf11)) ∧ ((type_of% @pf12) ∧ ((type_of% @pf13) ∧ (type_of% @pf14)))) ∧ (((type_of% @pf15) ∧ ((type_of% @pf16) ∧ (type_of% @pf17))) ∧ ((type_of% @pf18) ∧ ((type_of% @pf19) ∧ (type_of% @pf20)))))) ∧ (((((type_of% @pf21) ∧ (type_of% @pf22)) ∧ ((type_of% @pf23) ∧ ((type_of% @pf24) ∧ (type_of% @pf25)))) ∧ (((type_of% @pf26) ∧ ((type_of% @pf27) ∧ (type_of% @pf28))) ∧ ((type_of% @pf29) ∧ ((type_of% @pf30) ∧ (type_of% @pf31))))) ∧ ((((type_of% @pf32) ∧ (type_of% @pf33)) ∧ ((type_of% @pf34) ∧ ((type_of% @pf35) ∧ (type_of% @pf36)))) ∧ (((type_of% @pf37) ∧ ((type_of% @pf38) ∧ (type_of% @pf39))) ∧ ((type_of% @pf40) ∧ ((type_of% @pf41) ∧ (type_of% @pf42))))))) ∧ ((((((type_of% @pf43) ∧ (type_of% @pf44)) ∧ ((type_of% @pf45) ∧ ((type_of% @pf46) ∧ (type_of% @pf47)))) ∧ (((type_of% @pf48) ∧ ((type_of% @pf49) ∧ (type_of% @pf50))) ∧ ((type_of% @pf51) ∧ ((type_of% @pf52) ∧ (type_of% @pf53))))) ∧ ((((type_of% @pf54) ∧ (type_of% @pf55)) ∧ ((type_of% @pf56) ∧ ((type_of% @pf57) ∧ (type_of% @pf58)))) ∧ (((type_of% @pf59) ∧ ((type_of% @pf60) ∧ (type_of% @pf61))) ∧ ((type_of% @pf62) ∧ ((type_of% @pf63) ∧ (type_of% @pf64)))))) ∧ (((((type_of% @pf65) ∧ (type_of% @pf66)) ∧ ((type_of% @pf67) ∧ ((type_of% @pf68) ∧ (type_of% @pf69)))) ∧ (((type_of% @pf70) ∧ ((type_of% @pf71) ∧ (type_of% @pf72))) ∧ ((type_of% @pf73) ∧ ((type_of% @pf74) ∧ (type_of% @pf75))))) ∧ ((((type_of% @pf76) ∧ (type_of% @pf77)) ∧ ((type_of% @pf78) ∧ ((type_of% @pf79) ∧ (type_of% @pf80)))) ∧ (((type_of% @pf81) ∧ ((type_of% @pf82) ∧ (type_of% @pf83))) ∧ ((type_of% @pf84) ∧ ((type_of% @pf85) ∧ (type_of% @pf86)))))))) ∧ (((((((type_of% @pf87) ∧ (type_of% @pf88)) ∧ ((type_of% @pf89) ∧ ((type_of% @pf90) ∧ (type_of% @pf91)))) ∧ (((type_of% @pf92) ∧ (type_of% @pf93)) ∧ ((type_of% @pf94) ∧ ((type_of% @pf95) ∧ (type_of% @pf96))))) ∧ ((((type_of% @pf97) ∧ (type_of% @pf98)) ∧ ((type_of% @pf99) ∧ ((type_of% @pf100) ∧ (type_of% @pf101)))) ∧ (((type_of% @pf102) ∧ ((type_of% @pf103) ∧ (type_of% @pf104))) ∧ ((type_of% @pf105) ∧ ((type_of% @pf106) ∧ (type_of% @pf107)))))) ∧ (((((type_of% @pf108) ∧ (type_of% @pf109)) ∧ ((type_of% @pf110) ∧ ((type_of% @pf111) ∧ (type_of% @pf112)))) ∧ (((type_of% @pf113) ∧ ((type_of% @pf114) ∧ (type_of% @pf115))) ∧ ((type_of% @pf116) ∧ ((type_of% @pf117) ∧ (type_of% @pf118))))) ∧ ((((type_of% @pf119) ∧ (type_of% @pf120)) ∧ ((type_of% @pf121) ∧ ((type_of% @pf122) ∧ (type_of% @pf123)))) ∧ (((type_of% @pf124) ∧ ((type_of% @pf125) ∧ (type_of% @pf126))) ∧ ((type_of% @pf127) ∧ ((type_of% @pf128) ∧ (type_of% @pf129))))))) ∧ ((((((type_of% @pf130) ∧ (type_of% @pf131)) ∧ ((type_of% @pf132) ∧ ((type_of% @pf133) ∧ (type_of% @pf134)))) ∧ (((type_of% @pf135) ∧ ((type_of% @pf136) ∧ (type_of% @pf137))) ∧ ((type_of% @pf138) ∧ ((type_of% @pf139) ∧ (type_of% @pf140))))) ∧ ((((type_of% @pf141) ∧ (type_of% @pf142)) ∧ ((type_of% @pf143) ∧ ((type_of% @pf144) ∧ (type_of% @pf145)))) ∧ (((type_of% @pf146) ∧ ((type_of% @pf147) ∧ (type_of% @pf148))) ∧ ((type_of% @pf149) ∧ ((type_of% @pf150) ∧ (type_of% @pf151)))))) ∧ (((((type_of% @pf152) ∧ (type_of% @pf153)) ∧ ((type_of% @pf154) ∧ ((type_of% @pf155) ∧ (type_of% @pf156)))) ∧ (((type_of% @pf157) ∧ ((type_of% @pf158) ∧ (type_of% @pf159))) ∧ ((type_of% @pf160) ∧ ((type_of% @pf161) ∧ (type_of% @pf162))))) ∧ ((((type_of% @pf163) ∧ (type_of% @pf164)) ∧ ((type_of% @pf165) ∧ ((type_of% @pf166) ∧ (type_of% @pf167)))) ∧ (((type_of% @pf168) ∧ ((type_of% @pf169) ∧ (type_of% @pf170))) ∧ ((type_of% @pf171) ∧ ((type_of% @pf172) ∧ (type_of% @pf173))))))))) := ⟨⟨⟨⟨⟨⟨⟨@pf0, @pf1⟩, ⟨@pf2, ⟨@pf3, @pf4⟩⟩⟩, ⟨⟨@pf5, @pf6⟩, ⟨@pf7, ⟨@pf8, @pf9⟩⟩⟩⟩, ⟨⟨⟨@pf10, @pf11⟩, ⟨@pf12, ⟨@pf13, @pf14⟩⟩⟩, ⟨⟨@pf15, ⟨@pf16, @pf17⟩⟩, ⟨@pf18, ⟨@pf19, @pf20⟩⟩⟩⟩⟩, ⟨⟨⟨⟨@pf21, @pf22⟩, ⟨@pf23, ⟨@pf24, @pf25⟩⟩⟩, ⟨⟨@pf26, ⟨@pf27, @pf28⟩⟩, ⟨@pf29, ⟨@pf30, @pf31⟩⟩⟩⟩, ⟨⟨⟨@pf32, @pf33⟩, ⟨@pf34, ⟨@pf35, @pf36⟩⟩⟩, ⟨⟨@pf37, ⟨@pf38, @pf39⟩⟩, ⟨@pf40, ⟨@pf41, @pf42⟩⟩⟩⟩⟩⟩, ⟨⟨⟨⟨⟨@pf43, @pf44⟩, ⟨@pf45, ⟨@pf46, @pf47⟩⟩⟩, ⟨⟨@pf48, ⟨@pf49, @pf50⟩⟩, ⟨@pf51, ⟨@pf52, @pf53⟩⟩⟩⟩, ⟨⟨⟨@pf54, @pf55⟩, ⟨@pf56, ⟨@pf57, @pf58⟩⟩⟩, ⟨⟨@pf59, ⟨@pf60, @pf61⟩⟩, ⟨@pf62, ⟨@pf63, @pf64⟩⟩⟩⟩⟩, ⟨⟨⟨⟨@pf65, @pf66⟩, ⟨@pf67, ⟨@pf68, @pf69⟩⟩⟩, ⟨⟨@pf70, ⟨@pf71, @pf72⟩⟩, ⟨@pf73, ⟨@pf74, @pf75⟩⟩⟩⟩, ⟨⟨⟨@pf76, @pf77⟩, ⟨@pf78, ⟨@pf79, @pf80⟩⟩⟩, ⟨⟨@pf81, ⟨@pf82, @pf83⟩⟩, ⟨@pf84, ⟨@pf85, @pf86⟩⟩⟩⟩⟩⟩⟩, ⟨⟨⟨⟨⟨⟨@pf87, @pf88⟩, ⟨@pf89, ⟨@pf90, @pf91⟩⟩⟩, ⟨⟨@pf92, @pf93⟩, ⟨@pf94, ⟨@pf95, @pf96⟩⟩⟩⟩, ⟨⟨⟨@pf97, @pf98⟩, ⟨@pf99, ⟨@pf100, @pf101⟩⟩⟩, ⟨⟨@pf102, ⟨@pf103, @pf104⟩⟩, ⟨@pf105, ⟨@pf106, @pf107⟩⟩⟩⟩⟩, ⟨⟨⟨⟨@pf108, @pf109⟩, ⟨@pf110, ⟨@pf111, @pf112⟩⟩⟩, ⟨⟨@pf113, ⟨@pf114, @pf115⟩⟩, ⟨@pf116, ⟨@pf117, @pf118⟩⟩⟩⟩, ⟨⟨⟨@pf119, @pf120⟩, ⟨@pf121, ⟨@pf122, @pf123⟩⟩⟩, ⟨⟨@pf124, ⟨@pf125, @pf126⟩⟩, ⟨@pf127, ⟨@pf128, @pf129⟩⟩⟩⟩⟩⟩, ⟨⟨⟨⟨⟨@pf130, @pf131⟩, ⟨@pf132, ⟨@pf133, @pf134⟩⟩⟩, ⟨⟨@pf135, ⟨@pf136, @pf137⟩⟩, ⟨@pf138, ⟨@pf139, @pf140⟩⟩⟩⟩, ⟨⟨⟨@pf141, @pf142⟩, ⟨@pf143, ⟨@pf144, @pf145⟩⟩⟩, ⟨⟨@pf146, ⟨@pf147, @pf148⟩⟩, ⟨@pf149, ⟨@pf150, @pf151⟩⟩⟩⟩⟩, ⟨⟨⟨⟨@pf152, @pf153⟩, ⟨@pf154, ⟨@pf155, @pf156⟩⟩⟩, ⟨⟨@pf157, ⟨@pf158, @pf159⟩⟩, ⟨@pf160, ⟨@pf161, @pf162⟩⟩⟩⟩, ⟨⟨⟨@pf163, @pf164⟩, ⟨@pf165, ⟨@pf166, @pf167⟩⟩⟩, ⟨⟨@pf168, ⟨@pf169, @pf170⟩⟩, ⟨@pf171, ⟨@pf172, @pf173⟩⟩⟩⟩⟩⟩⟩⟩
end
end Go.Proofs.YtkmnidbodlmaaaaDoor.Ev

/-
The engine, part 33: slices that grow in loops; cells of a row that are written.
-/
namespace Go.Proofs.YtkmnidbodlmaaaaDoor.Ev
section
set_option linter.unusedVariables false
set_option linter.unusedSimpArgs false
open Go Go.RowKit
set_option linter.unusedVariables false
set_option linter.unusedSimpArgs false
variable {I : Tab} {C : Sem1} {pf : FuncId → Nat} {m : Nat} {e : Nat → AV} {σ : Sto} {key : Nat}

/-- A slice that was made empty or grown here: n elements, the cells cs. -/
def Lst (σ : Sto) (nx E sz : Nat) (v : AV) (n : Nat) (cs : List AV) : Prop :=
  (v = .s true 0 [] ∧ n = 0 ∧ cs = []) ∨ ∃ id, id < nx ∧ v = .w id 0 n ∧ σ id = some (.row E sz n cs) ∧ cs.length = n * sz
/-- The store behind an append. -/
def appSto (σ : Sto) (key E sz : Nat) (v : AV) (n : Nat) (cs : List AV) : Sto :=
  match v with
  | .w id _ _ => upd (upd σ id none) key (some (.row E sz n cs))
  | _ => upd σ key (some (.row E sz n cs))
theorem appSto_key (E sz : Nat) (v : AV) (n : Nat) (cs : List AV) : appSto σ key E sz v n cs key = some (.row E sz n cs) := by
  cases v <;> simp [appSto, upd]
theorem appSto_other {E sz : Nat} {v : AV} {n : Nat} {cs : List AV} {i : Nat} (h1 : i ≠ key) (h2 : ∀ id lo k, v = .w id lo k → i ≠ id) : appSto σ key E sz v n cs i = σ i := by
  cases v
  case w id lo k => simp [appSto, upd, h1, h2 id lo k rfl]
  all_goals simp [appSto, upd, h1]
theorem lst_app {nx E sz by_ : Nat} {k : TK} {z : List Value} {v : AV} {n m : Nat} {cs news : List AV} (h : Lst σ nx E sz v n cs) (h1 : 0 < sz) (h2 : news.length = m * sz) (h3 : news.all leafOk = true) (h4 : m ≠ 0) (h5 : (n + m) * by_ ≤ 140737488355328) (h6 : n + m ≤ 9223372036854775807) (hk : nx ≤ key) :
    appK σ key E ⟨k, sz, by_, z⟩ v (some (m, news)) = some (.w key 0 (n + m), appSto σ key E sz v (n + m) (cs ++ news)) := by
  rcases h with ⟨rfl, rfl, rfl⟩ | ⟨id, hid, rfl, hσ, hl⟩
  · rw [app_s h1 h2 h3 (by simp) h6 h5 (.inl h4)]
    rfl
  · rw [app_w hσ h1 h2 h3 hl h6 h5 (by omega)]
    rfl
theorem lst_key {E sz : Nat} {v : AV} {n nx : Nat} {cs : List AV} (hl : cs.length = n * sz) (hk : key < nx) : Lst (appSto σ key E sz v n cs) nx E sz (.w key 0 n) n cs := .inr ⟨key, hk, rfl, appSto_key E sz v n cs, hl⟩
theorem lst_nil (σ : Sto) (nx E sz : Nat) : Lst σ nx E sz (.s true 0 []) 0 [] := .inl ⟨rfl, rfl, rfl⟩
theorem lst_mono {nx nx' E sz : Nat} {v : AV} {n : Nat} {cs : List AV} (h : Lst σ nx E sz v n cs) (hn : nx ≤ nx') : Lst σ nx' E sz v n cs := by
  rcases h with h | ⟨id, h1, h2⟩
  · exact .inl h
  · exact .inr ⟨id, by omega, h2⟩
/-- What a function hands over that way: a row, or the empty slice that it made. -/
def lstR (E sz n : Nat) (cs : List AV) (v : AV) : AV := match v with | .w .. => .o E sz n cs | v => v
theorem give_lst {nx E sz : Nat} {v : AV} {n : Nat} {cs : List AV} (h : Lst σ nx E sz v n cs) (hc : closedL cs = true) : giveAll σ [v] = some (lstR E sz n cs v) := by
  rcases h with ⟨rfl, rfl, rfl⟩ | ⟨id, _, rfl, hσ, _⟩
  · exact giveAll_s rfl
  · exact give_row hσ hc
theorem lstR_pos {nx E sz : Nat} {v : AV} {n : Nat} {cs : List AV} (h : Lst σ nx E sz v n cs) (hn : n ≠ 0) : lstR E sz n cs v = .o E sz n cs := by
  rcases h with ⟨rfl, rfl, rfl⟩ | ⟨id, _, rfl, hσ, _⟩
  · exact absurd rfl hn
  · rfl
theorem len_lst {nx E sz : Nat} {v : AV} {n : Nat} {cs : List AV} (h : Lst σ nx E sz v n cs) {t : Nat} {a b : Nat} {c : List Value} : lenK σ v (some ⟨.sl t, a, b, c⟩) = some (N n, σ) := by
  rcases h with ⟨rfl, rfl, rfl⟩ | ⟨id, _, rfl, hσ, _⟩ <;> rfl
/-- The front of a row. -/
theorem cut_w_hi (sz : Nat) (id lo n : Nat) (k : IntKind) (i : Int) : cut sz (.w id lo n) none (some (.v (.int k i))) = if 0 ≤ i ∧ i ≤ (n : Int) then some (.w id lo i.toNat) else none := by
  simp only [cut, bound]
  split
  · simp
  · rfl
theorem cut_w_lo (sz : Nat) (id lo n : Nat) (k : IntKind) (i : Int) : cut sz (.w id lo n) (some (.v (.int k i))) none = if 0 ≤ i ∧ i ≤ (n : Int) then some (.w id (lo + i.toNat * sz) (n - i.toNat)) else none := by
  simp only [cut, bound, Option.bind_some]
  split
  · simp
  · rfl
/-- A cell written. -/
theorem set_at {pre post : List AV} {x y : AV} {i : Nat} (h : pre.length = i) : setRange (pre ++ x :: post) i [y] = some (pre ++ y :: post) := by
  subst h
  rw [setRange_eq, if_pos (by simp)]
  simp
end
end Go.Proofs.YtkmnidbodlmaaaaDoor.Ev

/-
The engine, part 34: objects that are lent with rows of their own.
-/
namespace Go.Proofs.YtkmnidbodlmaaaaDoor.Ev
section
set_option linter.unusedVariables false
set_option linter.unusedSimpArgs false
open Go Go.RowKit
set_option linter.unusedVariables false
set_option linter.unusedSimpArgs false
section
variable {I : Tab} {C : Sem1} {pf : FuncId → Nat} {m : Nat} {e : Nat → AV} {σ : Sto} {key : Nat}

/-- A row of an object: is it there, its elements' type, how many cells each, how many, the cells. -/
structure RS where
  b : Bool
  E : Nat
  sz : Nat
  n : Nat
  cs : List AV
def rsV (o : RS) : AV := if o.b = true then .o o.E o.sz o.n o.cs else .s true 0 []
def rsOk (o : RS) : Prop := o.cs.length = o.n * o.sz ∧ closedL o.cs = true ∧ (o.b = false → o.n = 0 ∧ o.cs = [])
/-- Cells of an object that are rows, and their numbers. -/
inductive RwL (σ : Sto) : List RS → List AV → List Nat → Prop
  | nil : RwL σ [] [] []
  | no {o : RS} {os : List RS} {ds : List AV} {L : List Nat} (h : rsOk o) (hb : o.b = false) (k : RwL σ os ds L) : RwL σ (o :: os) (.s true 0 [] :: ds) L
  | yes {o : RS} {os : List RS} {ds : List AV} {L : List Nat} {r : Nat} (h : rsOk o) (hb : o.b = true) (hσ : σ r = some (.row o.E o.sz o.n o.cs)) (k : RwL σ os ds L) : RwL σ (o :: os) (.w r 0 o.n :: ds) (r :: L)
theorem leafP_row {r E sz n : Nat} {cs : List AV} (hσ : σ r = some (.row E sz n cs)) (hc : closedL cs = true) : leafP σ (.w r 0 n) = some (.o E sz n cs, [r]) := by
  simp only [leafP, hσ, Nat.le_refl, if_true, tk]
  have h2 : deepC (deep σ 8) cs = some (cs, []) := deepL_closed 8 hc
  rw [h2]
  simp
theorem RwL.leaf : ∀ {os : List RS} {ds : List AV} {L : List Nat}, RwL σ os ds L → deepC (leafP σ) ds = some (os.map rsV, L)
  | _, _, _, .nil => rfl
  | _, _, _, .no h hb k => by
    simp only [deepC, leaf_closed (show closed (.s true 0 []) = true from rfl), Option.bind_some, k.leaf, Option.map_some, List.map_cons, rsV, hb, List.nil_append]
    rfl
  | _, _, _, .yes h hb hσ k => by
    simp only [deepC, leafP_row hσ h.2.1, Option.bind_some, k.leaf, Option.map_some, List.map_cons, rsV, hb, if_true, List.singleton_append]
theorem RwL.frame {σ' : Sto} : ∀ {os : List RS} {ds : List AV} {L : List Nat}, RwL σ os ds L → (∀ r ∈ L, σ' r = σ r) → RwL σ' os ds L
  | _, _, _, .nil, _ => .nil
  | _, _, _, .no h hb k, hr => .no h hb (k.frame hr)
  | _, _, _, .yes h hb hσ k, hr => .yes h hb (by rw [hr _ (List.mem_cons_self ..), hσ]) (k.frame fun r h => hr r (List.mem_cons_of_mem _ h))
theorem RwL.ok : ∀ {os : List RS} {ds : List AV} {L : List Nat}, RwL σ os ds L → ∀ o ∈ os, rsOk o
  | _, _, _, .nil, o, h => by cases h
  | _, _, _, .no h hb k, o, ho => by
    rcases List.mem_cons.1 ho with rfl | ho
    · exact h
    · exact k.ok o ho
  | _, _, _, .yes h hb hσ k, o, ho => by
    rcases List.mem_cons.1 ho with rfl | ho
    · exact h
    · exact k.ok o ho
theorem rowsIn_rs : ∀ (os : List RS) (σ : Sto) (k : Nat), (∀ o ∈ os, rsOk o) → ∃ ds σ1 k1 L, rowsIn σ k (os.map rsV) = (ds, σ1, k1) ∧ RwL σ1 os ds L ∧ L.Nodup ∧ (∀ r ∈ L, k ≤ r ∧ r < k1) ∧ k ≤ k1 ∧ k1 ≤ k + os.length ∧ ∀ j, (j < k ∨ k1 ≤ j) → σ1 j = σ j
  | [], σ, k, _ => ⟨[], σ, k, [], rfl, .nil, List.nodup_nil, fun r h => absurd h List.not_mem_nil, Nat.le_refl _, Nat.le_refl _, fun _ _ => rfl⟩
  | o :: os, σ, k, hok => by
    have ho := hok o (List.mem_cons_self ..)
    have hos : ∀ o ∈ os, rsOk o := fun o h => hok o (List.mem_cons_of_mem _ h)
    cases hb : o.b
    · obtain ⟨ds, σ1, k1, L, h1, h2, h3, h4, h5, h6, h7⟩ := rowsIn_rs os σ k hos
      refine ⟨.s true 0 [] :: ds, σ1, k1, L, ?_, .no ho hb h2, h3, h4, h5, by simp only [List.length_cons]; omega, h7⟩
      have : rsV o = .s true 0 [] := by simp [rsV, hb]
      rw [List.map_cons, this]
      simp only [rowsIn, h1]
    · obtain ⟨ds, σ1, k1, L, h1, h2, h3, h4, h5, h6, h7⟩ := rowsIn_rs os (upd σ k (some (.row o.E o.sz o.n o.cs))) (k + 1) hos
      refine ⟨.w k 0 o.n :: ds, σ1, k1, k :: L, ?_, .yes ho hb (by rw [h7 k (.inl (by omega))]; simp [upd]) h2, ?_, ?_, by omega, by simp only [List.length_cons]; omega, ?_⟩
      · have : rsV o = .o o.E o.sz o.n o.cs := by simp [rsV, hb]
        rw [List.map_cons, this]
        simp only [rowsIn, h1]
      · exact List.nodup_cons.2 ⟨fun h => by have := (h4 k h).1; omega, h3⟩
      · intro r hr
        rcases List.mem_cons.1 hr with rfl | hr
        · omega
        · have := h4 r hr; omega
      · intro j hj
        rw [h7 j (by omega), upd, if_neg (by omega)]
/-- A call that is lent an object with rows. -/
theorem call_ob_rows {f : FuncId} {id T : Nat} {ds ps xs : List AV} {L : List Nat} {os' : List RS} {x : AV} {T' : Nat} (hp : pf f = 2) (hσ : σ id = some (.ob T ds)) (hl : deepC (leafP σ) ds = some (ps, L)) (hn : (id :: L).Nodup) (hx : xs.all goes = true) (hid : id < key)
    (hr : C f (lent T ps :: xs) = some (.t [x, .t (lent T' (os'.map rsV) :: xs)])) (hok : ∀ o ∈ os', rsOk o) (h1 : closed x = true) (h2 : os'.length + room x ≤ 4) :
    ∃ ds' L' σ', callOp C pf σ key f (.r id 0 :: xs) = some (x, σ') ∧ σ' id = some (.ob T' ds') ∧ RwL σ' os' ds' L' ∧ (id :: L').Nodup ∧ (∀ r ∈ L', key ≤ r ∧ r < key + 4) ∧ ∀ j, j ≠ id → j ∉ L → (j < key ∨ key + 4 ≤ j) → σ' j = σ j := by
  obtain ⟨ds', σ1, k1, L', g1, g2, g3, g4, g5, g6, g7⟩ := rowsIn_rs os' (killL σ (id :: L)) key hok
  refine ⟨ds', L', upd σ1 id (some (.ob T' ds')), ?_, by simp [upd], ?_, ?_, fun r hr => ⟨(g4 r hr).1, by have := (g4 r hr).2; omega⟩, ?_⟩
  · rw [call2_eq hp]
    have e1 : needs σ (.r id 0 :: xs) = [] := by
      simp only [needs, needs_goes hx, List.append_nil]
      rfl
    have e2 : deepC (pack1 σ) (.r id 0 :: xs) = some (lent T ps :: xs, id :: L) := by
      simp only [deepC, pack1, hσ, hl, Option.map_some, Option.bind_some, packL_goes hx, List.append_nil]
    rw [e1]
    simp only [frz0, e2, Option.bind_some, lend1]
    rw [if_pos hn, hr]
    simp only [Option.bind_some, lend2, e1, frz0, back, lent, ni, g1, Int.toNat_natCast, back_goes hx]
    rw [if_pos (by omega)]
    cases x
    case t ys =>
      simp only [adopt]
      rw [if_pos (by simpa only [closed] using h1)]
    case o => simp [closed] at h1
    all_goals simp only [adopt, adopt1_closed h1]
  · exact g2.frame fun r hr => by
      have := (g4 r hr).1
      simp only [upd]
      rw [if_neg (by omega)]
  · exact List.nodup_cons.2 ⟨fun h => by have := (g4 id h).1; omega, g3⟩
  · intro j hj hjL hk
    simp only [upd, if_neg hj]
    rw [g7 j (by omega)]
    simp [killL, hj, hjL]
/-- The store behind a call that was lent an object with rows. -/
def aftS (σ : Sto) (key id : Nat) (L : List Nat) (T' : Nat) (os' : List RS) : Sto := upd (rowsIn (killL σ (id :: L)) key (os'.map rsV)).2.1 id (some (.ob T' (rowsIn (killL σ (id :: L)) key (os'.map rsV)).1))
/-- The same as an equation. -/
theorem call_ob_eq {f : FuncId} {id T : Nat} {ds ps xs : List AV} {L : List Nat} {os' : List RS} {x : AV} {T' : Nat} (hp : pf f = 2) (hσ : σ id = some (.ob T ds)) (hl : deepC (leafP σ) ds = some (ps, L)) (hn : (id :: L).Nodup) (hx : xs.all goes = true)
    (hr : C f (lent T ps :: xs) = some (.t [x, .t (lent T' (os'.map rsV) :: xs)])) (hok : ∀ o ∈ os', rsOk o) (h1 : closed x = true) (h2 : os'.length + room x ≤ 4) :
    callOp C pf σ key f (.r id 0 :: xs) = some (x, aftS σ key id L T' os') := by
  obtain ⟨ds', σ1, k1, L', g1, g2, g3, g4, g5, g6, g7⟩ := rowsIn_rs os' (killL σ (id :: L)) key hok
  unfold aftS
  rw [call2_eq hp]
  have e1 : needs σ (.r id 0 :: xs) = [] := by
    simp only [needs, needs_goes hx, List.append_nil]
    rfl
  have e2 : deepC (pack1 σ) (.r id 0 :: xs) = some (lent T ps :: xs, id :: L) := by
    simp only [deepC, pack1, hσ, hl, Option.map_some, Option.bind_some, packL_goes hx, List.append_nil]
  rw [e1]
  simp only [frz0, e2, Option.bind_some, lend1]
  rw [if_pos hn, hr]
  simp only [Option.bind_some, lend2, e1, frz0, back, lent, ni, g1, Int.toNat_natCast, back_goes hx]
  rw [if_pos (by omega)]
  cases x
  case t ys =>
    simp only [adopt]
    rw [if_pos (by simpa only [closed] using h1)]
  case o => simp [closed] at h1
  all_goals simp only [adopt, adopt1_closed h1]
theorem aft_facts {id T' : Nat} {L : List Nat} {os' : List RS} (hok : ∀ o ∈ os', rsOk o) (hid : id < key) :
    ∃ ds' L', aftS σ key id L T' os' id = some (.ob T' ds') ∧ RwL (aftS σ key id L T' os') os' ds' L' ∧ (id :: L').Nodup ∧ (∀ r ∈ L', key ≤ r ∧ r < key + os'.length) ∧ ∀ j, j ≠ id → j ∉ L → (j < key ∨ key + os'.length ≤ j) → aftS σ key id L T' os' j = σ j := by
  obtain ⟨ds', σ1, k1, L', g1, g2, g3, g4, g5, g6, g7⟩ := rowsIn_rs os' (killL σ (id :: L)) key hok
  have e : aftS σ key id L T' os' = upd σ1 id (some (.ob T' ds')) := by unfold aftS; rw [g1]
  rw [e]
  refine ⟨ds', L', by simp [upd], ?_, ?_, fun r hr => ⟨(g4 r hr).1, by have := (g4 r hr).2; omega⟩, ?_⟩
  · exact g2.frame fun r hr => by
      have := (g4 r hr).1
      simp only [upd]
      rw [if_neg (by omega)]
  · exact List.nodup_cons.2 ⟨fun h => by have := (g4 id h).1; omega, g3⟩
  · intro j hj hjL hk
    simp only [upd, if_neg hj]
    rw [g7 j (by omega)]
    simp [killL, hj, hjL]
theorem aft_of {τ : Sto} {id T' : Nat} {L : List Nat} {os' : List RS} (hτ : aftS σ key id L T' os' = τ) (hok : ∀ o ∈ os', rsOk o) (hid : id < key) :
    ∃ ds' L', τ id = some (.ob T' ds') ∧ RwL τ os' ds' L' ∧ (id :: L').Nodup ∧ (∀ r ∈ L', key ≤ r ∧ r < key + os'.length) ∧ ∀ j, j ≠ id → j ∉ L → (j < key ∨ key + os'.length ≤ j) → τ j = σ j := by
  subst hτ
  exact aft_facts hok hid
/-- A function that is lent an object with rows. -/
theorem evM_rows {fn : Func} {c : Code} {T : Nat} {os : List RS} {xs : List AV} (hN : xs.length + 1 ≤ fn.ntmps) (hok : ∀ o ∈ os, rsOk o) (hx : xs.all goes = true) :
    ∃ ds σ k L, RwL σ os ds L ∧ (0 :: L).Nodup ∧ σ 0 = some (.ob T ds) ∧ (∀ r ∈ L, 1 ≤ r ∧ r < k) ∧ 1 ≤ k ∧ k ≤ 1 + os.length ∧ evM I C pf m fn c (lent T (os.map rsV) :: xs) = (evC I C pf m c ⟨fun t => (.r 0 0 :: xs).getD t (.v undef), σ, k⟩).bind (outK I fn.results.toList (.r 0 0 :: xs)) := by
  obtain ⟨ds, σ1, k1, L, g1, g2, g3, g4, g5, g6, g7⟩ := rowsIn_rs os (fun _ => none) 1 hok
  refine ⟨ds, upd σ1 0 (some (.ob T ds)), k1, L, g2.frame fun r hr => ?_, List.nodup_cons.2 ⟨fun h => by have := (g4 0 h).1; omega, g3⟩, by simp [upd], g4, g5, g6, ?_⟩
  · have := (g4 r hr).1
    simp only [upd]
    rw [if_neg (by omega)]
  unfold evM
  simp only [lent, ni, inits, g1, inits_goes hx, Int.toNat_natCast]
  rw [if_pos ⟨by simpa using hN, by simp⟩]
  congr 1
  funext ⟨x, s⟩
  cases x <;> rfl
theorem packO_rows {T : Nat} {ds xs : List AV} {ps : List AV} {L : List Nat} (hσ : σ 0 = some (.ob T ds)) (hl : deepC (leafP σ) ds = some (ps, L)) (hx : xs.all goes = true) : deepC (packO σ) (.r 0 0 :: xs) = some (lent T ps :: xs, 0 :: L) := by
  simp only [deepC, packO, hσ, pack1, hl, Option.map_some, Option.bind_some, packOL_goes hx, List.append_nil]
theorem out_rows_one {rs : List ResultVar} {xs : List AV} {s : St} {x : AV} {T : Nat} {ds : List AV} {ps : List AV} {L : List Nat} (h1 : evRes I s rs = some [x]) (h2 : goes x = true) (hσ : s.σ 0 = some (.ob T ds)) (hl : deepC (leafP s.σ) ds = some (ps, L)) (hn : (0 :: L).Nodup) (hx : xs.all goes = true) :
    outK I rs (.r 0 0 :: xs) (.ret, s) = some (.t [x, .t (lent T ps :: xs)]) := by
  have h3 : giveL s.σ [x] = some ([x], [], []) := giveL_closed (by simp only [closedL, goes_closed h2, Bool.and_self])
  simp only [outK, h1, Option.bind_some, h3, packO_rows hσ hl hx]
  rw [if_pos ⟨by simpa using hn, by simp⟩]
  cases x
  case t => simp [goes] at h2
  all_goals rfl
theorem out_rows_none {rs : List ResultVar} {xs : List AV} {s : St} {x : Ex} {T : Nat} {ds : List AV} {ps : List AV} {L : List Nat} (hx0 : ∀ i, x ≠ .exit i) (h1 : evRes I s rs = some []) (hσ : s.σ 0 = some (.ob T ds)) (hl : deepC (leafP s.σ) ds = some (ps, L)) (hn : (0 :: L).Nodup) (hx : xs.all goes = true) :
    outK I rs (.r 0 0 :: xs) (x, s) = some (.t [.t [], .t (lent T ps :: xs)]) := by
  cases x
  case exit i => exact absurd rfl (hx0 i)
  all_goals
    simp only [outK, h1, Option.bind_some, giveL, packO_rows hσ hl hx]
    rw [if_pos ⟨by simpa using hn, by simp⟩]
theorem out_rows_two {rs : List ResultVar} {xs : List AV} {s : St} {x y : AV} {zs : List AV} {T : Nat} {ds : List AV} {ps : List AV} {L : List Nat} (h1 : evRes I s rs = some (x :: y :: zs)) (h2 : closedL (x :: y :: zs) = true) (hσ : s.σ 0 = some (.ob T ds)) (hl : deepC (leafP s.σ) ds = some (ps, L)) (hn : (0 :: L).Nodup) (hx : xs.all goes = true) :
    outK I rs (.r 0 0 :: xs) (.ret, s) = some (.t [.t (x :: y :: zs), .t (lent T ps :: xs)]) := by
  simp only [outK, h1, Option.bind_some, giveL_closed h2, packO_rows hσ hl hx]
  rw [if_pos ⟨by simpa using hn, by simp⟩]
/-- A row of which the first n elements are left. -/
theorem leafP_part {r E sz n n' : Nat} {cs : List AV} (hσ : σ r = some (.row E sz n' cs)) (hc : closedL cs = true) (hn : n ≤ n') : leafP σ (.w r 0 n) = some (.o E sz n (tk n n' sz cs), [r]) := by
  simp only [leafP, hσ, hn, if_true]
  rw [deepL_closed 8 hc]
  simp
theorem leaf3 {da db dc pa pb pc : AV} {La Lb Lc : List Nat} (ha : leafP σ da = some (pa, La)) (hb : leafP σ db = some (pb, Lb)) (hc : leafP σ dc = some (pc, Lc)) : deepC (leafP σ) [da, db, dc] = some ([pa, pb, pc], La ++ (Lb ++ Lc)) := by
  simp only [deepC, ha, hb, hc, Option.bind_some, Option.map_some, List.append_nil]
end
theorem EE_rows {f : FuncId} {fn : Func} {T : Nat} {os : List RS} {xs : List AV} {r : AV} (hT : TT f = some (fn, bodyOf fn)) (hp : pf f = 2) (hN : xs.length + 1 ≤ fn.ntmps) (hok : ∀ o ∈ os, rsOk o) (hx : xs.all goes = true)
    (h : ∀ ds σ k L, RwL σ os ds L → (0 :: L).Nodup → σ 0 = some (.ob T ds) → (∀ r ∈ L, 1 ≤ r ∧ r < k) → 1 ≤ k → k ≤ 1 + os.length →
      (evC II EE (withOpt (opt f) pf) MX (strip (bodyOf fn)) ⟨fun t => (.r 0 0 :: xs).getD t (.v undef), σ, k⟩).bind (outK II fn.results.toList (.r 0 0 :: xs)) = some r) : EE f (lent T (os.map rsV) :: xs) = some r := by
  obtain ⟨ds, σ, k, L, h1, h2, h3, h4, h4', h5, h6⟩ := evM_rows (I := II) (C := EE) (pf := withOpt (opt f) pf) (m := MX) (fn := fn) (c := bodyOf fn) (T := T) (os := os) (xs := xs) hN hok hx
  refine EE_lent hT hp ?_
  rw [h6, ← evC_strip]
  exact h ds σ k L h1 h2 h3 h4 h4' h5
/-- One cell that is a row. -/
def Rw (σ : Sto) (o : RS) (d : AV) (L : List Nat) : Prop := rsOk o ∧ ((o.b = false ∧ d = .s true 0 [] ∧ L = []) ∨ ∃ r, o.b = true ∧ d = .w r 0 o.n ∧ L = [r] ∧ σ r = some (.row o.E o.sz o.n o.cs))
theorem RwL.inv {σ : Sto} {o : RS} {os : List RS} {ds : List AV} {L : List Nat} (h : RwL σ (o :: os) ds L) : ∃ d ds' L1 L2, ds = d :: ds' ∧ L = L1 ++ L2 ∧ Rw σ o d L1 ∧ RwL σ os ds' L2 := by
  cases h with
  | no h hb k => exact ⟨_, _, [], _, rfl, rfl, ⟨h, .inl ⟨hb, rfl, rfl⟩⟩, k⟩
  | yes h hb hσ k => exact ⟨_, _, [_], _, rfl, rfl, ⟨h, .inr ⟨_, hb, rfl, rfl, hσ⟩⟩, k⟩
theorem RwL.inv0 {σ : Sto} {ds : List AV} {L : List Nat} (h : RwL σ [] ds L) : ds = [] ∧ L = [] := by cases h; exact ⟨rfl, rfl⟩
theorem RwL.mk {σ : Sto} {o : RS} {os : List RS} {d : AV} {ds : List AV} {L1 L2 : List Nat} (h : Rw σ o d L1) (k : RwL σ os ds L2) : RwL σ (o :: os) (d :: ds) (L1 ++ L2) := by
  obtain ⟨h0, ⟨hb, rfl, rfl⟩ | ⟨r, hb, rfl, rfl, hσ⟩⟩ := h
  · exact .no h0 hb k
  · exact .yes h0 hb hσ k
theorem rw3 {σ : Sto} {a b c : RS} {ds : List AV} {L : List Nat} (h : RwL σ [a, b, c] ds L) : ∃ da db dc La Lb Lc, ds = [da, db, dc] ∧ L = La ++ (Lb ++ Lc) ∧ Rw σ a da La ∧ Rw σ b db Lb ∧ Rw σ c dc Lc := by
  obtain ⟨da, ds1, La, L1, rfl, rfl, ha, h⟩ := h.inv
  obtain ⟨db, ds2, Lb, L2, rfl, rfl, hb, h⟩ := h.inv
  obtain ⟨dc, ds3, Lc, L3, rfl, rfl, hc, h⟩ := h.inv
  obtain ⟨rfl, rfl⟩ := h.inv0
  exact ⟨da, db, dc, La, Lb, Lc, rfl, by simp, ha, hb, hc⟩
theorem rw3_mk {σ : Sto} {a b c : RS} {da db dc : AV} {La Lb Lc : List Nat} (ha : Rw σ a da La) (hb : Rw σ b db Lb) (hc : Rw σ c dc Lc) : RwL σ [a, b, c] [da, db, dc] (La ++ (Lb ++ Lc)) := by
  have := RwL.mk ha (RwL.mk hb (RwL.mk hc .nil))
  simpa using this
theorem Rw.frame {σ σ' : Sto} {o : RS} {d : AV} {L : List Nat} (h : Rw σ o d L) (hr : ∀ r ∈ L, σ' r = σ r) : Rw σ' o d L := by
  obtain ⟨h0, h | ⟨r, hb, rfl, rfl, hσ⟩⟩ := h
  · exact ⟨h0, .inl h⟩
  · exact ⟨h0, .inr ⟨r, hb, rfl, rfl, by rw [hr r (by simp), hσ]⟩⟩
theorem len_rw {σ : Sto} {o : RS} {d : AV} {L : List Nat} (h : Rw σ o d L) {t : Nat} {a b : Nat} {c : List Value} : lenK σ d (some ⟨.sl t, a, b, c⟩) = some (N o.n, σ) := by
  obtain ⟨h0, ⟨hb, rfl, rfl⟩ | ⟨r, hb, rfl, rfl, hσ⟩⟩ := h
  · rw [(h0.2.2 hb).1]
    rfl
  · rfl
/-- A row that holds something is there. -/
theorem Rw.pos {σ : Sto} {o : RS} {d : AV} {L : List Nat} (h : Rw σ o d L) (hn : o.n ≠ 0) : ∃ r, o.b = true ∧ d = .w r 0 o.n ∧ L = [r] ∧ σ r = some (.row o.E o.sz o.n o.cs) := by
  obtain ⟨h0, ⟨hb, rfl, rfl⟩ | h⟩ := h
  · exact absurd (h0.2.2 hb).1 hn
  · exact h
/-- Rows of an object as slices that grow. -/
theorem Rw.lst {σ : Sto} {o : RS} {d : AV} {L : List Nat} (h : Rw σ o d L) {nx : Nat} (hL : ∀ r ∈ L, r < nx) : Lst σ nx o.E o.sz d o.n o.cs := by
  obtain ⟨h0, ⟨hb, rfl, rfl⟩ | ⟨r, hb, rfl, rfl, hσ⟩⟩ := h
  · exact .inl ⟨rfl, h0.2.2 hb⟩
  · exact .inr ⟨r, hL r (by simp), rfl, hσ, h0.1⟩
theorem Rw.leaf {σ : Sto} {o : RS} {d : AV} {L : List Nat} (h : Rw σ o d L) : leafP σ d = some (rsV o, L) := by
  obtain ⟨h0, ⟨hb, rfl, rfl⟩ | ⟨r, hb, rfl, rfl, hσ⟩⟩ := h
  · rw [leaf_closed rfl]
    simp [rsV, hb]
  · rw [leafP_row hσ h0.2.1]
    simp [rsV, hb]
end
end Go.Proofs.YtkmnidbodlmaaaaDoor.Ev

/-
Code: the reference's builder.
-/
namespace Go.Proofs.YtkmnidbodlmaaaaDoor.Ev
section
set_option linter.unusedVariables false
set_option linter.unusedSimpArgs false
open Go Go.RowKit
set_option linter.unusedVariables false
set_option linter.unusedSimpArgs false
theorem T_pop : TT 99 = some (Tryd.f99, bodyOf Tryd.f99) := by kernel_rfl
theorem T_do : TT 74 = some (Tryd.f74, bodyOf Tryd.f74) := by kernel_rfl
theorem T_end : TT 100 = some (Tryd.f100, bodyOf Tryd.f100) := by kernel_rfl
theorem T_l7Build : TT 44 = some (Tryd.f44, bodyOf Tryd.f44) := by kernel_rfl
theorem T_push : TT 98 = some (Tryd.f98, bodyOf Tryd.f98) := by kernel_rfl
/-- The reference's builder as it is lent: terms, signs of loops, bases. -/
structure BOk (a b c : RS) : Prop where
  ha : rsOk a
  hb : rsOk b
  hc : rsOk c
  aE : a.E = 42
  aS : a.sz = 3
  bE : b.E = 9
  bS : b.sz = 1
  cE : c.E = 3
  cS : c.sz = 1
  an : a.n < 1000000000
  bn : b.n < 1000000000
  cn : c.n < 1000000000
def zeroN : List AV := [U 0, U 0, .s true 0 []]
/-- The base: the last of the bases, or 0. -/
def IsBase (c : RS) (base : Nat) : Prop := (c.n = 0 ∧ base = 0) ∨ (c.n ≠ 0 ∧ ∃ pre, c.cs = pre ++ [N (base : Int)] ∧ pre.length + 1 = c.n)
theorem pop_none (a b c : RS) (h : BOk a b c) (base : Nat) (hbs : IsBase c base) (hle : a.n ≤ base) (hbl : base < 1000000000) :
    EE 99 [lent 75 [rsV a, rsV b, rsV c]] = some (.t [.t [.a zeroN, B false], .t [lent 75 [rsV a, rsV b, rsV c]]]) := by
  refine EE_rows (os := [a, b, c]) (xs := []) T_pop rfl (by decide) (by
    intro o ho
    simp only [List.mem_cons, List.not_mem_nil, or_false] at ho
    rcases ho with rfl | rfl | rfl
    · exact h.ha
    · exact h.hb
    · exact h.hc) rfl ?_
  intro ds σ k L hR hn hσ hL hk1 hk
  obtain ⟨da, db, dc, La, Lb, Lc, rfl, rfl, ra, rb, rc⟩ := rw3 hR
  rw [show opt 99 = [oLow 6, oHi 42] from rfl]
  simp only [bodyOf, Tryd.f99, SA]
  have hk0 : ¬ (0 = k) := by omega
  have hn' : ∀ r ∈ La ++ (Lb ++ Lc), r ≠ k := fun r hr => by have := (hL r hr).2; omega
  have rc' : ∀ X, Rw (upd σ k X) c dc Lc := fun X => rc.frame fun r hr => upd_ne _ _ _ _ (hn' r (by simp [hr]))
  have ra' : ∀ X, Rw (upd σ k X) a da La := fun X => ra.frame fun r hr => upd_ne _ _ _ _ (hn' r (by simp [hr]))
  simp only [hσ, hk0, len_rw (rc' _), len_rw (ra' _), IA, PA, RA0, RA1, RA2, RA3, RA4, RA5, RA6, RA7, RA8, RA9, RA10, Nat.reduceAdd, Nat.reduceMul, Nat.reduceEqDiff, Nat.reduceLeDiff, Nat.reduceLT, Int.reduceToNat, Int.reduceLT, Int.reduceLE, Int.reduceEq, Int.reduceNeg, Int.reduceAdd, Int.reduceSub, Int.reduceMul, reduceIte]
  have hle' : ((a.n : Int) ≤ (base : Int)) := by omega
  rcases hbs with ⟨hc0, rfl⟩ | ⟨hc0, pre, hcs, hpl⟩
  · have hlt : ¬ ((0 : Int) < (c.n : Int)) := by omega
    have hle0 : ((a.n : Int) ≤ 0) := by omega
    simp only [hlt, hσ, hk0, hle0, len_rw (rc' _), len_rw (ra' _), IA, PA, RA0, RA1, RA2, RA3, RA4, RA5, RA6, RA7, RA8, RA9, RA10, Nat.reduceAdd, Nat.reduceMul, Nat.reduceEqDiff, Nat.reduceLeDiff, Nat.reduceLT, Int.reduceToNat, Int.reduceLT, Int.reduceLE, Int.reduceEq, Int.reduceNeg, Int.reduceAdd, Int.reduceSub, Int.reduceMul, reduceIte]
    refine out_rows_two (ds := [da, db, dc]) (ps := [rsV a, rsV b, rsV c]) (L := La ++ (Lb ++ Lc)) ?_ (by rfl) ?_ ?_ hn (by rfl)
    · simp only [hk0, IA, PA, RA0, RA1, RA2, RA3, RA4, RA5, RA6, RA7, RA8, RA9, RA10, Nat.reduceAdd, Nat.reduceMul, Nat.reduceEqDiff, Nat.reduceLeDiff, Nat.reduceLT, Int.reduceToNat, Int.reduceLT, Int.reduceLE, Int.reduceEq, Int.reduceNeg, Int.reduceAdd, Int.reduceSub, Int.reduceMul, reduceIte]
      rfl
    · simp only [upd, hk0, if_false, hσ]
    · exact leaf3 (ra.frame fun r hr => by simp only [upd, if_neg (hn' r (by simp [hr]))]).leaf (rb.frame fun r hr => by simp only [upd, if_neg (hn' r (by simp [hr]))]).leaf (rc.frame fun r hr => by simp only [upd, if_neg (hn' r (by simp [hr]))]).leaf
  · have hlt : ((0 : Int) < (c.n : Int)) := by omega
    obtain ⟨r, hcb, rfl, rfl, hcσ⟩ := rc.pos hc0
    have hrk : ¬ (r = k) := hn' r (by simp)
    have hw : IntKind.i64.wrap ((c.n : Int) - 1) = ((c.n - 1 : Nat) : Int) := by
      have := h.cn
      rw [wrap64 (by omega) (by omega)]; omega
    have hz1 : (0 : Int) ≤ ((c.n - 1 : Nat) : Int) := by omega
    have hz2 : ((c.n - 1 : Nat) : Int) < (c.n : Int) := by omega
    have hhd : (c.cs.drop (c.n - 1)).head? = some (N base) := by
      rw [hcs, List.drop_append, List.drop_eq_nil_of_le (by omega), show c.n - 1 - pre.length = 0 by omega]
      rfl
    simp only [hlt, hσ, hk0, hrk, hcσ, hw, hz1, hz2, hhd, hle', h.cS, Int.toNat_natCast, Nat.mul_one, Nat.zero_add, len_rw (ra' _), IA, PA, RA0, RA1, RA2, RA3, RA4, RA5, RA6, RA7, RA8, RA9, RA10, Nat.reduceAdd, Nat.reduceMul, Nat.reduceEqDiff, Nat.reduceLeDiff, Nat.reduceLT, Int.reduceToNat, Int.reduceLT, Int.reduceLE, Int.reduceEq, Int.reduceNeg, Int.reduceAdd, Int.reduceSub, Int.reduceMul, reduceIte]
    refine out_rows_two (ds := [da, db, .w r 0 c.n]) (ps := [rsV a, rsV b, rsV c]) (L := La ++ (Lb ++ [r])) ?_ (by rfl) ?_ ?_ hn (by rfl)
    · simp only [hk0, IA, PA, RA0, RA1, RA2, RA3, RA4, RA5, RA6, RA7, RA8, RA9, RA10, Nat.reduceAdd, Nat.reduceMul, Nat.reduceEqDiff, Nat.reduceLeDiff, Nat.reduceLT, Int.reduceToNat, Int.reduceLT, Int.reduceLE, Int.reduceEq, Int.reduceNeg, Int.reduceAdd, Int.reduceSub, Int.reduceMul, reduceIte]
      rfl
    · simp only [upd, hk0, if_false, hσ]
    · exact leaf3 (ra.frame fun r' hr => by simp only [upd, if_neg (hn' r' (by simp [hr]))]).leaf (rb.frame fun r' hr => by simp only [upd, if_neg (hn' r' (by simp [hr]))]).leaf (rc.frame fun r' hr => by simp only [upd, if_neg (hn' r' (by simp [hr]))]).leaf
theorem pop_some (a b c : RS) (h : BOk a b c) (base : Nat) (hbs : IsBase c base) (hle : base < a.n) (pa : List AV) (cell : List AV) (hcs : a.cs = pa ++ cell) (hcl : cell.length = 3) (hlf : cell.all leafOk = true) (hpa : pa.length + 3 = a.n * 3) :
    EE 99 [lent 75 [rsV a, rsV b, rsV c]] = some (.t [.t [.a cell, B true], .t [lent 75 [rsV { a with n := a.n - 1, cs := pa }, rsV b, rsV c]]]) := by
  refine EE_rows (os := [a, b, c]) (xs := []) T_pop rfl (by decide) (by
    intro o ho
    simp only [List.mem_cons, List.not_mem_nil, or_false] at ho
    rcases ho with rfl | rfl | rfl
    · exact h.ha
    · exact h.hb
    · exact h.hc) rfl ?_
  intro ds σ k L hR hn hσ hL hk1 hk
  obtain ⟨da, db, dc, La, Lb, Lc, rfl, rfl, ra, rb, rc⟩ := rw3 hR
  have ha0 : a.n ≠ 0 := by omega
  obtain ⟨ri, hab, rfl, rfl, haσ⟩ := ra.pos ha0
  rw [show opt 99 = [oLow 6, oHi 42] from rfl]
  simp only [bodyOf, Tryd.f99, SA]
  have hk0 : ¬ (0 = k) := by omega
  have h0k : 0 < k := by omega
  have hn' : ∀ r ∈ [ri] ++ (Lb ++ Lc), r ≠ k := fun r hr => by have := (hL r hr).2; omega
  have hrik : ¬ (ri = k) := hn' ri (by simp)
  have hri0 : ¬ (ri = 0) := by have := (hL ri (by simp)).1; omega
  have hrilt : ri < k := (hL ri (by simp)).2
  have rc' : ∀ X, Rw (upd σ k X) c dc Lc := fun X => rc.frame fun r hr => upd_ne _ _ _ _ (hn' r (by simp [hr]))
  have hle' : ¬ ((a.n : Int) ≤ (base : Int)) := by omega
  have hwa : IntKind.i64.wrap ((a.n : Int) - 1) = ((a.n - 1 : Nat) : Int) := by
    have := h.an
    rw [wrap64 (by omega) (by omega)]; omega
  have ha1 : (0 : Int) ≤ ((a.n - 1 : Nat) : Int) := by omega
  have ha2 : ((a.n - 1 : Nat) : Int) < (a.n : Int) := by omega
  have ha3 : ((a.n - 1 : Nat) : Int) ≤ (a.n : Int) := by omega
  have hdr : a.cs.drop ((a.n - 1) * 3) = cell := by
    rw [hcs, List.drop_append, List.drop_eq_nil_of_le (by omega), show (a.n - 1) * 3 - pa.length = 0 by omega]
    rfl
  rcases hbs with ⟨hc0, rfl⟩ | ⟨hc0, pre, hcs', hpl⟩
  · have hlt : ¬ ((0 : Int) < (c.n : Int)) := by omega
    have hle0 : ¬ ((a.n : Int) ≤ 0) := by omega
    simp only [hlt, hσ, hk0, h0k, hrik, hrilt, haσ, hle0, hwa, ha1, ha2, ha3, hdr, h.aS, Int.toNat_natCast, Nat.zero_add, len_rw (rc' _), IA, PA, RA0, RA1, RA2, RA3, RA4, RA5, RA6, RA7, RA8, RA9, RA10, Nat.reduceAdd, Nat.reduceMul, Nat.reduceEqDiff, Nat.reduceLeDiff, Nat.reduceLT, Int.reduceToNat, Int.reduceLT, Int.reduceLE, Int.reduceEq, Int.reduceNeg, Int.reduceAdd, Int.reduceSub, Int.reduceMul, reduceIte]
    have hct : List.take 3 cell = cell := List.take_of_length_le (by omega)
    rw [if_pos (by omega), if_pos (by omega), if_pos (by omega), if_pos (by omega), if_pos (by simp), hct, if_pos ⟨hcl, hlf⟩, if_pos (by omega)]
    have hk0' : ¬ (k = 0) := by omega
    have hk48 : ¬ (k = k + 8 + 4 + 24 + 28 + 48) := by omega
    have hz48 : ¬ (0 = k + 8 + 4 + 24 + 28 + 48) := by omega
    have hr48 : ¬ (ri = k + 8 + 4 + 24 + 28 + 48) := by omega
    simp only [hk0', hk48, hcl, hct, hlf, hσ, hk0, h0k, hrik, hrilt, haσ, hwa, ha1, ha2, ha3, hdr, h.aS, cut_w_hi, Int.toNat_natCast, Nat.zero_add, RR, IA, PA, RA0, RA1, RA2, RA3, RA4, RA5, RA6, RA7, RA8, RA9, RA10, Nat.reduceAdd, Nat.reduceMul, Nat.reduceEqDiff, Nat.reduceLeDiff, Nat.reduceLT, Int.reduceToNat, Int.reduceLT, Int.reduceLE, Int.reduceEq, Int.reduceNeg, Int.reduceAdd, Int.reduceSub, Int.reduceMul, reduceIte]
    have hcc : closedL cell = true := by
      have := h.ha.2.1
      rw [hcs, closedL_append] at this
      exact (Bool.and_eq_true_iff.1 this).2
    refine out_rows_two (x := .a cell) (y := B true) (zs := []) (xs := []) (ds := [.w ri 0 (a.n - 1), db, dc]) (ps := [rsV ⟨a.b, a.E, 3, a.n - 1, pa⟩, rsV b, rsV c]) (L := [ri] ++ (Lb ++ Lc)) ?_ (by
      simp only [closedL, closed, hcc, Bool.and_self]) ?_ ?_ hn (by rfl)
    · simp only [hk0, hct, hcl, IA, PA, RA0, RA1, RA2, RA3, RA4, RA5, RA6, RA7, RA8, RA9, RA10, Nat.reduceAdd, Nat.reduceMul, Nat.reduceEqDiff, Nat.reduceLeDiff, Nat.reduceLT, Int.reduceToNat, Int.reduceLT, Int.reduceLE, Int.reduceEq, Int.reduceNeg, Int.reduceAdd, Int.reduceSub, Int.reduceMul, reduceIte]
    · simp only [upd, hk0, if_false, if_true]
    · have hfr : ∀ r ∈ [ri] ++ (Lb ++ Lc), ¬ (r = k) ∧ ¬ (r = 0) ∧ ¬ (r = k + 8 + 4 + 24 + 28 + 48) := fun r hr => by
        have := hL r hr
        omega
      have htk : tk (a.n - 1) a.n a.sz a.cs = pa := by
        unfold tk
        rw [if_neg (by omega), h.aS, hcs, List.take_append_of_le_length (by omega), List.take_of_length_le (by omega)]
      refine leaf3 ?_ (rb.frame fun r hr => ?_).leaf (rc.frame fun r hr => ?_).leaf
      · rw [leafP_part (n' := a.n) (cs := a.cs) (E := a.E) (sz := a.sz) (by
          obtain ⟨q1, q2, q3⟩ := hfr ri (by simp)
          simp only [upd, if_neg q1, if_neg q2, if_neg q3, haσ]) h.ha.2.1 (by omega), htk, h.aS]
        simp only [rsV, hab, if_true]
      · obtain ⟨q1, q2, q3⟩ := hfr r (by simp [hr])
        simp only [upd, if_neg q1, if_neg q2, if_neg q3]
      · obtain ⟨q1, q2, q3⟩ := hfr r (by simp [hr])
        simp only [upd, if_neg q1, if_neg q2, if_neg q3]
  · have hlt : ((0 : Int) < (c.n : Int)) := by omega
    obtain ⟨rr, hcb, rfl, rfl, hcσ⟩ := rc.pos hc0
    have hrk : ¬ (rr = k) := hn' rr (by simp)
    have hwc : IntKind.i64.wrap ((c.n : Int) - 1) = ((c.n - 1 : Nat) : Int) := by
      have := h.cn
      rw [wrap64 (by omega) (by omega)]; omega
    have hz1 : (0 : Int) ≤ ((c.n - 1 : Nat) : Int) := by omega
    have hz2 : ((c.n - 1 : Nat) : Int) < (c.n : Int) := by omega
    have hhd : (c.cs.drop (c.n - 1)).head? = some (N base) := by
      rw [hcs', List.drop_append, List.drop_eq_nil_of_le (by omega), show c.n - 1 - pre.length = 0 by omega]
      rfl
    simp only [hlt, hσ, hk0, h0k, hrik, hrilt, haσ, hrk, hcσ, hwc, hz1, hz2, hhd, hle', h.cS, Nat.mul_one, hwa, ha1, ha2, ha3, hdr, h.aS, Int.toNat_natCast, Nat.zero_add, IA, PA, RA0, RA1, RA2, RA3, RA4, RA5, RA6, RA7, RA8, RA9, RA10, Nat.reduceAdd, Nat.reduceMul, Nat.reduceEqDiff, Nat.reduceLeDiff, Nat.reduceLT, Int.reduceToNat, Int.reduceLT, Int.reduceLE, Int.reduceEq, Int.reduceNeg, Int.reduceAdd, Int.reduceSub, Int.reduceMul, reduceIte]
    have hct : List.take 3 cell = cell := List.take_of_length_le (by omega)
    rw [if_pos (by omega), if_pos (by omega), if_pos (by omega), if_pos (by omega), if_pos (by simp), hct, if_pos ⟨hcl, hlf⟩, if_pos (by omega)]
    have hk0' : ¬ (k = 0) := by omega
    have hk48 : ¬ (k = k + 8 + 4 + 24 + 52 + 28 + 48) := by omega
    have hz48 : ¬ (0 = k + 8 + 4 + 24 + 52 + 28 + 48) := by omega
    have hr48 : ¬ (ri = k + 8 + 4 + 24 + 52 + 28 + 48) := by omega
    simp only [hk0', hk48, hcl, hct, hlf, hσ, hk0, h0k, hrik, hrilt, haσ, hwa, ha1, ha2, ha3, hdr, h.aS, cut_w_hi, Int.toNat_natCast, Nat.zero_add, RR, IA, PA, RA0, RA1, RA2, RA3, RA4, RA5, RA6, RA7, RA8, RA9, RA10, Nat.reduceAdd, Nat.reduceMul, Nat.reduceEqDiff, Nat.reduceLeDiff, Nat.reduceLT, Int.reduceToNat, Int.reduceLT, Int.reduceLE, Int.reduceEq, Int.reduceNeg, Int.reduceAdd, Int.reduceSub, Int.reduceMul, reduceIte]
    have hcc : closedL cell = true := by
      have := h.ha.2.1
      rw [hcs, closedL_append] at this
      exact (Bool.and_eq_true_iff.1 this).2
    refine out_rows_two (x := .a cell) (y := B true) (zs := []) (xs := []) (ds := [.w ri 0 (a.n - 1), db, .w rr 0 c.n]) (ps := [rsV ⟨a.b, a.E, 3, a.n - 1, pa⟩, rsV b, rsV c]) (L := [ri] ++ (Lb ++ [rr])) ?_ (by
      simp only [closedL, closed, hcc, Bool.and_self]) ?_ ?_ hn (by rfl)
    · simp only [hk0, hct, hcl, IA, PA, RA0, RA1, RA2, RA3, RA4, RA5, RA6, RA7, RA8, RA9, RA10, Nat.reduceAdd, Nat.reduceMul, Nat.reduceEqDiff, Nat.reduceLeDiff, Nat.reduceLT, Int.reduceToNat, Int.reduceLT, Int.reduceLE, Int.reduceEq, Int.reduceNeg, Int.reduceAdd, Int.reduceSub, Int.reduceMul, reduceIte]
    · simp only [upd, hk0, if_false, if_true]
    · have hfr : ∀ r ∈ [ri] ++ (Lb ++ [rr]), ¬ (r = k) ∧ ¬ (r = 0) ∧ ¬ (r = k + 8 + 4 + 24 + 52 + 28 + 48) := fun r hr => by
        have := hL r hr
        omega
      have htk : tk (a.n - 1) a.n a.sz a.cs = pa := by
        unfold tk
        rw [if_neg (by omega), h.aS, hcs, List.take_append_of_le_length (by omega), List.take_of_length_le (by omega)]
      refine leaf3 ?_ (rb.frame fun r hr => ?_).leaf (rc.frame fun r hr => ?_).leaf
      · rw [leafP_part (n' := a.n) (cs := a.cs) (E := a.E) (sz := a.sz) (by
          obtain ⟨q1, q2, q3⟩ := hfr ri (by simp)
          simp only [upd, if_neg q1, if_neg q2, if_neg q3, haσ]) h.ha.2.1 (by omega), htk, h.aS]
        simp only [rsV, hab, if_true]
      · obtain ⟨q1, q2, q3⟩ := hfr r (List.mem_append_right _ (List.mem_append_left _ hr))
        simp only [upd, if_neg q1, if_neg q2, if_neg q3]
      · obtain ⟨q1, q2, q3⟩ := hfr r (List.mem_append_right _ (List.mem_append_right _ hr))
        simp only [upd, if_neg q1, if_neg q2, if_neg q3]
end
end Go.Proofs.YtkmnidbodlmaaaaDoor.Ev

/-
Code: the reference's builder: a term is put onto the stack.
-/
namespace Go.Proofs.YtkmnidbodlmaaaaDoor.Ev
section
set_option linter.unusedVariables false
set_option linter.unusedSimpArgs false
open Go Go.RowKit
set_option linter.unusedVariables false
set_option linter.unusedSimpArgs false
def pushR (a : RS) (cell : List AV) : RS := ⟨true, 42, 3, a.n + 1, a.cs ++ cell⟩
theorem push_ok (a b c : RS) (h : BOk a b c) (cell : List AV) (hcl : cell.length = 3) (hlf : cell.all leafOk = true) (hcc : closedL cell = true) :
    EE 98 [lent 75 [rsV a, rsV b, rsV c], .a cell] = some (.t [.t [], .t [lent 75 [rsV (pushR a cell), rsV b, rsV c], .a cell]]) := by
  refine EE_rows (os := [a, b, c]) (xs := [.a cell]) T_push rfl (Nat.le_of_ble_eq_true rfl) (by
    intro o ho
    simp only [List.mem_cons, List.not_mem_nil, or_false] at ho
    rcases ho with rfl | rfl | rfl
    · exact h.ha
    · exact h.hb
    · exact h.hc) (by simp only [List.all_cons, goes, closed, hcc, List.all_nil, Bool.and_self]) ?_
  intro ds σ k L hR hn hσ hL hk1 hk
  obtain ⟨da, db, dc, La, Lb, Lc, rfl, rfl, ra, rb, rc⟩ := rw3 hR
  rw [show opt 98 = [oLow 1, oHi 42] from rfl]
  simp only [bodyOf, Tryd.f98, SA]
  have hk0 : ¬ (0 = k) := by omega
  have h0k : 0 < k := by omega
  have hn' : ∀ r ∈ La ++ (Lb ++ Lc), r ≠ k := fun r hr => by have := (hL r hr).2; omega
  have ra' : ∀ X, Rw (upd σ k X) a da La := fun X => ra.frame fun r hr => upd_ne _ _ _ _ (hn' r (by simp [hr]))
  have hlt : ∀ r ∈ La, r < k + 4 := fun r hr => by have := (hL r (by simp [hr])).2; omega
  have hlst := (ra' (some (.ob 42 cell))).lst hlt
  rw [h.aE, h.aS] at hlst
  have hb4 : k < k + 4 := by omega
  have hb0 : 0 < k + 4 := by omega
  have hct : List.take 3 cell = cell := List.take_of_length_le (by omega)
  have han := h.an
  simp only [hσ, hk0, h0k, hcl, hlf, hb4, hb0, hct, len_rw (ra' _), RR, IA, PA, RA0, RA1, RA2, RA3, RA4, RA5, RA6, RA7, RA8, RA9, RA10, Nat.reduceAdd, Nat.reduceMul, Nat.reduceEqDiff, Nat.reduceLeDiff, Nat.reduceLT, Int.reduceToNat, Int.reduceLT, Int.reduceLE, Int.reduceEq, Int.reduceNeg, Int.reduceAdd, Int.reduceSub, Int.reduceMul, reduceIte]
  rw [lst_app hlst (by decide) (by rfl) (by rfl) (by decide) (by omega) (by omega) (by omega)]
  have h4n : ∀ id lo n, da = .w id lo n → id ≠ 0 ∧ id ≠ k ∧ id < k := by
    intro id lo n hda
    rcases ra with ⟨h0, ⟨hb, rfl, rfl⟩ | ⟨r, hb, rfl, rfl, hσr⟩⟩
    · cases hda
    · cases hda
      have := hL id (by simp)
      omega
  obtain ⟨τ, hτ⟩ : ∃ τ, τ = appSto (upd σ k (some (.ob 42 cell))) (k + 4 + 28) 42 3 da (a.n + 1) (a.cs ++ [ofC0 (.int .u8 0), ofC0 (.int .u8 0), ofC0 (.slice none 0 0)]) := ⟨_, rfl⟩
  have t1 : τ (k + 4 + 28) = some (.row 42 3 (a.n + 1) (a.cs ++ [ofC0 (.int .u8 0), ofC0 (.int .u8 0), ofC0 (.slice none 0 0)])) := by rw [hτ]; exact appSto_key ..
  have t2 : ∀ i, i ≠ k + 4 + 28 → (∀ id lo n, da = .w id lo n → i ≠ id) → τ i = upd σ k (some (.ob 42 cell)) i := by rw [hτ]; exact fun i h1 h2 => appSto_other h1 h2
  rw [← hτ]
  have t3 : τ 0 = some (.ob 75 [da, db, dc]) := by
    rw [t2 0 (by omega) (fun id lo n hda => (h4n id lo n hda).1.symm), upd, if_neg hk0, hσ]
  clear hτ
  simp only [t1, t3, hcl, hlf, hb4, hb0, hct, RR, IA, PA, RA0, RA1, RA2, RA3, RA4, RA5, RA6, RA7, RA8, RA9, RA10, Nat.reduceAdd, Nat.reduceMul, Nat.reduceEqDiff, Nat.reduceLeDiff, Nat.reduceLT, Int.reduceToNat, Int.reduceLT, Int.reduceLE, Int.reduceEq, Int.reduceNeg, Int.reduceAdd, Int.reduceSub, Int.reduceMul, reduceIte]
  have hla : a.cs.length = a.n * 3 := by have := h.ha.1; rw [h.aS] at this; exact this
  rw [if_pos (by omega), if_pos (by simp), if_pos (by simp only [List.length_append, List.length_cons, List.length_nil]; omega)]
  have hcells : List.take (a.n * 3) (a.cs ++ [ofC0 (.int .u8 0), ofC0 (.int .u8 0), ofC0 (.slice none 0 0)]) ++ cell ++ List.drop (a.n * 3 + 3) (a.cs ++ [ofC0 (.int .u8 0), ofC0 (.int .u8 0), ofC0 (.slice none 0 0)]) = a.cs ++ cell := by
    rw [← hla, List.take_append_of_le_length (Nat.le_refl _), List.take_length, List.drop_eq_nil_of_le (by simp), List.append_nil]
  rw [hcells]
  have hfr : ∀ r ∈ Lb ++ Lc, ¬ (r = 0) ∧ ¬ (r = k) ∧ ¬ (r = k + 4 + 28) ∧ (∀ id lo n, da = .w id lo n → r ≠ id) := fun r hr => by
    have h1 := hL r (List.mem_append_right _ hr)
    refine ⟨by omega, by omega, by omega, fun id lo n hda he => ?_⟩
    rcases ra with ⟨h0, ⟨hb, rfl, rfl⟩ | ⟨r', hb, rfl, rfl, hσr⟩⟩
    · cases hda
    · cases hda
      subst he
      have := (List.nodup_cons.1 hn).2
      simp only [List.singleton_append] at this
      exact (List.nodup_cons.1 this).1 hr
  have hfr2 : ∀ (X Y : Slot) r, r ∈ Lb ++ Lc → upd (upd τ (k + 4 + 28) (some X)) 0 (some Y) r = σ r := fun X Y r hr => by
    obtain ⟨q1, q2, q3, q4⟩ := hfr r hr
    simp only [upd, if_neg q1, if_neg q3]
    rw [t2 r q3 q4, upd, if_neg q2]
  have hkk : ¬ (k + 4 + 28 = 0) := by omega
  refine out_rows_none (ds := [.w (k + 4 + 28) 0 (a.n + 1), db, dc]) (ps := [rsV (pushR a cell), rsV b, rsV c]) (L := [k + 4 + 28] ++ (Lb ++ Lc)) (by intro i hi; cases hi) (by rfl) (by rfl) ?_ ?_ (by simp only [List.all_cons, goes, closed, hcc, List.all_nil, Bool.and_self])
  · refine leaf3 ?_ (rb.frame fun r hr => hfr2 _ _ r (List.mem_append_left _ hr)).leaf (rc.frame fun r hr => hfr2 _ _ r (List.mem_append_right _ hr)).leaf
    rw [leafP_row (E := 42) (sz := 3) (n := a.n + 1) (cs := a.cs ++ cell) (by simp only [upd, if_neg hkk, if_true]) (by rw [closedL_append, h.ha.2.1, hcc]; rfl)]
    simp only [rsV, pushR, if_true]
  · have h1 := List.nodup_cons.1 hn
    have h2 := (List.nodup_append.1 h1.2).2.1
    refine List.nodup_cons.2 ⟨?_, ?_⟩
    · simp only [List.singleton_append, List.mem_cons, not_or]
      exact ⟨by omega, fun hr => (hfr 0 hr).1 rfl⟩
    · simp only [List.singleton_append]
      exact List.nodup_cons.2 ⟨fun hr => (hfr _ hr).2.2.1 rfl, h2⟩
end
end Go.Proofs.YtkmnidbodlmaaaaDoor.Ev

/-
Small functions by the engine.
-/
namespace Go.Proofs.YtkmnidbodlmaaaaDoor.Ev
section
set_option linter.unusedVariables false
set_option linter.unusedSimpArgs false
open Go Go.RowKit
set_option linter.unusedVariables false
set_option linter.unusedSimpArgs false

theorem T_l1In : TT 56 = some (Tryd.f56, bodyOf Tryd.f56) := by kernel_rfl
theorem l1In_ev (x a b : Int) : EE 56 [N x, N a, N b] = some (B (decide (a ≤ x ∧ x ≤ b))) := by
  refine EE_plain T_l1In (by decide) (Nat.le_of_ble_eq_true rfl) (by rfl) ?_
  rw [show opt 56 = [] from rfl]
  simp only [bodyOf, Tryd.f56, SA]
  by_cases h1 : a ≤ x
  · simp only [h1, ge_iff_le, IA, PA, RA0, RA1, RA2, RA3, RA4, RA5, RA6, RA7, RA8, RA9, RA10, Nat.reduceAdd, Nat.reduceMul, Nat.reduceEqDiff, Nat.reduceLeDiff, Nat.reduceLT, Int.reduceToNat, Int.reduceLT, Int.reduceLE, Int.reduceEq, Int.reduceNeg, Int.reduceAdd, Int.reduceSub, Int.reduceMul, reduceIte]
  · simp only [h1, ge_iff_le, false_and, IA, PA, RA0, RA1, RA2, RA3, RA4, RA5, RA6, RA7, RA8, RA9, RA10, Nat.reduceAdd, Nat.reduceMul, Nat.reduceEqDiff, Nat.reduceLeDiff, Nat.reduceLT, Int.reduceToNat, Int.reduceLT, Int.reduceLE, Int.reduceEq, Int.reduceNeg, Int.reduceAdd, Int.reduceSub, Int.reduceMul, reduceIte]

/-- Where a byte is first found from place i on, -1 if nowhere. -/
def findFrom (c : UInt8) (i : Nat) : List UInt8 → Int
  | [] => -1
  | x :: l => if x = c then (i : Int) else findFrom c (i + 1) l
theorem T_l13Find : TT 82 = some (Tryd.f82, bodyOf Tryd.f82) := by kernel_rfl
theorem l13Find_loop (l : List UInt8) (c : UInt8) (hl : l.length < 4611686018427387904) : ∀ (r : List UInt8) (i n : Nat) (e : Nat → AV) (σ : Sto) (nx : Nat) (q : Option (Ex × St)),
    l.drop i = r → i ≤ l.length → r.length < n → roundsE (evC II EE (withOpt [] pf) MX (bodyL Tryd.f82 0)) n ⟨e, σ, nx⟩ = q → e 0 = S l → e 1 = U c → e 5 = N i →
    ∃ e' nx', (findFrom c i r = -1 ∧ q = some (.exit 0, ⟨e', σ, nx'⟩)) ∨ (q = some (.ret, ⟨e', σ, nx'⟩) ∧ e' 4 = N (findFrom c i r)) := by
  intro r
  induction r with
  | nil =>
    intro i n e σ nx q hd hi hn hq h0 h1 h5
    have hlen : l.length ≤ i := by simpa using hd
    obtain ⟨k, rfl⟩ : ∃ k, n = k + 1 := ⟨n - 1, by omega⟩
    rw [rounds_rd] at hq
    have hc : ¬ ((i : Int) < (l.length : Int)) := by omega
    simp only [bodyL, bodyOf, Tryd.f82, SA, loops, List.nil_append, List.append_nil, List.cons_append, List.getD_cons_zero, List.getD_cons_succ] at hq
    simp only [h0, h1, h5, hc, size_mk, IA, PA, RA0, RA1, RA2, RA3, RA4, RA5, RA6, RA7, RA8, RA9, RA10, Nat.reduceAdd, Nat.reduceMul, Nat.reduceEqDiff, Nat.reduceLeDiff, Nat.reduceLT, Int.reduceToNat, Int.reduceLT, Int.reduceLE, Int.reduceEq, Int.reduceNeg, Int.reduceAdd, Int.reduceSub, Int.reduceMul, reduceIte] at hq
    exact ⟨_, _, .inl ⟨rfl, hq.symm⟩⟩
  | cons x r ih =>
    intro i n e σ nx q hd hi hn hq h0 h1 h5
    have hlen : i < l.length := by
      rcases Nat.lt_or_ge i l.length with h | h
      · exact h
      · rw [List.drop_eq_nil_of_le h] at hd
        cases hd
    have hx : l[i]? = some x := by
      have : (l.drop i)[0]? = some x := by rw [hd]; rfl
      simpa using this
    have hd' : l.drop (i + 1) = r := by
      have : (l.drop i).drop 1 = r := by rw [hd]; rfl
      simpa [List.drop_drop] using this
    obtain ⟨k, rfl⟩ : ∃ k, n = k + 1 := ⟨n - 1, by omega⟩
    rw [rounds_rd] at hq
    have hc : ((i : Int) < (l.length : Int)) := by omega
    have hz : (0 : Int) ≤ (i : Int) := by omega
    have hw : IntKind.i64.wrap ((i : Int) + 1) = ((i + 1 : Nat) : Int) := by rw [wrap64 (by omega) (by omega)]; rfl
    simp only [bodyL, bodyOf, Tryd.f82, SA, loops, List.nil_append, List.append_nil, List.cons_append, List.getD_cons_zero, List.getD_cons_succ] at hq
    by_cases he : x = c
    · subst he
      simp only [h0, h1, h5, hc, hz, hx, Int.toNat_natCast, size_mk, IA, PA, RA0, RA1, RA2, RA3, RA4, RA5, RA6, RA7, RA8, RA9, RA10, Nat.reduceAdd, Nat.reduceMul, Nat.reduceEqDiff, Nat.reduceLeDiff, Nat.reduceLT, Int.reduceToNat, Int.reduceLT, Int.reduceLE, Int.reduceEq, Int.reduceNeg, Int.reduceAdd, Int.reduceSub, Int.reduceMul, reduceIte] at hq
      refine ⟨_, _, .inr ⟨hq.symm, ?_⟩⟩
      simp [findFrom]
    · have he2 : ¬ ((x.toNat : Int) = (c.toNat : Int)) := fun h => he (UInt8.toNat_inj.1 (by omega))
      simp only [h0, h1, h5, hc, hz, hx, he2, hw, Int.toNat_natCast, size_mk, IA, PA, RA0, RA1, RA2, RA3, RA4, RA5, RA6, RA7, RA8, RA9, RA10, Nat.reduceAdd, Nat.reduceMul, Nat.reduceEqDiff, Nat.reduceLeDiff, Nat.reduceLT, Int.reduceToNat, Int.reduceLT, Int.reduceLE, Int.reduceEq, Int.reduceNeg, Int.reduceAdd, Int.reduceSub, Int.reduceMul, reduceIte] at hq
      rw [findFrom, if_neg he]
      exact ih (i + 1) k _ σ _ q hd' (by omega) (by simpa using hn) hq h0 h1 rfl
theorem lt_MX {n : Nat} (h : n < 9223372036854775808) : n < MX := Nat.lt_of_lt_of_le h (by decide)
theorem l13Find_ev (l : List UInt8) (c : UInt8) (hl : l.length < 4611686018427387904) : EE 82 [S l, U c] = some (N (findFrom c 0 l)) := by
  refine EE_plain T_l13Find (by decide) (Nat.le_of_ble_eq_true rfl) (by rfl) ?_
  rw [show opt 82 = [] from rfl]
  simp only [bodyOf, Tryd.f82, SA]
  simp only [IA, PA, RA0, RA1, RA2, RA3, RA4, RA5, RA6, RA7, RA8, RA9, RA10, Nat.reduceAdd, Nat.reduceMul, Nat.reduceEqDiff, Nat.reduceLeDiff, Nat.reduceLT, Int.reduceToNat, Int.reduceLT, Int.reduceLE, Int.reduceEq, Int.reduceNeg, Int.reduceAdd, Int.reduceSub, Int.reduceMul, reduceIte]
  generalize hq : roundsE _ _ _ = q
  obtain ⟨e', nx', h | h⟩ := l13Find_loop l c hl l 0 MX _ _ _ q rfl (Nat.zero_le _) (lt_MX (by omega)) hq rfl rfl rfl
  · obtain ⟨h1, rfl⟩ := h
    simp only [h1, IA, PA, RA0, RA1, RA2, RA3, RA4, RA5, RA6, RA7, RA8, RA9, RA10, Nat.reduceAdd, Nat.reduceMul, Nat.reduceEqDiff, Nat.reduceLeDiff, Nat.reduceLT, Int.reduceToNat, Int.reduceLT, Int.reduceLE, Int.reduceEq, Int.reduceNeg, Int.reduceAdd, Int.reduceSub, Int.reduceMul, reduceIte]
  · obtain ⟨rfl, h4⟩ := h
    simp only [h4, IA, PA, RA0, RA1, RA2, RA3, RA4, RA5, RA6, RA7, RA8, RA9, RA10, Nat.reduceAdd, Nat.reduceMul, Nat.reduceEqDiff, Nat.reduceLeDiff, Nat.reduceLT, Int.reduceToNat, Int.reduceLT, Int.reduceLE, Int.reduceEq, Int.reduceNeg, Int.reduceAdd, Int.reduceSub, Int.reduceMul, reduceIte]
end
end Go.Proofs.YtkmnidbodlmaaaaDoor.Ev

/-
Terms: what a text reads as (one reader for both), and how terms lie in memory.
-/
namespace Go.Proofs.YtkmnidbodlmaaaaDoor.Ev
section
set_option linter.unusedVariables false
set_option linter.unusedSimpArgs false
open Go Go.RowKit
set_option linter.unusedVariables false
set_option linter.unusedSimpArgs false

inductive T where
  | dig (c : UInt8)
  | var (c : UInt8)
  | one (s : UInt8) (x : T)
  | two (s : UInt8) (x y : T)
  | loop (s v : UInt8) (x y : T)

def isVar (c : UInt8) : Bool := [97, 98, 118, 119, 120, 121, 122].contains c
def isDig (c : UInt8) : Bool := decide (48 ≤ c.toNat) && decide (c.toNat ≤ 57)
def isOne (c : UInt8) : Bool := [83, 77, 73, 78, 82, 67, 80].contains c
def isTwo (c : UInt8) : Bool := [43, 42, 94, 45, 61, 60, 64].contains c
def isLV (c : UInt8) : Bool := decide (118 ≤ c.toNat) && decide (c.toNat ≤ 122)

/-- What is behind a term with two parts. -/
def rdTwo (f : List UInt8 → Option (T × List UInt8)) (r : List UInt8) : Option (T × List UInt8) :=
  match f r with
  | some (x, s :: r2) => if isTwo s = true then (match f r2 with | some (y, z :: r4) => if z = 41 then some (.two s x y, r4) else none | _ => none) else none
  | _ => none
def rdLoop (f : List UInt8 → Option (T × List UInt8)) (c : UInt8) (r : List UInt8) : Option (T × List UInt8) :=
  match r with
  | v :: d :: r1 => if isLV v = true ∧ d = 58 then (match f r1 with
    | some (x, q :: r2) => if q = 62 then (match f r2 with | some (y, z :: r4) => if z = c + 2 then some (.loop c v x y, r4) else none | _ => none) else none
    | _ => none) else none
  | _ => none
/-- The term at the beginning of a text, and what is behind it. -/
def rd : Nat → List UInt8 → Option (T × List UInt8)
  | 0, _ => none
  | _ + 1, [] => none
  | n + 1, c :: r =>
    if isVar c then some (.var c, r)
    else if isDig c then some (.dig c, r)
    else if isOne c then (match rd n r with | some (x, r1) => some (.one c x, r1) | none => none)
    else if c = 40 then rdTwo (rd n) r
    else if c = 91 ∨ c = 123 then rdLoop (rd n) c r
    else none

theorem rd_less : ∀ (n : Nat) (s : List UInt8) (t : T) (r : List UInt8), rd n s = some (t, r) → r.length < s.length := by
  intro n
  induction n with
  | zero => intro s t r h; cases h
  | succ n ih =>
    intro s t r h
    cases s with
    | nil => cases h
    | cons c s =>
      simp only [rd] at h
      split at h
      · simp only [Option.some.injEq, Prod.mk.injEq] at h; obtain ⟨_, rfl⟩ := h; simp
      split at h
      · simp only [Option.some.injEq, Prod.mk.injEq] at h; obtain ⟨_, rfl⟩ := h; simp
      split at h
      · split at h
        · rename_i x r1 h1
          simp only [Option.some.injEq, Prod.mk.injEq] at h; obtain ⟨_, rfl⟩ := h
          have := ih _ _ _ h1
          simp only [List.length_cons]
          omega
        · cases h
      split at h
      · unfold rdTwo at h
        split at h
        · rename_i x q r2 h1
          split at h
          · split at h
            · rename_i y z r4 h2
              split at h
              · simp only [Option.some.injEq, Prod.mk.injEq] at h; obtain ⟨_, rfl⟩ := h
                have := ih _ _ _ h1
                have := ih _ _ _ h2
                simp only [List.length_cons] at *
                omega
              · cases h
            · cases h
          · cases h
        · cases h
      split at h
      · unfold rdLoop at h
        split at h
        · rename_i v d r1
          split at h
          · split at h
            · rename_i x q r2 h1
              split at h
              · split at h
                · rename_i y z r4 h2
                  split at h
                  · simp only [Option.some.injEq, Prod.mk.injEq] at h; obtain ⟨_, rfl⟩ := h
                    have := ih _ _ _ h1
                    have := ih _ _ _ h2
                    simp only [List.length_cons] at *
                    omega
                  · cases h
                · cases h
              · cases h
            · cases h
          · cases h
        · cases h
      · cases h

/-- A pointer to a term. -/
def encP : T → AV
  | .dig c => .p [S [c], S [], .s true 0 []]
  | .var c => .p [S [c], S [], .s true 0 []]
  | .one s x => .p [S [s], S [], .s true 1 [encP x]]
  | .two s x y => .p [S [s], S [], .s true 2 [encP x, encP y]]
  | .loop s v x y => .p [S [s], S [v], .s true 2 [encP x, encP y]]
theorem encP_closed : ∀ t, closed (encP t) = true
  | .dig c => rfl
  | .var c => rfl
  | .one s x => by simp only [encP, closed, closedL, encP_closed x, Bool.and_self]
  | .two s x y => by simp only [encP, closed, closedL, encP_closed x, encP_closed y, Bool.and_self]
  | .loop s v x y => by simp only [encP, closed, closedL, encP_closed x, encP_closed y, Bool.and_self]
/-- A term's three cells. -/
def encN : T → List AV
  | .dig c => [U 48, U c, .s true 0 []]
  | .var c => [U 97, U c, .s true 0 []]
  | .one s x => [U s, U 0, .s true 1 (encN x)]
  | .two s x y => [U s, U 0, .s true 2 (encN x ++ encN y)]
  | .loop s v x y => [U s, U v, .s true 2 (encN x ++ encN y)]
theorem encN_len : ∀ t, (encN t).length = 3
  | .dig c => rfl
  | .var c => rfl
  | .one s x => rfl
  | .two s x y => rfl
  | .loop s v x y => rfl
theorem encN_closed : ∀ t, closedL (encN t) = true
  | .dig c => rfl
  | .var c => rfl
  | .one s x => by simp only [encN, closed, closedL, encN_closed x, Bool.and_self]
  | .two s x y => by simp only [encN, closed, closedL, closedL_append, encN_closed x, encN_closed y, Bool.and_self]
  | .loop s v x y => by simp only [encN, closed, closedL, closedL_append, encN_closed x, encN_closed y, Bool.and_self]
theorem encN_leaf : ∀ t, (encN t).all leafOk = true
  | .dig c => rfl
  | .var c => rfl
  | .one s x => rfl
  | .two s x y => rfl
  | .loop s v x y => rfl

theorem bin_encP (op : BinOp) (q : Nat) (t : T) : bin op (.ptr q) (encP t) nilP = eqB op false := by cases t <;> rfl
theorem leaves_encP (t : T) : leaves (encP t) = some [encP t] := by cases t <;> rfl
theorem leafOk_encP (t : T) : leafOk (encP t) = true := by cases t <;> rfl
theorem leaves_encN (t : T) : leaves (.a (encN t)) = some (encN t) := rfl

/-! ### small laws of texts -/
theorem less_one (a b : UInt8) : Op.bytesLess [a] [b] = decide (a < b) := by simp [Op.bytesLess]
theorem beq_one (a b : UInt8) : (([a] : List UInt8) == [b]) = decide (a = b) := by
  rw [Bool.eq_iff_iff]
  simp
theorem beq_nil (a : UInt8) (l : List UInt8) : ((a :: l : List UInt8) == []) = false := rfl
theorem nil_beq (a : UInt8) (l : List UInt8) : (([] : List UInt8) == a :: l) = false := rfl
theorem nil_nil : (([] : List UInt8) == []) = true := rfl
theorem beq_two_one (a b c : UInt8) (l : List UInt8) : ((a :: b :: l : List UInt8) == [c]) = false := by
  rw [Bool.eq_false_iff]
  simp
theorem pre_nil (a : UInt8) : (([a] : List UInt8).isPrefixOf []) = false := rfl
theorem pre_cons (a x : UInt8) (l : List UInt8) : (([a] : List UInt8).isPrefixOf (x :: l)) = decide (a = x) := by
  rw [Bool.eq_iff_iff]
  simp [List.isPrefixOf]
theorem dig_less (c : UInt8) : ((!decide (c < 48)) && (decide (c < 57) || decide (c = 57))) = isDig c := by
  rw [Bool.eq_iff_iff]
  simp only [isDig, Bool.and_eq_true, Bool.or_eq_true, Bool.not_eq_true', decide_eq_false_iff_not, decide_eq_true_eq, UInt8.lt_iff_toNat_lt, ← UInt8.toNat_inj]
  show ¬ c.toNat < 48 ∧ (c.toNat < 57 ∨ c.toNat = 57) ↔ _
  omega
theorem cut_one_hi (c : UInt8) (l : List UInt8) : cut 0 (S (c :: l)) none (some (N 1)) = some (S [c]) := by
  rw [cut_str_hi, if_pos (by simp; omega)]
  rfl
theorem cut_one_lo (c : UInt8) (l : List UInt8) : cut 0 (S (c :: l)) (some (N 1)) none = some (S l) := by
  rw [cut_str_lo, if_pos (by simp; omega)]
  rfl
theorem cut_two_lo (c d : UInt8) (l : List UInt8) : cut 0 (S (c :: d :: l)) (some (N 2)) none = some (S l) := by
  rw [cut_str_lo, if_pos (by simp; omega)]
  rfl
theorem adoptT (σ : Sto) (key : Nat) (x : AV) (l : List UInt8) (h : closed x = true) : adopt σ key (.t [x, S l]) = some (.t [x, S l], σ) := adopt_t2 x _ (adopt1_closed h) rfl
theorem giveT (σ : Sto) (x : AV) (l : List UInt8) (h : closed x = true) : giveAll σ [x, S l] = some (.t [x, S l]) := giveAll_two (by simp only [closedL, h, closed, Bool.and_self])
theorem one_le (n : Nat) : ((1 : Int) ≤ ((n + 1 : Nat) : Int)) = True := eq_true (by omega)
theorem two_le (n : Nat) : ((2 : Int) ≤ ((n + 1 + 1 : Nat) : Int)) = True := eq_true (by omega)
theorem lt_two (n : Nat) : (((n + 1 + 1 : Nat) : Int) < 2) = False := eq_false (by omega)
theorem encN_take (t : T) : (encN t).take 3 = encN t := List.take_of_length_le (by rw [encN_len]; omega)
theorem encN_take2 (x y : T) : (encN x ++ encN y).take 3 = encN x := by rw [List.take_append_of_le_length (by rw [encN_len]; omega), encN_take]
theorem encN_drop2 (x y : T) : (encN x ++ encN y).drop 3 = encN y := by
  rw [List.drop_append, List.drop_of_length_le (by rw [encN_len]; omega), encN_len]
  rfl
theorem encN_len2 (x y : T) : (encN x ++ encN y).length = 6 := by rw [List.length_append, encN_len, encN_len]
theorem u8_0 : (((0 : UInt8).toNat : Nat) : Int) = 0 := rfl
theorem bytesOf_zero : bytesOf [.v (.int .u8 0)] = some [0] := rfl
theorem TMA : (type_of% @bytesOf_zero) ∧ (type_of% @encN_take) ∧ (type_of% @encN_take2) ∧ (type_of% @encN_drop2) ∧ (type_of% @encN_len2) ∧ (type_of% @u8_0) ∧ (type_of% @one_le) ∧ (type_of% @two_le) ∧ (type_of% @lt_two) ∧ (type_of% @bin_encP) ∧ (type_of% @leaves_encP) ∧ (type_of% @leafOk_encP) ∧ (type_of% @encP_closed) ∧ (type_of% @encN_len) ∧ (type_of% @encN_closed) ∧ (type_of% @encN_leaf) ∧ (type_of% @less_one) ∧ (type_of% @beq_one) ∧ (type_of% @beq_nil) ∧ (type_of% @nil_beq) ∧ (type_of% @nil_nil) ∧ (type_of% @beq_two_one) ∧ (type_of% @pre_nil) ∧ (type_of% @pre_cons) ∧ (type_of% @cut_one_hi) ∧ (type_of% @cut_one_lo) ∧ (type_of% @cut_two_lo) ∧ (type_of% @adoptT) ∧ (type_of% @giveT) :=
  ⟨@bytesOf_zero, @encN_take, @encN_take2, @encN_drop2, @encN_len2, @u8_0, @one_le, @two_le, @lt_two, @bin_encP, @leaves_encP, @leafOk_encP, @encP_closed, @encN_len, @encN_closed, @encN_leaf, @less_one, @beq_one, @beq_nil, @nil_beq, @nil_nil, @beq_two_one, @pre_nil, @pre_cons, @cut_one_hi, @cut_one_lo, @cut_two_lo, @adoptT, @giveT⟩
end
end Go.Proofs.YtkmnidbodlmaaaaDoor.Ev

/-
Reading a term: the program's own reader.
-/
namespace Go.Proofs.YtkmnidbodlmaaaaDoor.Ev
section
set_option linter.unusedVariables false
set_option linter.unusedSimpArgs false
open Go Go.RowKit
set_option linter.unusedVariables false
set_option linter.unusedSimpArgs false

theorem find_has (c : UInt8) : ∀ l, decide (0 ≤ Lib.indexByte l c) = l.contains c
  | [] => rfl
  | b :: l => by
    have ih := find_has c l
    rw [Bool.eq_iff_iff] at ih ⊢
    simp only [decide_eq_true_iff, List.contains_cons, Bool.or_eq_true, Lib.indexByte] at ih ⊢
    by_cases h : b = c
    · subst h; simp
    · have h1 : (b == c) = false := by simpa using h
      have h2 : (c == b) = false := by simpa using fun e => h e.symm
      have := Lib.indexByte_ge l c
      simp only [h1, h2, Bool.false_eq_true, if_false, false_or, ← ih]
      by_cases h3 : Lib.indexByte l c = -1
      · simp [h3]
      · have h4 : (Lib.indexByte l c == -1) = false := by simpa using h3
        simp only [h4, Bool.false_eq_true, if_false]
        rw [decide_eq_true_iff]
        omega
theorem contains_ev (l : List UInt8) (c : UInt8) : EE 77 [S l, S [c]] = some (B (l.contains c)) := by
  rw [← find_has]
  exact EE_hand rfl
theorem hasPrefix_ev (l p : List UInt8) : EE 113 [S l, S p] = some (B (p.isPrefixOf l)) := EE_hand rfl

theorem T_ends : TT 79 = some (Tryd.f79, bodyOf Tryd.f79) := by kernel_rfl
def endsL (c : List UInt8) : List UInt8 := if c = [91] then [93] else if c = [123] then [125] else []
theorem ends_ev (l : List UInt8) : EE 79 [S l] = some (S (endsL l)) := by
  refine EE_plain T_ends (by decide) (Nat.le_of_ble_eq_true rfl) (by rfl) ?_
  rw [show opt 79 = [] from rfl]
  simp only [bodyOf, Tryd.f79, SA]
  by_cases h1 : l = [91]
  · subst h1; simp only [IA, PA, RA0, RA1, RA2, RA3, RA4, RA5, RA6, RA7, RA8, RA9, RA10, Nat.reduceAdd, Nat.reduceMul, Nat.reduceEqDiff, Nat.reduceLeDiff, Nat.reduceLT, Int.reduceToNat, Int.reduceLT, Int.reduceLE, Int.reduceEq, Int.reduceNeg, Int.reduceAdd, Int.reduceSub, Int.reduceMul, reduceIte]; rfl
  · have h2 : (l == [91]) = false := by simpa using h1
    by_cases h3 : l = [123]
    · subst h3; simp only [IA, PA, RA0, RA1, RA2, RA3, RA4, RA5, RA6, RA7, RA8, RA9, RA10, Nat.reduceAdd, Nat.reduceMul, Nat.reduceEqDiff, Nat.reduceLeDiff, Nat.reduceLT, Int.reduceToNat, Int.reduceLT, Int.reduceLE, Int.reduceEq, Int.reduceNeg, Int.reduceAdd, Int.reduceSub, Int.reduceMul, reduceIte]; rfl
    · have h4 : (l == [123]) = false := by simpa using h3
      simp only [h2, h4, endsL, h1, h3, IA, PA, RA0, RA1, RA2, RA3, RA4, RA5, RA6, RA7, RA8, RA9, RA10, Nat.reduceAdd, Nat.reduceMul, Nat.reduceEqDiff, Nat.reduceLeDiff, Nat.reduceLT, Int.reduceToNat, Int.reduceLT, Int.reduceLE, Int.reduceEq, Int.reduceNeg, Int.reduceAdd, Int.reduceSub, Int.reduceMul, reduceIte]

theorem T_loop : TT 78 = some (Tryd.f78, bodyOf Tryd.f78) := by kernel_rfl
theorem loop_ev (s v : List UInt8) (parts : AV) (hp : closed parts = true) : EE 78 [.p [S s, S v, parts]] = some (B (!(v == []))) := by
  refine EE_plain T_loop (by decide) (Nat.le_of_ble_eq_true rfl) (by simp only [closedL, closed, hp, Bool.and_self]) ?_
  rw [show opt 78 = [] from rfl]
  simp only [bodyOf, Tryd.f78, SA]
  simp only [IA, PA, RA0, RA1, RA2, RA3, RA4, RA5, RA6, RA7, RA8, RA9, RA10, Nat.reduceAdd, Nat.reduceMul, Nat.reduceEqDiff, Nat.reduceLeDiff, Nat.reduceLT, Int.reduceToNat, Int.reduceLT, Int.reduceLE, Int.reduceEq, Int.reduceNeg, Int.reduceAdd, Int.reduceSub, Int.reduceMul, reduceIte]

theorem T_varOk : TT 86 = some (Tryd.f86, bodyOf Tryd.f86) := by kernel_rfl
theorem varOk_ev (l : List UInt8) : EE 86 [S l] = some (B (match l with | [c] => isVar c | _ => false)) := by
  refine EE_plain T_varOk (by decide) (Nat.le_of_ble_eq_true rfl) (by rfl) ?_
  rw [show opt 86 = [] from rfl]
  simp only [bodyOf, Tryd.f86, SA]
  rcases l with _ | ⟨c, _ | ⟨d, l⟩⟩
  · simp only [IA, PA, RA0, RA1, RA2, RA3, RA4, RA5, RA6, RA7, RA8, RA9, RA10, Nat.reduceAdd, Nat.reduceMul, Nat.reduceEqDiff, Nat.reduceLeDiff, Nat.reduceLT, Int.reduceToNat, Int.reduceLT, Int.reduceLE, Int.reduceEq, Int.reduceNeg, Int.reduceAdd, Int.reduceSub, Int.reduceMul, reduceIte]
  · simp only [size_mk, contains_ev, isVar, IA, PA, RA0, RA1, RA2, RA3, RA4, RA5, RA6, RA7, RA8, RA9, RA10, Nat.reduceAdd, Nat.reduceMul, Nat.reduceEqDiff, Nat.reduceLeDiff, Nat.reduceLT, Int.reduceToNat, Int.reduceLT, Int.reduceLE, Int.reduceEq, Int.reduceNeg, Int.reduceAdd, Int.reduceSub, Int.reduceMul, reduceIte]
  · have : ¬ (((l.length + 1 + 1 : Nat) : Int) = 1) := by omega
    simp only [size_mk, this, IA, PA, RA0, RA1, RA2, RA3, RA4, RA5, RA6, RA7, RA8, RA9, RA10, Nat.reduceAdd, Nat.reduceMul, Nat.reduceEqDiff, Nat.reduceLeDiff, Nat.reduceLT, Int.reduceToNat, Int.reduceLT, Int.reduceLE, Int.reduceEq, Int.reduceNeg, Int.reduceAdd, Int.reduceSub, Int.reduceMul, reduceIte]

theorem T_readTerm : TT 93 = some (Tryd.f93, bodyOf Tryd.f93) := by kernel_rfl
def rdP (s : List UInt8) : Option (T × List UInt8) → AV
  | some (t, r) => .t [encP t, S r]
  | none => .t [nilP, S s]
set_option maxHeartbeats 8000000 in
theorem readTerm_ev : ∀ (n : Nat) (s : List UInt8), s.length < n → s.length < 4611686018427387904 → EE 93 [S s] = some (rdP s (rd n s)) := by
  intro n
  induction n with
  | zero => intro s h; omega
  | succ n ih =>
    intro s hn hs
    refine EE_plain T_readTerm (by decide) (Nat.le_of_ble_eq_true rfl) (by rfl) ?_
    rw [show opt 93 = [oBox 50] from rfl]
    simp only [bodyOf, Tryd.f93, SA]
    cases s with
    | nil => simp only [TMA, rd, rdP, IA, PA, RA0, RA1, RA2, RA3, RA4, RA5, RA6, RA7, RA8, RA9, RA10, Nat.reduceAdd, Nat.reduceMul, Nat.reduceEqDiff, Nat.reduceLeDiff, Nat.reduceLT, Int.reduceToNat, Int.reduceLT, Int.reduceLE, Int.reduceEq, Int.reduceNeg, Int.reduceAdd, Int.reduceSub, Int.reduceMul, reduceIte]
    | cons c r =>
      have hr : r.length < n := by simpa using hn
      have hr2 : r.length < 4611686018427387904 := by simp at hs; omega
      have hrec := ih r hr hr2
      by_cases hc : c = 40
      · subst hc
        have h1 : isVar 40 = false := rfl
        have h2 : isDig 40 = false := rfl
        have h5 : isOne 40 = false := rfl
        have h6 : [83, 77, 73, 78, 82, 67, 80].contains (40 : UInt8) = false := rfl
        have hx : decide ((40 : UInt8) < 48) = true := rfl
        simp only [TMA, varOk_ev, contains_ev, h1, h2, hx, h5, h6, rd, IA, PA, RA0, RA1, RA2, RA3, RA4, RA5, RA6, RA7, RA8, RA9, RA10, Nat.reduceAdd, Nat.reduceMul, Nat.reduceEqDiff, Nat.reduceLeDiff, Nat.reduceLT, Int.reduceToNat, Int.reduceLT, Int.reduceLE, Int.reduceEq, Int.reduceNeg, Int.reduceAdd, Int.reduceSub, Int.reduceMul, reduceIte]
        cases hq : rd n r with
        | none =>
          rw [hq] at hrec
          simp only [TMA, hrec, hq, rdTwo, rdP, IA, PA, RA0, RA1, RA2, RA3, RA4, RA5, RA6, RA7, RA8, RA9, RA10, Nat.reduceAdd, Nat.reduceMul, Nat.reduceEqDiff, Nat.reduceLeDiff, Nat.reduceLT, Int.reduceToNat, Int.reduceLT, Int.reduceLE, Int.reduceEq, Int.reduceNeg, Int.reduceAdd, Int.reduceSub, Int.reduceMul, reduceIte]
        | some q =>
          obtain ⟨t, r1⟩ := q
          rw [hq] at hrec
          cases r1 with
          | nil => simp only [TMA, hrec, hq, rdTwo, rdP, IA, PA, RA0, RA1, RA2, RA3, RA4, RA5, RA6, RA7, RA8, RA9, RA10, Nat.reduceAdd, Nat.reduceMul, Nat.reduceEqDiff, Nat.reduceLeDiff, Nat.reduceLT, Int.reduceToNat, Int.reduceLT, Int.reduceLE, Int.reduceEq, Int.reduceNeg, Int.reduceAdd, Int.reduceSub, Int.reduceMul, reduceIte]
          | cons s r2 =>
            have hl := rd_less _ _ _ _ hq
            simp only [List.length_cons] at hl
            have hrec2 := ih r2 (by omega) (by omega)
            by_cases hs2 : isTwo s = true
            · have hs3 : [43, 42, 94, 45, 61, 60, 64].contains s = true := hs2
              simp only [TMA, hrec, contains_ev, hq, hs2, hs3, rdTwo, rdP, IA, PA, RA0, RA1, RA2, RA3, RA4, RA5, RA6, RA7, RA8, RA9, RA10, Nat.reduceAdd, Nat.reduceMul, Nat.reduceEqDiff, Nat.reduceLeDiff, Nat.reduceLT, Int.reduceToNat, Int.reduceLT, Int.reduceLE, Int.reduceEq, Int.reduceNeg, Int.reduceAdd, Int.reduceSub, Int.reduceMul, reduceIte]
              cases hq2 : rd n r2 with
              | none =>
                rw [hq2] at hrec2
                simp only [TMA, hrec2, rdP, IA, PA, RA0, RA1, RA2, RA3, RA4, RA5, RA6, RA7, RA8, RA9, RA10, Nat.reduceAdd, Nat.reduceMul, Nat.reduceEqDiff, Nat.reduceLeDiff, Nat.reduceLT, Int.reduceToNat, Int.reduceLT, Int.reduceLE, Int.reduceEq, Int.reduceNeg, Int.reduceAdd, Int.reduceSub, Int.reduceMul, reduceIte]
              | some q2 =>
                obtain ⟨y2, r3⟩ := q2
                rw [hq2] at hrec2
                cases r3 with
                | nil => simp only [TMA, hasPrefix_ev, hrec2, rdP, IA, PA, RA0, RA1, RA2, RA3, RA4, RA5, RA6, RA7, RA8, RA9, RA10, Nat.reduceAdd, Nat.reduceMul, Nat.reduceEqDiff, Nat.reduceLeDiff, Nat.reduceLT, Int.reduceToNat, Int.reduceLT, Int.reduceLE, Int.reduceEq, Int.reduceNeg, Int.reduceAdd, Int.reduceSub, Int.reduceMul, reduceIte]
                | cons z r4 =>
                  by_cases hz : z = 41
                  · subst hz
                    simp only [TMA, hasPrefix_ev, hrec2, rdP, encP, IA, PA, RA0, RA1, RA2, RA3, RA4, RA5, RA6, RA7, RA8, RA9, RA10, Nat.reduceAdd, Nat.reduceMul, Nat.reduceEqDiff, Nat.reduceLeDiff, Nat.reduceLT, Int.reduceToNat, Int.reduceLT, Int.reduceLE, Int.reduceEq, Int.reduceNeg, Int.reduceAdd, Int.reduceSub, Int.reduceMul, reduceIte]
                  · have hz2 : ¬ (41 = z) := fun e => hz e.symm
                    simp only [TMA, hasPrefix_ev, hrec2, hz, hz2, rdP, IA, PA, RA0, RA1, RA2, RA3, RA4, RA5, RA6, RA7, RA8, RA9, RA10, Nat.reduceAdd, Nat.reduceMul, Nat.reduceEqDiff, Nat.reduceLeDiff, Nat.reduceLT, Int.reduceToNat, Int.reduceLT, Int.reduceLE, Int.reduceEq, Int.reduceNeg, Int.reduceAdd, Int.reduceSub, Int.reduceMul, reduceIte]
            · have hs2 : isTwo s = false := by simpa using hs2
              have hs3 : [43, 42, 94, 45, 61, 60, 64].contains s = false := hs2
              simp only [TMA, hrec, contains_ev, hq, hs2, hs3, rdTwo, rdP, IA, PA, RA0, RA1, RA2, RA3, RA4, RA5, RA6, RA7, RA8, RA9, RA10, Nat.reduceAdd, Nat.reduceMul, Nat.reduceEqDiff, Nat.reduceLeDiff, Nat.reduceLT, Int.reduceToNat, Int.reduceLT, Int.reduceLE, Int.reduceEq, Int.reduceNeg, Int.reduceAdd, Int.reduceSub, Int.reduceMul, reduceIte]
      by_cases hc2 : c = 91 ∨ c = 123
      · have hb : isVar c = false ∧ isDig c = false ∧ isOne c = false ∧ [83, 77, 73, 78, 82, 67, 80].contains c = false ∧ decide (c < 48) = false ∧ (decide (c < 57) || decide (c = 57)) = false ∧ decide (c = 40) = false ∧ endsL [c] = [c + 2] := by
          rcases hc2 with rfl | rfl <;> decide
        obtain ⟨h1, h2, h5, h6, hx, hy, hc3, hends⟩ := hb
        have hends : EE 79 [S [c]] = some (S [c + 2]) := by rw [ends_ev, hends]
        have hbr : (decide (c = 91) || decide (c = 123)) = true := by simpa using hc2
        generalize hb1 : decide (c = 91) = b1 at hbr
        generalize hb2 : decide (c = 123) = b2 at hbr
        have hb3 : b1 = false → b2 = true := by rintro rfl; simpa using hbr
        clear hbr hrec
        cases b1
        case' false => obtain rfl := hb3 rfl
        all_goals
          simp only [TMA, varOk_ev, contains_ev, h1, h2, hx, hy, h5, h6, hc, hc3, hc2, hb1, hb2, rd, IA, PA, RA0, RA1, RA2, RA3, RA4, RA5, RA6, RA7, RA8, RA9, RA10, Nat.reduceAdd, Nat.reduceMul, Nat.reduceEqDiff, Nat.reduceLeDiff, Nat.reduceLT, Int.reduceToNat, Int.reduceLT, Int.reduceLE, Int.reduceEq, Int.reduceNeg, Int.reduceAdd, Int.reduceSub, Int.reduceMul, reduceIte]
          rcases r with _ | ⟨v, _ | ⟨d, r1⟩⟩
          · simp only [TMA, rdLoop, rdP, IA, PA, RA0, RA1, RA2, RA3, RA4, RA5, RA6, RA7, RA8, RA9, RA10, Nat.reduceAdd, Nat.reduceMul, Nat.reduceEqDiff, Nat.reduceLeDiff, Nat.reduceLT, Int.reduceToNat, Int.reduceLT, Int.reduceLE, Int.reduceEq, Int.reduceNeg, Int.reduceAdd, Int.reduceSub, Int.reduceMul, reduceIte]
          · simp only [TMA, rdLoop, rdP, IA, PA, RA0, RA1, RA2, RA3, RA4, RA5, RA6, RA7, RA8, RA9, RA10, Nat.reduceAdd, Nat.reduceMul, Nat.reduceEqDiff, Nat.reduceLeDiff, Nat.reduceLT, Int.reduceToNat, Int.reduceLT, Int.reduceLE, Int.reduceEq, Int.reduceNeg, Int.reduceAdd, Int.reduceSub, Int.reduceMul, reduceIte]
          simp only [List.length_cons] at hr hr2
          have hrec := ih r1 (by omega) (by omega)
          by_cases hv1 : (v.toNat : Int) < 118
          · have : isLV v = false := by simp only [isLV]; rw [decide_eq_false (by omega)]; rfl
            simp only [TMA, hv1, this, rdLoop, rdP, false_and, IA, PA, RA0, RA1, RA2, RA3, RA4, RA5, RA6, RA7, RA8, RA9, RA10, Nat.reduceAdd, Nat.reduceMul, Nat.reduceEqDiff, Nat.reduceLeDiff, Nat.reduceLT, Int.reduceToNat, Int.reduceLT, Int.reduceLE, Int.reduceEq, Int.reduceNeg, Int.reduceAdd, Int.reduceSub, Int.reduceMul, reduceIte]
          by_cases hv2 : (122 : Int) < (v.toNat : Int)
          · have : isLV v = false := by simp only [isLV]; rw [decide_eq_false (p := v.toNat ≤ 122) (by omega), Bool.and_false]
            simp only [TMA, hv1, hv2, this, rdLoop, rdP, false_and, IA, PA, RA0, RA1, RA2, RA3, RA4, RA5, RA6, RA7, RA8, RA9, RA10, Nat.reduceAdd, Nat.reduceMul, Nat.reduceEqDiff, Nat.reduceLeDiff, Nat.reduceLT, Int.reduceToNat, Int.reduceLT, Int.reduceLE, Int.reduceEq, Int.reduceNeg, Int.reduceAdd, Int.reduceSub, Int.reduceMul, reduceIte]
          have hv : isLV v = true := by simp only [isLV]; rw [decide_eq_true (by omega), decide_eq_true (by omega)]; rfl
          by_cases hd : d = 58
          case neg =>
            have hd2 : ¬ ((d.toNat : Int) = 58) := fun e => hd (UInt8.toNat_inj.1 (by show d.toNat = 58; omega))
            simp only [TMA, hv1, hv2, hv, hd, hd2, rdLoop, rdP, and_false, IA, PA, RA0, RA1, RA2, RA3, RA4, RA5, RA6, RA7, RA8, RA9, RA10, Nat.reduceAdd, Nat.reduceMul, Nat.reduceEqDiff, Nat.reduceLeDiff, Nat.reduceLT, Int.reduceToNat, Int.reduceLT, Int.reduceLE, Int.reduceEq, Int.reduceNeg, Int.reduceAdd, Int.reduceSub, Int.reduceMul, reduceIte]
          subst hd
          have h58 : ((58 : UInt8).toNat : Int) = 58 := rfl
          simp only [TMA, hv1, hv2, hv, h58, rdLoop, IA, PA, RA0, RA1, RA2, RA3, RA4, RA5, RA6, RA7, RA8, RA9, RA10, Nat.reduceAdd, Nat.reduceMul, Nat.reduceEqDiff, Nat.reduceLeDiff, Nat.reduceLT, Int.reduceToNat, Int.reduceLT, Int.reduceLE, Int.reduceEq, Int.reduceNeg, Int.reduceAdd, Int.reduceSub, Int.reduceMul, reduceIte]
          cases hq : rd n r1 with
          | none =>
            rw [hq] at hrec
            simp only [TMA, hrec, rdP, IA, PA, RA0, RA1, RA2, RA3, RA4, RA5, RA6, RA7, RA8, RA9, RA10, Nat.reduceAdd, Nat.reduceMul, Nat.reduceEqDiff, Nat.reduceLeDiff, Nat.reduceLT, Int.reduceToNat, Int.reduceLT, Int.reduceLE, Int.reduceEq, Int.reduceNeg, Int.reduceAdd, Int.reduceSub, Int.reduceMul, reduceIte]
          | some q =>
            obtain ⟨t, r2⟩ := q
            rw [hq] at hrec
            cases r2 with
            | nil => simp only [TMA, hasPrefix_ev, hrec, rdP, IA, PA, RA0, RA1, RA2, RA3, RA4, RA5, RA6, RA7, RA8, RA9, RA10, Nat.reduceAdd, Nat.reduceMul, Nat.reduceEqDiff, Nat.reduceLeDiff, Nat.reduceLT, Int.reduceToNat, Int.reduceLT, Int.reduceLE, Int.reduceEq, Int.reduceNeg, Int.reduceAdd, Int.reduceSub, Int.reduceMul, reduceIte]
            | cons s r2 =>
              have hl := rd_less _ _ _ _ hq
              simp only [List.length_cons] at hl
              have hrec2 := ih r2 (by omega) (by omega)
              by_cases hs : s = 62
              case neg =>
                have hs2 : ¬ (62 = s) := fun e => hs e.symm
                simp only [TMA, hasPrefix_ev, hrec, hs, hs2, rdP, IA, PA, RA0, RA1, RA2, RA3, RA4, RA5, RA6, RA7, RA8, RA9, RA10, Nat.reduceAdd, Nat.reduceMul, Nat.reduceEqDiff, Nat.reduceLeDiff, Nat.reduceLT, Int.reduceToNat, Int.reduceLT, Int.reduceLE, Int.reduceEq, Int.reduceNeg, Int.reduceAdd, Int.reduceSub, Int.reduceMul, reduceIte]
              subst hs
              simp only [TMA, hasPrefix_ev, hrec, rdP, IA, PA, RA0, RA1, RA2, RA3, RA4, RA5, RA6, RA7, RA8, RA9, RA10, Nat.reduceAdd, Nat.reduceMul, Nat.reduceEqDiff, Nat.reduceLeDiff, Nat.reduceLT, Int.reduceToNat, Int.reduceLT, Int.reduceLE, Int.reduceEq, Int.reduceNeg, Int.reduceAdd, Int.reduceSub, Int.reduceMul, reduceIte]
              cases hq2 : rd n r2 with
              | none =>
                rw [hq2] at hrec2
                simp only [TMA, hrec2, rdP, IA, PA, RA0, RA1, RA2, RA3, RA4, RA5, RA6, RA7, RA8, RA9, RA10, Nat.reduceAdd, Nat.reduceMul, Nat.reduceEqDiff, Nat.reduceLeDiff, Nat.reduceLT, Int.reduceToNat, Int.reduceLT, Int.reduceLE, Int.reduceEq, Int.reduceNeg, Int.reduceAdd, Int.reduceSub, Int.reduceMul, reduceIte]
              | some q2 =>
                obtain ⟨y2, r3⟩ := q2
                rw [hq2] at hrec2
                cases r3 with
                | nil => simp only [TMA, hasPrefix_ev, hends, hrec2, rdP, IA, PA, RA0, RA1, RA2, RA3, RA4, RA5, RA6, RA7, RA8, RA9, RA10, Nat.reduceAdd, Nat.reduceMul, Nat.reduceEqDiff, Nat.reduceLeDiff, Nat.reduceLT, Int.reduceToNat, Int.reduceLT, Int.reduceLE, Int.reduceEq, Int.reduceNeg, Int.reduceAdd, Int.reduceSub, Int.reduceMul, reduceIte]
                | cons z r4 =>
                  by_cases hz : z = c + 2
                  · subst hz
                    simp only [TMA, hasPrefix_ev, hends, hrec2, rdP, encP, IA, PA, RA0, RA1, RA2, RA3, RA4, RA5, RA6, RA7, RA8, RA9, RA10, Nat.reduceAdd, Nat.reduceMul, Nat.reduceEqDiff, Nat.reduceLeDiff, Nat.reduceLT, Int.reduceToNat, Int.reduceLT, Int.reduceLE, Int.reduceEq, Int.reduceNeg, Int.reduceAdd, Int.reduceSub, Int.reduceMul, reduceIte]
                  · have hz2 : ¬ (c + 2 = z) := fun e => hz e.symm
                    simp only [TMA, hasPrefix_ev, hends, hrec2, hz, hz2, rdP, IA, PA, RA0, RA1, RA2, RA3, RA4, RA5, RA6, RA7, RA8, RA9, RA10, Nat.reduceAdd, Nat.reduceMul, Nat.reduceEqDiff, Nat.reduceLeDiff, Nat.reduceLT, Int.reduceToNat, Int.reduceLT, Int.reduceLE, Int.reduceEq, Int.reduceNeg, Int.reduceAdd, Int.reduceSub, Int.reduceMul, reduceIte]
      by_cases h1 : isVar c = true
      · simp only [TMA, varOk_ev, h1, rd, rdP, encP, IA, PA, RA0, RA1, RA2, RA3, RA4, RA5, RA6, RA7, RA8, RA9, RA10, Nat.reduceAdd, Nat.reduceMul, Nat.reduceEqDiff, Nat.reduceLeDiff, Nat.reduceLT, Int.reduceToNat, Int.reduceLT, Int.reduceLE, Int.reduceEq, Int.reduceNeg, Int.reduceAdd, Int.reduceSub, Int.reduceMul, reduceIte]
      have h1 : isVar c = false := by simpa using h1
      by_cases h2 : isDig c = true
      · have h3 := h2
        rw [← dig_less] at h3
        simp only [Bool.and_eq_true, Bool.not_eq_true'] at h3
        obtain ⟨h3, h4⟩ := h3
        simp only [TMA, varOk_ev, h1, h2, h3, h4, rd, rdP, encP, IA, PA, RA0, RA1, RA2, RA3, RA4, RA5, RA6, RA7, RA8, RA9, RA10, Nat.reduceAdd, Nat.reduceMul, Nat.reduceEqDiff, Nat.reduceLeDiff, Nat.reduceLT, Int.reduceToNat, Int.reduceLT, Int.reduceLE, Int.reduceEq, Int.reduceNeg, Int.reduceAdd, Int.reduceSub, Int.reduceMul, reduceIte]
      have h2 : isDig c = false := by simpa using h2
      have h3 := h2
      rw [← dig_less] at h3
      generalize hx : decide (c < 48) = x at h3
      generalize hy : (decide (c < 57) || decide (c = 57)) = y at h3
      have hy2 : x = false → y = false := by rintro rfl; simpa using h3
      have hc3 : decide (c = 40) = false := by simpa using hc
      have e1 : decide (c = 91) = false := by simpa using fun e => hc2 (.inl e)
      have e2 : decide (c = 123) = false := by simpa using fun e => hc2 (.inr e)
      cases x
      case' false => obtain rfl := hy2 rfl
      all_goals
        by_cases h5 : isOne c = true
        · have h6 : [83, 77, 73, 78, 82, 67, 80].contains c = true := h5
          simp only [TMA, varOk_ev, contains_ev, h1, h2, hx, hy, h5, h6, rd, IA, PA, RA0, RA1, RA2, RA3, RA4, RA5, RA6, RA7, RA8, RA9, RA10, Nat.reduceAdd, Nat.reduceMul, Nat.reduceEqDiff, Nat.reduceLeDiff, Nat.reduceLT, Int.reduceToNat, Int.reduceLT, Int.reduceLE, Int.reduceEq, Int.reduceNeg, Int.reduceAdd, Int.reduceSub, Int.reduceMul, reduceIte]
          cases hq : rd n r with
          | none =>
            rw [hq] at hrec
            simp only [TMA, hrec, rdP, IA, PA, RA0, RA1, RA2, RA3, RA4, RA5, RA6, RA7, RA8, RA9, RA10, Nat.reduceAdd, Nat.reduceMul, Nat.reduceEqDiff, Nat.reduceLeDiff, Nat.reduceLT, Int.reduceToNat, Int.reduceLT, Int.reduceLE, Int.reduceEq, Int.reduceNeg, Int.reduceAdd, Int.reduceSub, Int.reduceMul, reduceIte]
          | some q =>
            obtain ⟨t, r1⟩ := q
            rw [hq] at hrec
            simp only [TMA, hrec, rdP, encP, IA, PA, RA0, RA1, RA2, RA3, RA4, RA5, RA6, RA7, RA8, RA9, RA10, Nat.reduceAdd, Nat.reduceMul, Nat.reduceEqDiff, Nat.reduceLeDiff, Nat.reduceLT, Int.reduceToNat, Int.reduceLT, Int.reduceLE, Int.reduceEq, Int.reduceNeg, Int.reduceAdd, Int.reduceSub, Int.reduceMul, reduceIte]
        have h5 : isOne c = false := by simpa using h5
        have h6 : [83, 77, 73, 78, 82, 67, 80].contains c = false := h5
        simp only [TMA, varOk_ev, contains_ev, h1, h2, hx, hy, h5, h6, hc, hc3, hc2, e1, e2, rd, rdP, IA, PA, RA0, RA1, RA2, RA3, RA4, RA5, RA6, RA7, RA8, RA9, RA10, Nat.reduceAdd, Nat.reduceMul, Nat.reduceEqDiff, Nat.reduceLeDiff, Nat.reduceLT, Int.reduceToNat, Int.reduceLT, Int.reduceLE, Int.reduceEq, Int.reduceNeg, Int.reduceAdd, Int.reduceSub, Int.reduceMul, reduceIte]
end
end Go.Proofs.YtkmnidbodlmaaaaDoor.Ev

/-
Reading a term: the reference's reader, step by step.
-/
namespace Go.Proofs.YtkmnidbodlmaaaaDoor.Ev
section
set_option linter.unusedVariables false
set_option linter.unusedSimpArgs false
open Go Go.RowKit
set_option linter.unusedVariables false
set_option linter.unusedSimpArgs false

/-- The reader, as it is lent. -/
abbrev rcs (text : List UInt8) (i : Nat) (b : Bool) : List AV := [S text, N i, B b]
abbrev rdr (text : List UInt8) (i : Nat) (b : Bool) : AV := lent 102 (rcs text i b)
/-- The next byte, and the reader behind it. -/
def nxM (text : List UInt8) (i : Nat) (b : Bool) : UInt8 × Nat × Bool := match text[i]? with | some c => (c, i + 1, b) | none => (0, i, true)
theorem nxM_some {text : List UInt8} {i : Nat} {c : UInt8} (b : Bool) (h : text[i]? = some c) : nxM text i b = (c, i + 1, b) := by simp only [nxM, h]
theorem nxM_none {text : List UInt8} {i : Nat} (b : Bool) (h : text[i]? = none) : nxM text i b = (0, i, true) := by simp only [nxM, h]

theorem T_next : TT 114 = some (Tryd.f114, bodyOf Tryd.f114) := by kernel_rfl
theorem next_ev (text : List UInt8) (i : Nat) (b : Bool) (hi : i ≤ text.length) (hl : text.length < 4611686018427387904) :
    EE 114 [rdr text i b] = some (.t [U (nxM text i b).1, .t [rdr text (nxM text i b).2.1 (nxM text i b).2.2]]) := by
  refine EE_lend T_next (by decide) (Nat.le_of_ble_eq_true rfl) rfl rfl ?_
  rw [show opt 114 = [] from rfl]
  simp only [bodyOf, Tryd.f114, SA]
  rcases Nat.lt_or_ge i text.length with h | h
  · obtain ⟨c, hc⟩ : ∃ c, text[i]? = some c := ⟨_, List.getElem?_eq_getElem h⟩
    have h1 : ¬ ((text.length : Int) ≤ (i : Int)) := by omega
    have h2 : IntKind.i64.wrap ((i : Int) + 1) = ((i + 1 : Nat) : Int) := by rw [wrap64 (by omega) (by omega)]; rfl
    have h3 : IntKind.i64.wrap (((i + 1 : Nat) : Int) - 1) = (i : Int) := by rw [wrap64 (by omega) (by omega)]; omega
    have h4 : (0 : Int) ≤ (i : Int) := by omega
    rw [nxM_some b hc]
    simp only [h1, h2, h3, h4, hc, IA, PA, RA0, RA1, RA2, RA3, RA4, RA5, RA6, RA7, RA8, RA9, RA10, Nat.reduceAdd, Nat.reduceMul, Nat.reduceEqDiff, Nat.reduceLeDiff, Nat.reduceLT, Int.reduceToNat, Int.reduceLT, Int.reduceLE, Int.reduceEq, Int.reduceNeg, Int.reduceAdd, Int.reduceSub, Int.reduceMul, reduceIte]
    exact out_one (by rfl) rfl (by rfl) rfl rfl
  · have hc : text[i]? = none := List.getElem?_eq_none h
    have h1 : ((text.length : Int) ≤ (i : Int)) := by omega
    rw [nxM_none b hc]
    simp only [h1, IA, PA, RA0, RA1, RA2, RA3, RA4, RA5, RA6, RA7, RA8, RA9, RA10, Nat.reduceAdd, Nat.reduceMul, Nat.reduceEqDiff, Nat.reduceLeDiff, Nat.reduceLT, Int.reduceToNat, Int.reduceLT, Int.reduceLE, Int.reduceEq, Int.reduceNeg, Int.reduceAdd, Int.reduceSub, Int.reduceMul, reduceIte]
    exact out_one (by rfl) rfl (by rfl) rfl rfl
theorem nxM_le {text : List UInt8} {i : Nat} (b : Bool) (hi : i ≤ text.length) : i ≤ (nxM text i b).2.1 ∧ (nxM text i b).2.1 ≤ text.length := by
  unfold nxM
  split
  · rename_i c h
    have := (List.getElem?_eq_some_iff.1 h).1
    exact ⟨Nat.le_succ i, this⟩
  · exact ⟨Nat.le_refl i, hi⟩

def isM (text : List UInt8) (i : Nat) (b : Bool) (c : UInt8) : Nat × Bool := ((nxM text i b).2.1, !decide ((nxM text i b).1 = c) || (nxM text i b).2.2)
theorem T_is : TT 116 = some (Tryd.f116, bodyOf Tryd.f116) := by kernel_rfl
theorem is_ev (text : List UInt8) (i : Nat) (b : Bool) (c : UInt8) (hi : i ≤ text.length) (hl : text.length < 4611686018427387904) :
    EE 116 [rdr text i b, U c] = some (.t [.t [], .t [rdr text (isM text i b c).1 (isM text i b c).2, U c]]) := by
  refine EE_lend T_is (by decide) (Nat.le_of_ble_eq_true rfl) rfl rfl ?_
  rw [show opt 116 = [] from rfl]
  simp only [bodyOf, Tryd.f116, SA]
  simp only [IA, PA, RA0, RA1, RA2, RA3, RA4, RA5, RA6, RA7, RA8, RA9, RA10, Nat.reduceAdd, Nat.reduceMul, Nat.reduceEqDiff, Nat.reduceLeDiff, Nat.reduceLT, Int.reduceToNat, Int.reduceLT, Int.reduceLE, Int.reduceEq, Int.reduceNeg, Int.reduceAdd, Int.reduceSub, Int.reduceMul, reduceIte]
  rw [call_ob_v (by rfl) (by rfl) rfl rfl (next_ev text i b hi hl) rfl rfl (show 1 ≤ 4 by decide)]
  have hq : decide (((nxM text i b).1.toNat : Int) = (c.toNat : Int)) = decide ((nxM text i b).1 = c) := by
    rw [decide_eq_decide, ← UInt8.toNat_inj]
    omega
  unfold isM
  generalize nxM text i b = q at hq ⊢
  obtain ⟨x, i', b'⟩ := q
  simp only at hq ⊢
  generalize hz : decide (x = c) = z at hq
  cases z
  all_goals
    simp only [hq, IA, PA, RA0, RA1, RA2, RA3, RA4, RA5, RA6, RA7, RA8, RA9, RA10, Nat.reduceAdd, Nat.reduceMul, Nat.reduceEqDiff, Nat.reduceLeDiff, Nat.reduceLT, Int.reduceToNat, Int.reduceLT, Int.reduceLE, Int.reduceEq, Int.reduceNeg, Int.reduceAdd, Int.reduceSub, Int.reduceMul, reduceIte]
    exact out_none (by simp) (by rfl) (by rfl) rfl rfl
end
end Go.Proofs.YtkmnidbodlmaaaaDoor.Ev

/-
Reading a term: the reference's reader as a function of the place, and that its code gives it.
-/
namespace Go.Proofs.YtkmnidbodlmaaaaDoor.Ev
section
set_option linter.unusedVariables false
set_option linter.unusedSimpArgs false
open Go Go.RowKit
set_option linter.unusedVariables false
set_option linter.unusedSimpArgs false

/-- The cells of no term. -/
def zc : List AV := [U 0, U 0, .s true 0 []]
def nodeM (text : List UInt8) : Nat → Nat → Bool → List AV × Nat × Bool
  | 0, i, _ => (zc, i, true)
  | n + 1, i, b =>
    let q := nxM text i b
    let part : Nat → Bool → List AV × Nat × Bool := fun i b => if b = true then (zc, i, true) else nodeM text n i false
    if isDig q.1 = true then ([U 48, U q.1, .s true 0 []], q.2)
    else if isVar q.1 = true then ([U 97, U q.1, .s true 0 []], q.2)
    else if isOne q.1 = true then ([U q.1, U 0, .s true 1 (part q.2.1 q.2.2).1], (part q.2.1 q.2.2).2)
    else if q.1 = 40 then
      let x := part q.2.1 q.2.2
      let g := nxM text x.2.1 x.2.2
      let y := part g.2.1 (g.2.2 || !isTwo g.1)
      ([U g.1, U 0, .s true 2 (x.1 ++ y.1)], if y.2.2 = true then y.2 else isM text y.2.1 false 41)
    else if q.1 = 91 ∨ q.1 = 123 then
      let g := nxM text q.2.1 q.2.2
      let c1 := isM text g.2.1 (g.2.2 || !isLV g.1) 58
      let x := part c1.1 c1.2
      let c2 := isM text x.2.1 x.2.2 62
      let y := part c2.1 c2.2
      ([U q.1, U g.1, .s true 2 (x.1 ++ y.1)], if y.2.2 = true then y.2 else isM text y.2.1 false (q.1 + 2))
    else (zc, q.2.1, true)
def partM (text : List UInt8) (n i : Nat) (b : Bool) : List AV × Nat × Bool := if b = true then (zc, i, true) else nodeM text n i false

theorem nodeM_succ (text : List UInt8) (n i : Nat) (b : Bool) : nodeM text (n + 1) i b =
    (let q := nxM text i b
    if isDig q.1 = true then ([U 48, U q.1, .s true 0 []], q.2)
    else if isVar q.1 = true then ([U 97, U q.1, .s true 0 []], q.2)
    else if isOne q.1 = true then ([U q.1, U 0, .s true 1 (partM text n q.2.1 q.2.2).1], (partM text n q.2.1 q.2.2).2)
    else if q.1 = 40 then
      let x := partM text n q.2.1 q.2.2
      let g := nxM text x.2.1 x.2.2
      let y := partM text n g.2.1 (g.2.2 || !isTwo g.1)
      ([U g.1, U 0, .s true 2 (x.1 ++ y.1)], if y.2.2 = true then y.2 else isM text y.2.1 false 41)
    else if q.1 = 91 ∨ q.1 = 123 then
      let g := nxM text q.2.1 q.2.2
      let c1 := isM text g.2.1 (g.2.2 || !isLV g.1) 58
      let x := partM text n c1.1 c1.2
      let c2 := isM text x.2.1 x.2.2 62
      let y := partM text n c2.1 c2.2
      ([U q.1, U g.1, .s true 2 (x.1 ++ y.1)], if y.2.2 = true then y.2 else isM text y.2.1 false (q.1 + 2))
    else (zc, q.2.1, true)) := rfl

/-- What a node's cells must be. -/
structure NodeOk (z : List AV) : Prop where
  len : z.length = 3
  cl : closedL z = true
  lf : z.all leafOk = true
theorem isM_le {text : List UInt8} {i : Nat} (b : Bool) (c : UInt8) (hi : i ≤ text.length) : i ≤ (isM text i b c).1 ∧ (isM text i b c).1 ≤ text.length := nxM_le b hi
theorem nodeM_ok (text : List UInt8) : ∀ (n i : Nat) (b : Bool), i ≤ text.length → NodeOk (nodeM text n i b).1 ∧ i ≤ (nodeM text n i b).2.1 ∧ (nodeM text n i b).2.1 ≤ text.length := by
  intro n
  induction n with
  | zero => intro i b hi; exact ⟨⟨rfl, rfl, rfl⟩, Nat.le_refl _, hi⟩
  | succ n ih =>
    intro i b hi
    have hp : ∀ (i : Nat) (b : Bool), i ≤ text.length → NodeOk (if b = true then (zc, i, true) else nodeM text n i false).1 ∧ i ≤ (if b = true then (zc, i, true) else nodeM text n i false).2.1 ∧ (if b = true then (zc, i, true) else nodeM text n i false).2.1 ≤ text.length := by
      intro i b hi
      cases b with
      | true => exact ⟨⟨rfl, rfl, rfl⟩, Nat.le_refl _, hi⟩
      | false => exact ih i false hi
    have hq := nxM_le b hi
    simp only [nodeM]
    split
    · exact ⟨⟨rfl, rfl, rfl⟩, hq⟩
    split
    · exact ⟨⟨rfl, rfl, rfl⟩, hq⟩
    split
    · have h1 := hp _ (nxM text i b).2.2 hq.2
      exact ⟨⟨rfl, by simp only [closedL, closed, h1.1.cl, Bool.and_self], rfl⟩, Nat.le_trans hq.1 h1.2.1, h1.2.2⟩
    split
    · have h1 := hp _ (nxM text i b).2.2 hq.2
      have h2 := nxM_le (i := (if (nxM text i b).2.2 = true then (zc, (nxM text i b).2.1, true) else nodeM text n (nxM text i b).2.1 false).2.1) (if (nxM text i b).2.2 = true then (zc, (nxM text i b).2.1, true) else nodeM text n (nxM text i b).2.1 false).2.2 h1.2.2
      generalize (if (nxM text i b).2.2 = true then (zc, (nxM text i b).2.1, true) else nodeM text n (nxM text i b).2.1 false) = x at *
      generalize nxM text x.2.1 x.2.2 = g at *
      have h3 := hp g.2.1 (g.2.2 || !isTwo g.1) h2.2
      generalize (if (g.2.2 || !isTwo g.1) = true then (zc, g.2.1, true) else nodeM text n g.2.1 false) = y at *
      have h4 := isM_le (text := text) false 41 h3.2.2
      refine ⟨⟨rfl, by simp only [closedL, closed, closedL_append, h1.1.cl, h3.1.cl, Bool.and_self], rfl⟩, ?_⟩
      split
      · exact ⟨by show i ≤ y.2.1; omega, h3.2.2⟩
      · exact ⟨by show i ≤ (isM text y.2.1 false 41).1; omega, h4.2⟩
    split
    · have h2 := nxM_le (nxM text i b).2.2 hq.2
      generalize (nxM text (nxM text i b).2.1 (nxM text i b).2.2) = g at *
      have h3 := isM_le (text := text) (g.2.2 || !isLV g.1) 58 h2.2
      generalize isM text g.2.1 (g.2.2 || !isLV g.1) 58 = c1 at *
      have h4 := hp c1.1 c1.2 h3.2
      generalize (if c1.2 = true then (zc, c1.1, true) else nodeM text n c1.1 false) = x at *
      have h5 := isM_le (text := text) x.2.2 62 h4.2.2
      generalize isM text x.2.1 x.2.2 62 = c2 at *
      have h6 := hp c2.1 c2.2 h5.2
      generalize (if c2.2 = true then (zc, c2.1, true) else nodeM text n c2.1 false) = y at *
      have h7 := isM_le (text := text) false ((nxM text i b).1 + 2) h6.2.2
      refine ⟨⟨rfl, by simp only [closedL, closed, closedL_append, h4.1.cl, h6.1.cl, Bool.and_self], rfl⟩, ?_⟩
      split
      · exact ⟨by show i ≤ y.2.1; omega, h6.2.2⟩
      · exact ⟨by show i ≤ (isM text y.2.1 false ((nxM text i b).1 + 2)).1; omega, h7.2⟩
    · exact ⟨⟨rfl, rfl, rfl⟩, hq⟩
theorem partM_ok (text : List UInt8) (n i : Nat) (b : Bool) (hi : i ≤ text.length) : NodeOk (partM text n i b).1 ∧ i ≤ (partM text n i b).2.1 ∧ (partM text n i b).2.1 ≤ text.length := by
  unfold partM
  split
  · exact ⟨⟨rfl, rfl, rfl⟩, Nat.le_refl _, hi⟩
  · exact nodeM_ok text n i false hi

/-! ### laws of bytes -/
theorem in_dig (c : UInt8) : decide ((48 : Int) ≤ (c.toNat : Int) ∧ (c.toNat : Int) ≤ 57) = isDig c := by
  rw [Bool.eq_iff_iff]
  simp only [isDig, decide_eq_true_iff, Bool.and_eq_true]
  omega
theorem in_lv (c : UInt8) : decide ((118 : Int) ≤ (c.toNat : Int) ∧ (c.toNat : Int) ≤ 122) = isLV c := by
  rw [Bool.eq_iff_iff]
  simp only [isLV, decide_eq_true_iff, Bool.and_eq_true]
  omega
theorem eq_nat (c d : UInt8) : decide ((c.toNat : Int) = (d.toNat : Int)) = decide (c = d) := by
  rw [decide_eq_decide, ← UInt8.toNat_inj]
  omega
theorem wrap_u8 (c : UInt8) : IntKind.i64.wrap (c.toNat : Int) = (c.toNat : Int) := by
  have := u8_lt c
  exact wrap64 (by omega) (by omega)
theorem isVar_cases (c : UInt8) : isVar c = (decide (c = 97) || (decide (c = 98) || isLV c)) := by
  rw [Bool.eq_iff_iff]
  simp only [isVar, isLV, List.contains_cons, List.contains_nil, Bool.or_eq_true, Bool.and_eq_true, decide_eq_true_iff, beq_iff_eq, Bool.or_false, ← UInt8.toNat_inj]
  show c.toNat = 97 ∨ c.toNat = 98 ∨ c.toNat = 118 ∨ c.toNat = 119 ∨ c.toNat = 120 ∨ c.toNat = 121 ∨ c.toNat = 122 ↔ c.toNat = 97 ∨ c.toNat = 98 ∨ _
  omega
theorem findFrom_has (c : UInt8) : ∀ (l : List UInt8) (i : Nat), decide ((0 : Int) ≤ findFrom c i l) = l.contains c
  | [], i => rfl
  | x :: l, i => by
    have ih := findFrom_has c l (i + 1)
    by_cases h : x = c
    · have e : findFrom c i (x :: l) = (i : Int) := by rw [findFrom, if_pos h]
      subst h
      refine (congrArg (fun z => decide ((0 : Int) ≤ z)) e).trans ?_
      simp
    · have h2 : (c == x) = false := by simpa using fun e => h e.symm
      have e : findFrom c i (x :: l) = findFrom c (i + 1) l := by rw [findFrom, if_neg h]
      refine (congrArg (fun z => decide ((0 : Int) ≤ z)) e).trans ?_
      rw [List.contains_cons, h2, Bool.false_or]
      exact ih
theorem findFrom_hasnt (c : UInt8) (l : List UInt8) (i : Nat) : decide (findFrom c i l < (0 : Int)) = !l.contains c := by
  rw [← findFrom_has c l i, ← decide_not, decide_eq_decide]
  omega

theorem T_part : TT 115 = some (Tryd.f115, bodyOf Tryd.f115) := by kernel_rfl
theorem part_ev (text : List UInt8) (n : Nat) (hl : text.length < 4611686018427387904)
    (hn : ∀ (i : Nat), i ≤ text.length → text.length - i < n → EE 94 [rdr text i false] = some (.t [.a (nodeM text n i false).1, .t [rdr text (nodeM text n i false).2.1 (nodeM text n i false).2.2]]))
    (i : Nat) (b : Bool) (hi : i ≤ text.length) (hin : b = false → text.length - i < n) :
    EE 115 [rdr text i b] = some (.t [.a (partM text n i b).1, .t [rdr text (partM text n i b).2.1 (partM text n i b).2.2]]) := by
  refine EE_lend T_part (by decide) (Nat.le_of_ble_eq_true rfl) rfl rfl ?_
  rw [show opt 115 = [] from rfl]
  simp only [bodyOf, Tryd.f115, SA]
  cases b with
  | true =>
    simp only [partM, if_true, IA, PA, RA0, RA1, RA2, RA3, RA4, RA5, RA6, RA7, RA8, RA9, RA10, Nat.reduceAdd, Nat.reduceMul, Nat.reduceEqDiff, Nat.reduceLeDiff, Nat.reduceLT, Int.reduceToNat, Int.reduceLT, Int.reduceLE, Int.reduceEq, Int.reduceNeg, Int.reduceAdd, Int.reduceSub, Int.reduceMul, reduceIte]
    refine out_one (x := .a zc) ?_ rfl (by rfl) rfl rfl
    simp only [IA, PA, RA0, RA1, RA2, RA3, RA4, RA5, RA6, RA7, RA8, RA9, RA10, Nat.reduceAdd, Nat.reduceMul, Nat.reduceEqDiff, Nat.reduceLeDiff, Nat.reduceLT, Int.reduceToNat, Int.reduceLT, Int.reduceLE, Int.reduceEq, Int.reduceNeg, Int.reduceAdd, Int.reduceSub, Int.reduceMul, reduceIte]
    rfl
  | false =>
    have h := hn i hi (hin rfl)
    have hok := (nodeM_ok text n i false hi).1
    simp only [IA, PA, RA0, RA1, RA2, RA3, RA4, RA5, RA6, RA7, RA8, RA9, RA10, Nat.reduceAdd, Nat.reduceMul, Nat.reduceEqDiff, Nat.reduceLeDiff, Nat.reduceLT, Int.reduceToNat, Int.reduceLT, Int.reduceLE, Int.reduceEq, Int.reduceNeg, Int.reduceAdd, Int.reduceSub, Int.reduceMul, reduceIte]
    simp only [partM, Bool.false_eq_true, if_false]
    generalize nodeM text n i false = q at *
    obtain ⟨z, i', b'⟩ := q
    obtain ⟨z0, z1, z2, rfl⟩ : ∃ z0 z1 z2, z = [z0, z1, z2] := by
      have := hok.len
      match z, this with
      | [z0, z1, z2], _ => exact ⟨_, _, _, rfl⟩
    have hlf := hok.lf
    rw [call_ob_v (by rfl) (by rfl) rfl rfl h rfl hok.cl (show 1 ≤ 4 by decide)]
    have hlf2 : leafOk z0 = true ∧ leafOk z1 = true ∧ leafOk z2 = true := by simpa [List.all_cons] using hlf
    simp only [hlf2.1, hlf2.2.1, hlf2.2.2, IA, PA, RA0, RA1, RA2, RA3, RA4, RA5, RA6, RA7, RA8, RA9, RA10, Nat.reduceAdd, Nat.reduceMul, Nat.reduceEqDiff, Nat.reduceLeDiff, Nat.reduceLT, Int.reduceToNat, Int.reduceLT, Int.reduceLE, Int.reduceEq, Int.reduceNeg, Int.reduceAdd, Int.reduceSub, Int.reduceMul, reduceIte]
    refine out_one (x := .a [z0, z1, z2]) ?_ hok.cl (by rfl) rfl rfl
    simp only [IA, PA, RA0, RA1, RA2, RA3, RA4, RA5, RA6, RA7, RA8, RA9, RA10, Nat.reduceAdd, Nat.reduceMul, Nat.reduceEqDiff, Nat.reduceLeDiff, Nat.reduceLT, Int.reduceToNat, Int.reduceLT, Int.reduceLE, Int.reduceEq, Int.reduceNeg, Int.reduceAdd, Int.reduceSub, Int.reduceMul, reduceIte]

theorem T_node : TT 94 = some (Tryd.f94, bodyOf Tryd.f94) := by kernel_rfl
set_option maxHeartbeats 8000000 in
theorem node_ev (text : List UInt8) (hl : text.length < 4611686018427387904) : ∀ (n i : Nat), i ≤ text.length → text.length - i < n →
    EE 94 [rdr text i false] = some (.t [.a (nodeM text n i false).1, .t [rdr text (nodeM text n i false).2.1 (nodeM text n i false).2.2]]) := by
  intro n
  induction n with
  | zero => intro i _ h; omega
  | succ n ih =>
    intro i hi hn
    have hpart : ∀ (j : Nat) (b : Bool), j ≤ text.length → (b = false → i < j) → EE 115 [rdr text j b] = some (.t [.a (partM text n j b).1, .t [rdr text (partM text n j b).2.1 (partM text n j b).2.2]]) :=
      fun j b hj hb => part_ev text n hl ih j b hj fun e => by have := hb e; omega
    refine EE_lend T_node (by decide) (Nat.le_of_ble_eq_true rfl) rfl rfl ?_
    rw [show opt 94 = [] from rfl]
    simp only [bodyOf, Tryd.f94, SA]
    simp only [IA, PA, RA0, RA1, RA2, RA3, RA4, RA5, RA6, RA7, RA8, RA9, RA10, Nat.reduceAdd, Nat.reduceMul, Nat.reduceEqDiff, Nat.reduceLeDiff, Nat.reduceLT, Int.reduceToNat, Int.reduceLT, Int.reduceLE, Int.reduceEq, Int.reduceNeg, Int.reduceAdd, Int.reduceSub, Int.reduceMul, reduceIte]
    rw [call_ob_v (by rfl) (by rfl) rfl rfl (next_ev text i false hi hl) rfl rfl (show 1 ≤ 4 by decide)]
    have hq1 := nxM_le false hi
    have hnone : text[i]? = none → (nxM text i false).1 = 0 := fun h => by rw [nxM_none false h]
    have hsome : (nxM text i false).1 ≠ 0 → i < (nxM text i false).2.1 ∧ (nxM text i false).2.2 = false := fun h => by
      cases hc : text[i]? with
      | none => exact absurd (hnone hc) h
      | some c => rw [nxM_some false hc]; exact ⟨Nat.lt_succ_self i, rfl⟩
    rw [nodeM_succ]
    generalize nxM text i false = q at hq1 hnone hsome ⊢
    obtain ⟨c, i1, b1⟩ := q
    simp only at hq1 hnone hsome ⊢
    by_cases h1 : isDig c = true
    · simp only [l1In_ev, in_dig, wrap_u8, h1, IA, PA, RA0, RA1, RA2, RA3, RA4, RA5, RA6, RA7, RA8, RA9, RA10, Nat.reduceAdd, Nat.reduceMul, Nat.reduceEqDiff, Nat.reduceLeDiff, Nat.reduceLT, Int.reduceToNat, Int.reduceLT, Int.reduceLE, Int.reduceEq, Int.reduceNeg, Int.reduceAdd, Int.reduceSub, Int.reduceMul, reduceIte]
      refine out_one (x := .a [U 48, U c, .s true 0 []]) ?_ rfl (by rfl) rfl rfl
      simp only [IA, PA, RA0, RA1, RA2, RA3, RA4, RA5, RA6, RA7, RA8, RA9, RA10, Nat.reduceAdd, Nat.reduceMul, Nat.reduceEqDiff, Nat.reduceLeDiff, Nat.reduceLT, Int.reduceToNat, Int.reduceLT, Int.reduceLE, Int.reduceEq, Int.reduceNeg, Int.reduceAdd, Int.reduceSub, Int.reduceMul, reduceIte]
      rfl
    have h1 : isDig c = false := by simpa using h1
    have e97 : decide ((c.toNat : Int) = 97) = decide (c = 97) := eq_nat c 97
    have e98 : decide ((c.toNat : Int) = 98) = decide (c = 98) := eq_nat c 98
    have e40 : decide ((c.toNat : Int) = 40) = decide (c = 40) := eq_nat c 40
    have e91 : decide ((c.toNat : Int) = 91) = decide (c = 91) := eq_nat c 91
    have e123 : decide ((c.toNat : Int) = 123) = decide (c = 123) := eq_nat c 123
    by_cases h2 : isVar c = true
    · have hv := h2
      rw [isVar_cases] at hv
      generalize hx : decide (c = 97) = x at hv
      generalize hy : decide (c = 98) = y at hv
      generalize hz : isLV c = z at hv
      cases x <;> cases y <;> cases z <;> first
        | (exact absurd hv (by decide))
        | (simp only [l1In_ev, in_dig, in_lv, wrap_u8, e97, e98, hx, hy, hz, h1, h2, IA, PA, RA0, RA1, RA2, RA3, RA4, RA5, RA6, RA7, RA8, RA9, RA10, Nat.reduceAdd, Nat.reduceMul, Nat.reduceEqDiff, Nat.reduceLeDiff, Nat.reduceLT, Int.reduceToNat, Int.reduceLT, Int.reduceLE, Int.reduceEq, Int.reduceNeg, Int.reduceAdd, Int.reduceSub, Int.reduceMul, reduceIte]
           refine out_one (x := .a [U 97, U c, .s true 0 []]) ?_ rfl (by rfl) rfl rfl
           simp only [IA, PA, RA0, RA1, RA2, RA3, RA4, RA5, RA6, RA7, RA8, RA9, RA10, Nat.reduceAdd, Nat.reduceMul, Nat.reduceEqDiff, Nat.reduceLeDiff, Nat.reduceLT, Int.reduceToNat, Int.reduceLT, Int.reduceLE, Int.reduceEq, Int.reduceNeg, Int.reduceAdd, Int.reduceSub, Int.reduceMul, reduceIte]
           rfl)
    have h2 : isVar c = false := by simpa using h2
    have hv := h2
    rw [isVar_cases] at hv
    simp only [Bool.or_eq_false_iff] at hv
    obtain ⟨hx, hy, hz⟩ := hv
    simp only [l1In_ev, in_dig, in_lv, wrap_u8, e97, e98, hx, hy, hz, h1, h2, IA, PA, RA0, RA1, RA2, RA3, RA4, RA5, RA6, RA7, RA8, RA9, RA10, Nat.reduceAdd, Nat.reduceMul, Nat.reduceEqDiff, Nat.reduceLeDiff, Nat.reduceLT, Int.reduceToNat, Int.reduceLT, Int.reduceLE, Int.reduceEq, Int.reduceNeg, Int.reduceAdd, Int.reduceSub, Int.reduceMul, reduceIte]
    rw [l13Find_ev _ c (by decide)]
    by_cases h3 : isOne c = true
    · have h4 : [83, 77, 73, 78, 82, 67, 80].contains c = true := h3
      have hc0 : c ≠ 0 := fun e => by rw [e] at h3; exact absurd h3 (by decide)
      obtain ⟨hi1, rfl⟩ := hsome hc0
      simp only [findFrom_has, h3, h4, IA, PA, RA0, RA1, RA2, RA3, RA4, RA5, RA6, RA7, RA8, RA9, RA10, Nat.reduceAdd, Nat.reduceMul, Nat.reduceEqDiff, Nat.reduceLeDiff, Nat.reduceLT, Int.reduceToNat, Int.reduceLT, Int.reduceLE, Int.reduceEq, Int.reduceNeg, Int.reduceAdd, Int.reduceSub, Int.reduceMul, reduceIte]
      have hok := (partM_ok text n i1 false hq1.2).1
      rw [call_ob_v (by rfl) (by rfl) rfl rfl (hpart i1 false hq1.2 fun _ => hi1) rfl hok.cl (show 1 ≤ 4 by decide)]
      generalize partM text n i1 false = x at hok ⊢
      obtain ⟨z, i2, b2⟩ := x
      simp only at hok ⊢
      have hzl := hok.len
      have hzc := hok.cl
      simp only [hzl, IA, PA, RA0, RA1, RA2, RA3, RA4, RA5, RA6, RA7, RA8, RA9, RA10, Nat.reduceAdd, Nat.reduceMul, Nat.reduceEqDiff, Nat.reduceLeDiff, Nat.reduceLT, Int.reduceToNat, Int.reduceLT, Int.reduceLE, Int.reduceEq, Int.reduceNeg, Int.reduceAdd, Int.reduceSub, Int.reduceMul, reduceIte]
      refine out_one (x := .a [U c, U 0, .s true 1 z]) ?_ (by simp only [goes, closed, closedL, hzc, Bool.and_self]) (by rfl) rfl rfl
      simp only [IA, PA, RA0, RA1, RA2, RA3, RA4, RA5, RA6, RA7, RA8, RA9, RA10, Nat.reduceAdd, Nat.reduceMul, Nat.reduceEqDiff, Nat.reduceLeDiff, Nat.reduceLT, Int.reduceToNat, Int.reduceLT, Int.reduceLE, Int.reduceEq, Int.reduceNeg, Int.reduceAdd, Int.reduceSub, Int.reduceMul, reduceIte]
      rfl
    have h3 : isOne c = false := by simpa using h3
    have h4 : [83, 77, 73, 78, 82, 67, 80].contains c = false := h3
    by_cases hc : c = 40
    · subst hc
      obtain ⟨hi1, rfl⟩ := hsome (by decide)
      have e40 : decide ((((40 : UInt8).toNat : Nat) : Int) = 40) = true := rfl
      simp only [findFrom_has, h3, h4, e40, IA, PA, RA0, RA1, RA2, RA3, RA4, RA5, RA6, RA7, RA8, RA9, RA10, Nat.reduceAdd, Nat.reduceMul, Nat.reduceEqDiff, Nat.reduceLeDiff, Nat.reduceLT, Int.reduceToNat, Int.reduceLT, Int.reduceLE, Int.reduceEq, Int.reduceNeg, Int.reduceAdd, Int.reduceSub, Int.reduceMul, reduceIte]
      have hok := (partM_ok text n i1 false hq1.2).1
      have hle := (partM_ok text n i1 false hq1.2).2
      rw [call_ob_v (by rfl) (by rfl) rfl rfl (hpart i1 false hq1.2 fun _ => hi1) rfl hok.cl (show 1 ≤ 4 by decide)]
      generalize partM text n i1 false = x at hok hle ⊢
      obtain ⟨z, i2, b2⟩ := x
      simp only at hok hle ⊢
      have hzl := hok.len
      have hzc := hok.cl
      have hzf := hok.lf
      simp only [hzl, hzf, IA, PA, RA0, RA1, RA2, RA3, RA4, RA5, RA6, RA7, RA8, RA9, RA10, Nat.reduceAdd, Nat.reduceMul, Nat.reduceEqDiff, Nat.reduceLeDiff, Nat.reduceLT, Int.reduceToNat, Int.reduceLT, Int.reduceLE, Int.reduceEq, Int.reduceNeg, Int.reduceAdd, Int.reduceSub, Int.reduceMul, reduceIte]
      rw [call_ob_v (by rfl) (by rfl) rfl rfl (next_ev text i2 b2 hle.2 hl) rfl rfl (show 1 ≤ 4 by decide)]
      have hle3 := nxM_le b2 hle.2
      generalize nxM text i2 b2 = g at hle3 ⊢
      obtain ⟨sg, i3, b3⟩ := g
      simp only at hle3 ⊢
      have ht : decide (findFrom sg 0 [43, 42, 94, 45, 61, 60, 64] < 0) = !isTwo sg := findFrom_hasnt sg _ 0
      simp only [IA, PA, RA0, RA1, RA2, RA3, RA4, RA5, RA6, RA7, RA8, RA9, RA10, Nat.reduceAdd, Nat.reduceMul, Nat.reduceEqDiff, Nat.reduceLeDiff, Nat.reduceLT, Int.reduceToNat, Int.reduceLT, Int.reduceLE, Int.reduceEq, Int.reduceNeg, Int.reduceAdd, Int.reduceSub, Int.reduceMul, reduceIte]
      cases b3
      case' false =>
        simp only [IA, PA, RA0, RA1, RA2, RA3, RA4, RA5, RA6, RA7, RA8, RA9, RA10, Nat.reduceAdd, Nat.reduceMul, Nat.reduceEqDiff, Nat.reduceLeDiff, Nat.reduceLT, Int.reduceToNat, Int.reduceLT, Int.reduceLE, Int.reduceEq, Int.reduceNeg, Int.reduceAdd, Int.reduceSub, Int.reduceMul, reduceIte]
        rw [l13Find_ev _ sg (by decide)]
        simp only [ht, IA, PA, RA0, RA1, RA2, RA3, RA4, RA5, RA6, RA7, RA8, RA9, RA10, Nat.reduceAdd, Nat.reduceMul, Nat.reduceEqDiff, Nat.reduceLeDiff, Nat.reduceLT, Int.reduceToNat, Int.reduceLT, Int.reduceLE, Int.reduceEq, Int.reduceNeg, Int.reduceAdd, Int.reduceSub, Int.reduceMul, reduceIte]
        generalize hb4 : (!isTwo sg) = b4
        rw [call_ob_v (by rfl) (by rfl) rfl rfl (hpart i3 b4 hle3.2 fun _ => by omega) rfl (partM_ok text n i3 b4 hle3.2).1.cl (show 1 ≤ 4 by decide)]
        have hok2 := (partM_ok text n i3 b4 hle3.2).1
        have hle4 := (partM_ok text n i3 b4 hle3.2).2
        generalize partM text n i3 b4 = y at hok2 hle4 ⊢
      case' true =>
        simp only [IA, PA, RA0, RA1, RA2, RA3, RA4, RA5, RA6, RA7, RA8, RA9, RA10, Nat.reduceAdd, Nat.reduceMul, Nat.reduceEqDiff, Nat.reduceLeDiff, Nat.reduceLT, Int.reduceToNat, Int.reduceLT, Int.reduceLE, Int.reduceEq, Int.reduceNeg, Int.reduceAdd, Int.reduceSub, Int.reduceMul, reduceIte]
        rw [call_ob_v (by rfl) (by rfl) rfl rfl (hpart i3 true hle3.2 fun _ => by omega) rfl (partM_ok text n i3 true hle3.2).1.cl (show 1 ≤ 4 by decide)]
        have hok2 := (partM_ok text n i3 true hle3.2).1
        have hle4 := (partM_ok text n i3 true hle3.2).2
        generalize partM text n i3 true = y at hok2 hle4 ⊢
      all_goals
        obtain ⟨zy, i4, b5⟩ := y
        simp only at hok2 hle4 ⊢
        have hyl := hok2.len
        have hyc := hok2.cl
        have hyf := hok2.lf
        have t1 : z.take 3 = z := List.take_of_length_le (by omega)
        have t2 : zy.take 3 = zy := List.take_of_length_le (by omega)
        have hcl : goes (.a [U sg, U 0, .s true 2 (z ++ zy)]) = true := by simp only [goes, closed, closedL, closedL_append, hzc, hyc, Bool.and_self]
        cases b5
        · simp only [hyl, hyf, IA, PA, RA0, RA1, RA2, RA3, RA4, RA5, RA6, RA7, RA8, RA9, RA10, Nat.reduceAdd, Nat.reduceMul, Nat.reduceEqDiff, Nat.reduceLeDiff, Nat.reduceLT, Int.reduceToNat, Int.reduceLT, Int.reduceLE, Int.reduceEq, Int.reduceNeg, Int.reduceAdd, Int.reduceSub, Int.reduceMul, reduceIte]
          rw [call_ob_v (by rfl) (by rfl) rfl rfl (show EE 116 [rdr text i4 false, .v (.int .u8 41)] = some (.t [.t [], .t [rdr text (isM text i4 false 41).1 (isM text i4 false 41).2, .v (.int .u8 41)]]) from is_ev text i4 false 41 hle4.2 hl) rfl rfl (show 0 ≤ 4 by decide)]
          simp only [hzl, hyl, t1, t2, Nat.le_refl, IA, PA, RA0, RA1, RA2, RA3, RA4, RA5, RA6, RA7, RA8, RA9, RA10, Nat.reduceAdd, Nat.reduceMul, Nat.reduceEqDiff, Nat.reduceLeDiff, Nat.reduceLT, Int.reduceToNat, Int.reduceLT, Int.reduceLE, Int.reduceEq, Int.reduceNeg, Int.reduceAdd, Int.reduceSub, Int.reduceMul, reduceIte]
          refine out_one (x := .a [U sg, U 0, .s true 2 (z ++ zy)]) ?_ hcl (by rfl) rfl rfl
          simp only [IA, PA, RA0, RA1, RA2, RA3, RA4, RA5, RA6, RA7, RA8, RA9, RA10, Nat.reduceAdd, Nat.reduceMul, Nat.reduceEqDiff, Nat.reduceLeDiff, Nat.reduceLT, Int.reduceToNat, Int.reduceLT, Int.reduceLE, Int.reduceEq, Int.reduceNeg, Int.reduceAdd, Int.reduceSub, Int.reduceMul, reduceIte]
          rfl
        · simp only [hzl, hyl, hyf, t1, t2, Nat.le_refl, IA, PA, RA0, RA1, RA2, RA3, RA4, RA5, RA6, RA7, RA8, RA9, RA10, Nat.reduceAdd, Nat.reduceMul, Nat.reduceEqDiff, Nat.reduceLeDiff, Nat.reduceLT, Int.reduceToNat, Int.reduceLT, Int.reduceLE, Int.reduceEq, Int.reduceNeg, Int.reduceAdd, Int.reduceSub, Int.reduceMul, reduceIte]
          refine out_one (x := .a [U sg, U 0, .s true 2 (z ++ zy)]) ?_ hcl (by rfl) rfl rfl
          simp only [IA, PA, RA0, RA1, RA2, RA3, RA4, RA5, RA6, RA7, RA8, RA9, RA10, Nat.reduceAdd, Nat.reduceMul, Nat.reduceEqDiff, Nat.reduceLeDiff, Nat.reduceLT, Int.reduceToNat, Int.reduceLT, Int.reduceLE, Int.reduceEq, Int.reduceNeg, Int.reduceAdd, Int.reduceSub, Int.reduceMul, reduceIte]
          rfl
    by_cases hc2 : c = 91 ∨ c = 123
    case neg =>
      have e1 : decide (c = 91) = false := by simpa using fun e => hc2 (.inl e)
      have e2 : decide (c = 123) = false := by simpa using fun e => hc2 (.inr e)
      have e3 : decide (c = 40) = false := by simpa using hc
      simp only [findFrom_has, h3, h4, e40, e91, e123, e1, e2, e3, hc, hc2, IA, PA, RA0, RA1, RA2, RA3, RA4, RA5, RA6, RA7, RA8, RA9, RA10, Nat.reduceAdd, Nat.reduceMul, Nat.reduceEqDiff, Nat.reduceLeDiff, Nat.reduceLT, Int.reduceToNat, Int.reduceLT, Int.reduceLE, Int.reduceEq, Int.reduceNeg, Int.reduceAdd, Int.reduceSub, Int.reduceMul, reduceIte]
      refine out_one (x := .a zc) ?_ rfl (by rfl) rfl rfl
      simp only [IA, PA, RA0, RA1, RA2, RA3, RA4, RA5, RA6, RA7, RA8, RA9, RA10, Nat.reduceAdd, Nat.reduceMul, Nat.reduceEqDiff, Nat.reduceLeDiff, Nat.reduceLT, Int.reduceToNat, Int.reduceLT, Int.reduceLE, Int.reduceEq, Int.reduceNeg, Int.reduceAdd, Int.reduceSub, Int.reduceMul, reduceIte]
      rfl
    have hc0 : c ≠ 0 := by rcases hc2 with rfl | rfl <;> decide
    obtain ⟨hi1, rfl⟩ := hsome hc0
    have hcs : decide (c = 40) = false ∧ IntKind.u8.wrap ((c.toNat : Int) + 2) = ((c + 2).toNat : Int) := by
      rcases hc2 with rfl | rfl
      · exact ⟨rfl, rfl⟩
      · exact ⟨rfl, rfl⟩
    obtain ⟨e3, hw⟩ := hcs
    have hbr : (decide (c = 91) || decide (c = 123)) = true := by simpa using hc2
    generalize hb1 : decide (c = 91) = bb1 at hbr
    generalize hb2 : decide (c = 123) = bb2 at hbr
    have hb3 : bb1 = false → bb2 = true := by rintro rfl; simpa using hbr
    clear hbr
    have hle2 := nxM_le false hq1.2
    have hnx := next_ev text i1 false hq1.2 hl
    have hnx2 : (nxM text i1 false).2.2 = false → i1 < (nxM text i1 false).2.1 := fun h => by
      cases hc3 : text[i1]? with
      | none => rw [nxM_none false hc3] at h; cases h
      | some d => rw [nxM_some false hc3]; exact Nat.lt_succ_self i1
    simp only [findFrom_has, h3, h4, e40, e91, e123, e3, hc, hc2, IA, PA, RA0, RA1, RA2, RA3, RA4, RA5, RA6, RA7, RA8, RA9, RA10, Nat.reduceAdd, Nat.reduceMul, Nat.reduceEqDiff, Nat.reduceLeDiff, Nat.reduceLT, Int.reduceToNat, Int.reduceLT, Int.reduceLE, Int.reduceEq, Int.reduceNeg, Int.reduceAdd, Int.reduceSub, Int.reduceMul, reduceIte]
    generalize nxM text i1 false = g at hle2 hnx hnx2 ⊢
    obtain ⟨nm, i2, b2⟩ := g
    simp only at hle2 hnx hnx2 ⊢
    have fin : ∀ (x : List AV) (y : List AV), NodeOk x → NodeOk y → goes (.a [U c, U nm, .s true 2 (x ++ y)]) = true := fun x y h1 h2 => by simp only [goes, closed, closedL, closedL_append, h1.cl, h2.cl, Bool.and_self]
    cases bb1
    case' false => obtain rfl := hb3 rfl
    all_goals
      simp only [e91, e123, hb1, hb2, IA, PA, RA0, RA1, RA2, RA3, RA4, RA5, RA6, RA7, RA8, RA9, RA10, Nat.reduceAdd, Nat.reduceMul, Nat.reduceEqDiff, Nat.reduceLeDiff, Nat.reduceLT, Int.reduceToNat, Int.reduceLT, Int.reduceLE, Int.reduceEq, Int.reduceNeg, Int.reduceAdd, Int.reduceSub, Int.reduceMul, reduceIte]
      rw [call_ob_v (by rfl) (by rfl) rfl rfl hnx rfl rfl (show 1 ≤ 4 by decide)]
      simp only [IA, PA, RA0, RA1, RA2, RA3, RA4, RA5, RA6, RA7, RA8, RA9, RA10, Nat.reduceAdd, Nat.reduceMul, Nat.reduceEqDiff, Nat.reduceLeDiff, Nat.reduceLT, Int.reduceToNat, Int.reduceLT, Int.reduceLE, Int.reduceEq, Int.reduceNeg, Int.reduceAdd, Int.reduceSub, Int.reduceMul, reduceIte]
      cases b2
      case' false =>
        simp only [l1In_ev, in_lv, wrap_u8, IA, PA, RA0, RA1, RA2, RA3, RA4, RA5, RA6, RA7, RA8, RA9, RA10, Nat.reduceAdd, Nat.reduceMul, Nat.reduceEqDiff, Nat.reduceLeDiff, Nat.reduceLT, Int.reduceToNat, Int.reduceLT, Int.reduceLE, Int.reduceEq, Int.reduceNeg, Int.reduceAdd, Int.reduceSub, Int.reduceMul, reduceIte]
        generalize hb4 : (!isLV nm) = b4
        have hlt : i2 ≤ i2 := Nat.le_refl _
        have his := is_ev text i2 b4 58 hle2.2 hl
        have hle3 := isM_le (text := text) b4 58 hle2.2
        rw [call_ob_v (by rfl) (by rfl) rfl rfl (show EE 116 [rdr text i2 b4, .v (.int .u8 58)] = some (.t [.t [], .t [rdr text (isM text i2 b4 58).1 (isM text i2 b4 58).2, .v (.int .u8 58)]]) from his) rfl rfl (show 0 ≤ 4 by decide)]
        generalize isM text i2 b4 58 = c1 at hle3 ⊢
      case' true =>
        simp only [IA, PA, RA0, RA1, RA2, RA3, RA4, RA5, RA6, RA7, RA8, RA9, RA10, Nat.reduceAdd, Nat.reduceMul, Nat.reduceEqDiff, Nat.reduceLeDiff, Nat.reduceLT, Int.reduceToNat, Int.reduceLT, Int.reduceLE, Int.reduceEq, Int.reduceNeg, Int.reduceAdd, Int.reduceSub, Int.reduceMul, reduceIte]
        have his := is_ev text i2 true 58 hle2.2 hl
        have hle3 := isM_le (text := text) true 58 hle2.2
        rw [call_ob_v (by rfl) (by rfl) rfl rfl (show EE 116 [rdr text i2 true, .v (.int .u8 58)] = some (.t [.t [], .t [rdr text (isM text i2 true 58).1 (isM text i2 true 58).2, .v (.int .u8 58)]]) from his) rfl rfl (show 0 ≤ 4 by decide)]
        generalize isM text i2 true 58 = c1 at hle3 ⊢
      all_goals
        obtain ⟨i3, b3⟩ := c1
        simp only at hle3
        simp only [IA, PA, RA0, RA1, RA2, RA3, RA4, RA5, RA6, RA7, RA8, RA9, RA10, Nat.reduceAdd, Nat.reduceMul, Nat.reduceEqDiff, Nat.reduceLeDiff, Nat.reduceLT, Int.reduceToNat, Int.reduceLT, Int.reduceLE, Int.reduceEq, Int.reduceNeg, Int.reduceAdd, Int.reduceSub, Int.reduceMul, reduceIte]
        have hok := (partM_ok text n i3 b3 hle3.2).1
        have hle4 := (partM_ok text n i3 b3 hle3.2).2
        rw [call_ob_v (by rfl) (by rfl) rfl rfl (hpart i3 b3 hle3.2 fun _ => by omega) rfl hok.cl (show 1 ≤ 4 by decide)]
        generalize partM text n i3 b3 = x at hok hle4 ⊢
        obtain ⟨z, i4, b4⟩ := x
        simp only at hok hle4
        have hzl := hok.len
        have hzc := hok.cl
        have hzf := hok.lf
        simp only [hzl, hzf, IA, PA, RA0, RA1, RA2, RA3, RA4, RA5, RA6, RA7, RA8, RA9, RA10, Nat.reduceAdd, Nat.reduceMul, Nat.reduceEqDiff, Nat.reduceLeDiff, Nat.reduceLT, Int.reduceToNat, Int.reduceLT, Int.reduceLE, Int.reduceEq, Int.reduceNeg, Int.reduceAdd, Int.reduceSub, Int.reduceMul, reduceIte]
        have his2 := is_ev text i4 b4 62 hle4.2 hl
        have hle5 := isM_le (text := text) b4 62 hle4.2
        rw [call_ob_v (by rfl) (by rfl) rfl rfl (show EE 116 [rdr text i4 b4, .v (.int .u8 62)] = some (.t [.t [], .t [rdr text (isM text i4 b4 62).1 (isM text i4 b4 62).2, .v (.int .u8 62)]]) from his2) rfl rfl (show 0 ≤ 4 by decide)]
        generalize isM text i4 b4 62 = c2 at hle5 ⊢
        obtain ⟨i5, b5⟩ := c2
        simp only at hle5
        simp only [IA, PA, RA0, RA1, RA2, RA3, RA4, RA5, RA6, RA7, RA8, RA9, RA10, Nat.reduceAdd, Nat.reduceMul, Nat.reduceEqDiff, Nat.reduceLeDiff, Nat.reduceLT, Int.reduceToNat, Int.reduceLT, Int.reduceLE, Int.reduceEq, Int.reduceNeg, Int.reduceAdd, Int.reduceSub, Int.reduceMul, reduceIte]
        have hok2 := (partM_ok text n i5 b5 hle5.2).1
        have hle6 := (partM_ok text n i5 b5 hle5.2).2
        rw [call_ob_v (by rfl) (by rfl) rfl rfl (hpart i5 b5 hle5.2 fun _ => by omega) rfl hok2.cl (show 1 ≤ 4 by decide)]
        generalize partM text n i5 b5 = y at hok2 hle6 ⊢
        obtain ⟨zy, i6, b6⟩ := y
        simp only at hok2 hle6
        have hyl := hok2.len
        have hyc := hok2.cl
        have hyf := hok2.lf
        have t1 : z.take 3 = z := List.take_of_length_le (by omega)
        have t2 : zy.take 3 = zy := List.take_of_length_le (by omega)
        have hcl := fin z zy hok hok2
        cases b6
        · simp only [hyl, hyf, hw, IA, PA, RA0, RA1, RA2, RA3, RA4, RA5, RA6, RA7, RA8, RA9, RA10, Nat.reduceAdd, Nat.reduceMul, Nat.reduceEqDiff, Nat.reduceLeDiff, Nat.reduceLT, Int.reduceToNat, Int.reduceLT, Int.reduceLE, Int.reduceEq, Int.reduceNeg, Int.reduceAdd, Int.reduceSub, Int.reduceMul, reduceIte]
          rw [call_ob_v (by rfl) (by rfl) rfl rfl (is_ev text i6 false (c + 2) hle6.2 hl) rfl rfl (show 0 ≤ 4 by decide)]
          simp only [hzl, hyl, t1, t2, Nat.le_refl, IA, PA, RA0, RA1, RA2, RA3, RA4, RA5, RA6, RA7, RA8, RA9, RA10, Nat.reduceAdd, Nat.reduceMul, Nat.reduceEqDiff, Nat.reduceLeDiff, Nat.reduceLT, Int.reduceToNat, Int.reduceLT, Int.reduceLE, Int.reduceEq, Int.reduceNeg, Int.reduceAdd, Int.reduceSub, Int.reduceMul, reduceIte]
          refine out_one (x := .a [U c, U nm, .s true 2 (z ++ zy)]) ?_ hcl (by rfl) rfl rfl
          simp only [IA, PA, RA0, RA1, RA2, RA3, RA4, RA5, RA6, RA7, RA8, RA9, RA10, Nat.reduceAdd, Nat.reduceMul, Nat.reduceEqDiff, Nat.reduceLeDiff, Nat.reduceLT, Int.reduceToNat, Int.reduceLT, Int.reduceLE, Int.reduceEq, Int.reduceNeg, Int.reduceAdd, Int.reduceSub, Int.reduceMul, reduceIte]
        · simp only [hzl, hyl, hyf, t1, t2, Nat.le_refl, IA, PA, RA0, RA1, RA2, RA3, RA4, RA5, RA6, RA7, RA8, RA9, RA10, Nat.reduceAdd, Nat.reduceMul, Nat.reduceEqDiff, Nat.reduceLeDiff, Nat.reduceLT, Int.reduceToNat, Int.reduceLT, Int.reduceLE, Int.reduceEq, Int.reduceNeg, Int.reduceAdd, Int.reduceSub, Int.reduceMul, reduceIte]
          refine out_one (x := .a [U c, U nm, .s true 2 (z ++ zy)]) ?_ hcl (by rfl) rfl rfl
          simp only [IA, PA, RA0, RA1, RA2, RA3, RA4, RA5, RA6, RA7, RA8, RA9, RA10, Nat.reduceAdd, Nat.reduceMul, Nat.reduceEqDiff, Nat.reduceLeDiff, Nat.reduceLT, Int.reduceToNat, Int.reduceLT, Int.reduceLE, Int.reduceEq, Int.reduceNeg, Int.reduceAdd, Int.reduceSub, Int.reduceMul, reduceIte]
end
end Go.Proofs.YtkmnidbodlmaaaaDoor.Ev
