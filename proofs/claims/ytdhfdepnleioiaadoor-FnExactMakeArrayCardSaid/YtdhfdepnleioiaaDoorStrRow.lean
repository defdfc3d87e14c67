/-
An argument that is a slice of texts, as the row reads it: what its cells hold, and that it is no longer than its weight allows.
-/
import Derived.Test.YtdhfdepnleioiaaDoorV
import Derived.SliceStrings
import Derived.SizedLaws
namespace Go.Proofs.YtdhfdepnleioiaaDoor.PA
open Go Go.ChangeShapes Go.WideShapes Go.Proofs.YtdhfdepnleioiaaDoorW.PrintWords

theorem row_strs {H : Type} {enc : TypeId × Value → H} {P : Program} {W : World} {base : Nat} {held : Bool} {t e : TypeId} {a : Option Addr} {len cap : Nat} {d : DataW H} {ps : List MemPlace} {ts : List TypeId} {ds : List (DataW H)} {j : Nat}
    (hsz : (DataW.weightsEach P ts ds).all (· ≤ reachBytes) = true) (ht : ts[j]? = some t) (hd : ds[j]? = some d) (hu : P.underlying t = some (.slice e)) (he : P.underlying e = some .string) (hc : P.cellsOf e = 1) (hB : P.bytesOf e = 16)
    (h : DataW.Trod enc P W base (fun _ => true) held t (.slice a len cap) d ps) :
    ∃ zs : List ByteArray, zs.length = len ∧ Kd.C Kd.string W a zs.length zs ∧ zs.length ≤ cap ∧ zs.length * 16 ≤ 140737488351232 ∧ ∀ s ∈ zs, s.size ≤ maxLen := by
  obtain ⟨fuel, hf⟩ := h
  rcases open_strings hu he hc hf with ⟨hcs, _⟩ | ⟨x, l, c, ss, hcs, _, hl, hm, hz, hx, hcell, hs⟩
  · simp [Value.cells] at hcs
    obtain ⟨rfl, rfl, rfl⟩ := hcs
    exact ⟨[], rfl, Kd.C_of_reads (d := ByteArray.empty) (h1 := fun _ => rfl) (ReadsOf.nil _ _ _), Nat.le_refl _, by simp, fun s hs => by simp at hs⟩
  · simp [Value.cells] at hcs
    obtain ⟨rfl, rfl, rfl⟩ := hcs
    obtain ⟨hx, _⟩ := Prod.mk.inj hx
    subst hx
    have z := sized_slice hsz ht hd hu
    rw [hB] at z
    rw [if_pos rfl] at hz
    have h1 : (strs (H := H) (ss.take len)).length + (strs (H := H) (ss.drop len)).length = ss.length := by
      simp [strs]
      omega
    rw [h1] at z
    have e1 : (ss.take len).length = len := by rw [List.length_take]; omega
    have hle : len * 16 ≤ ss.length * 16 := Nat.mul_le_mul_right _ (by omega)
    have hm2 : len ≤ 9223372036854775807 := Nat.le_trans (Nat.le_trans hl hm) (by decide)
    refine ⟨ss.take len, e1, Kd.C_of_reads (d := ByteArray.empty) (h1 := fun _ => rfl) ⟨rfl, by rw [e1]; exact hm2, fun _ => ⟨x, rfl, fun i hi => ?_⟩⟩, by rw [e1]; exact hl, by rw [e1]; exact Nat.le_trans hle z, fun s h => hs s (List.mem_of_mem_take h)⟩
    rw [e1] at hi
    rw [hcell i (by omega)]
    simp [List.getD, hi]
end Go.Proofs.YtdhfdepnleioiaaDoor.PA
