/-
What the package-level variables of the library that the program reads hold (the table of the powers of ten, and, where they are listed, the two errors of strconv), and that new memory turns nothing of it.
-/
import Derived.Test.YtdhfdepnleioiaaDoorProg
import Derived.WalkSmall
import Derived.Lib.LaidTab
import Derived.Lib.ItoaNum
namespace Go.Proofs.YtdhfdepnleioiaaDoor.PA
open Go.RowKit
theorem tab_pow : Tryd.prog.globalNamed "internal/strconv.uint64pow10" = some 3 := by kernel_rfl
theorem tab_syn : Tryd.prog.globalNamed "strconv.ErrSyntax" = some 1 := by kernel_rfl
theorem tab_rng : Tryd.prog.globalNamed "strconv.ErrRange" = some 2 := by kernel_rfl
structure Tabs (w : World) : Prop where
  pow : Lib.TabIs Tryd.prog w "internal/strconv.uint64pow10" .u64 Lib.pow10Tab
  low : 3 < w.heap.size
  syn : ∃ tp p, w.var? Tryd.prog "strconv.ErrSyntax" = some #[.iface tp p]
  rng : ∃ tp p, w.var? Tryd.prog "strconv.ErrRange" = some #[.iface tp p]
theorem Tabs.below {w w1 : World} (h : Tabs w) (hb : Below w.heap.size w w1) : Tabs w1 where
  pow := var?_below hb tab_pow (by have := h.low; omega) h.pow
  low := Nat.lt_of_lt_of_le h.low hb.size
  syn := by
    obtain ⟨tp, p, hp⟩ := h.syn
    exact ⟨tp, p, var?_below hb tab_syn (by have := h.low; omega) hp⟩
  rng := by
    obtain ⟨tp, p, hp⟩ := h.rng
    exact ⟨tp, p, var?_below hb tab_rng (by have := h.low; omega) hp⟩
end Go.Proofs.YtdhfdepnleioiaaDoor.PA
