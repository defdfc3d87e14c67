/-
What the package-level variables of the library that the program reads hold (the table of the powers of ten, and, where they are listed, the two errors of strconv), and that new memory turns nothing of it.
-/
import Derived.Test.YtibjofpgbcbloaaDoorProg
import Derived.WalkSmall
import Derived.Lib.LaidTab
import Derived.Lib.ItoaNum
namespace Go.Proofs.YtibjofpgbcbloaaDoor.PA
open Go.RowKit
theorem tab_pow : Tryd.prog.globalNamed "internal/strconv.uint64pow10" = some 0 := by kernel_rfl
structure Tabs (w : World) : Prop where
  pow : Lib.TabIs Tryd.prog w "internal/strconv.uint64pow10" .u64 Lib.pow10Tab
  low : 0 < w.heap.size
theorem Tabs.below {w w1 : World} (h : Tabs w) (hb : Below w.heap.size w w1) : Tabs w1 where
  pow := var?_below hb tab_pow (by have := h.low; omega) h.pow
  low := Nat.lt_of_lt_of_le h.low hb.size
end Go.Proofs.YtibjofpgbcbloaaDoor.PA
