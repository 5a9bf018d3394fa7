/- The variables that the program reads: the table of blanks and a number of the library's, below everything that a call makes. No condition. -/
import Derived.Test.YtemahcjglmhefaaDoorBase
import Derived.Test.YtemahcjglmhefaaDoorShelf
import Derived.WalkSmall
namespace Go.Proofs.YtemahcjglmhefaaDoor
open Go.RowKit

structure Gl (w : World) : Prop where
  sz : 4 ≤ w.heap.size
  tab : Lib.TabIs Tryd.prog w "strings.asciiSpace" .u8 Lib.asciiSpaceTab
  mx : ∃ m, w.cell? ⟨2, 0, none⟩ = some (.int .i64 m)
theorem globAscii : Tryd.prog.globalNamed "strings.asciiSpace" = some 0 := by kernel_rfl
theorem Gl.below {w w' : World} {B : Nat} (h : Gl w) (hb : Below B w w') (hB : 4 ≤ B) : Gl w' := by
  obtain ⟨h1, h2, m, h3⟩ := h
  refine ⟨Nat.le_trans h1 hb.size, var?_below hb globAscii (Nat.lt_of_lt_of_le (by decide) hB) h2, m, ?_⟩
  rw [hb.cell (p := ⟨2, 0, none⟩) (Nat.lt_of_lt_of_le (by decide) hB)]
  exact h3
theorem Gl.later {w w' : World} (h : Gl w) (hb : Below w.heap.size w w') : Gl w' := h.below hb h.sz
end Go.Proofs.YtemahcjglmhefaaDoor
