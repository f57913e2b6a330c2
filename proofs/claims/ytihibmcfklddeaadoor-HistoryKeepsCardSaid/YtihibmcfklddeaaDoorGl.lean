/- What lies in the program's own variables that the library reads: bytealg.MaxLen is an int; the table of the powers of ten. -/
import Derived.Test.YtihibmcfklddeaaDoorProg
import Derived.Test.YtihibmcfklddeaaDoorWLast
import Derived.KernelRfl
import Derived.WalkKit
import Derived.Below
import Derived.Lib.LaidTab
import Derived.Lib.ItoaNum
import Derived.Lib.SmallJoins
import Derived.Lib.AppendIntMem
namespace Go.Proofs.YtihibmcfklddeaaDoorW.PrintWords
open Go.RowKit
structure Gl (w : World) : Prop where
  maxLen : ∃ m, w.cell? ⟨0, 0, none⟩ = some (.int .i64 m)
  pow10 : Lib.TabIs Tryd.prog w "internal/strconv.uint64pow10" .u64 Lib.pow10Tab
  errSyntax : ∃ ev, w.cell? ⟨1, 0, none⟩ = some ev ∧ (ev = .nilIface ∨ ∃ te pe, ev = .iface te pe)
  errRange : ∃ ev, w.cell? ⟨2, 0, none⟩ = some ev ∧ (ev = .nilIface ∨ ∃ te pe, ev = .iface te pe)
theorem pow10_at : (Tryd.prog.globalNamed "internal/strconv.uint64pow10").isSome = true := by kernel_rfl
theorem Gl.below {w w' : World} (h : Gl w) (hb : Below w.heap.size w w') : Gl w' := by
  obtain ⟨m, hm⟩ := h.maxLen
  obtain ⟨g, hg⟩ := Option.isSome_iff_exists.1 pow10_at
  obtain ⟨e1, h1, h1'⟩ := h.errSyntax
  obtain ⟨e2, h2, h2'⟩ := h.errRange
  exact ⟨⟨m, (hb.cell (World.block_lt_of_cell? w _ hm)).trans hm⟩, Joins.tab_stays hg h.pow10 hb (Nat.le_refl _), ⟨e1, (hb.cell (World.block_lt_of_cell? w _ h1)).trans h1, h1'⟩, ⟨e2, (hb.cell (World.block_lt_of_cell? w _ h2)).trans h2, h2'⟩⟩
theorem Gl.drewN {w : World} (h : Gl w) (n : Nat) : Gl (w.drewN n) := ⟨h.maxLen, h.pow10, h.errSyntax, h.errRange⟩
theorem Gl.drew {w : World} (h : Gl w) : Gl w.drew := ⟨h.maxLen, h.pow10, h.errSyntax, h.errRange⟩
end Go.Proofs.YtihibmcfklddeaaDoorW.PrintWords
