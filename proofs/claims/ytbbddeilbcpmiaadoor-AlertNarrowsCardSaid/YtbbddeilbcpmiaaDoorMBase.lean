/- The world's fact that is carried along: what the table alert.allowed holds. -/
import Derived.Test.YtbbddeilbcpmiaaDoorProg
import Derived.Below
import Derived.Deep.Draws
import Derived.RowKit
namespace Go.Proofs.YtbbddeilbcpmiaaDoor.Q
open Go.RowKit
def tabAllowed : List Int := [0, 0, 0, 0, 0, 0, 0, 16, 1, 16]
/-- The ten cells of alert.allowed. -/
structure Allowed (w : World) : Prop where
  cell : ∀ j, j < 10 → w.cell? ⟨0, j, none⟩ = some (.int .i64 (tabAllowed.getD j 0))
theorem Allowed.below {w w1 : World} (h : Allowed w) (hb : Below w.heap.size w w1) : Allowed w1 :=
  ⟨fun j hj => (hb.cell (World.block_lt_of_cell? w _ (h.cell j hj))).trans (h.cell j hj)⟩
end Go.Proofs.YtbbddeilbcpmiaaDoor.Q
