/- The plain law of AlertValid. -/
import Derived.Test.YtbbddeilbcpmiaaDoorPureBent
import Derived.Test.YtbbddeilbcpmiaaDoorQ15
namespace Go.Proofs.YtbbddeilbcpmiaaDoor.Pure
open Go.RowKit Go.Proofs.YtbbddeilbcpmiaaDoor.Q Go.Proofs.YtbbddeilbcpmiaaDoorW.PrintWords Go.Proofs.YtbbddeilbcpmiaaDoorW.PrintLast Go.Proofs.YtbbddeilbcpmiaaDoorW.PrintMore
theorem AlertValid : intervalmonlaw28_AlertValid.Pure := by
  intro l0 a1 a2 _ _ hw h1 h2
  obtain ⟨v, L, st, si, lv, hA, hg, hr⟩ := alert_ok hw
  obtain ⟨⟨r1, r2, r3, r4, r5, r6⟩, hB⟩ := bent_ok hw h1 h2 hot v L st si lv
  obtain ⟨b, hb, K1, hV⟩ := valid_both hot v L st si lv
  obtain ⟨c, _, K2, hX⟩ := valid_both r1 r2 r3 r4 r5 r6
  obtain rfl : b = true := hb.mpr ⟨hg, hr⟩
  refine ⟨K1 + K2 + 20, ?_⟩
  have eA := hA (K1 + K2 + 20) (by omega)
  have eB := hB (K1 + K2 + 20) (by omega)
  have eV := (hV (K1 + K2 + 20) (by omega)).1
  obtain ⟨eX, eY⟩ := hX (K1 + K2 + 20) (by omega)
  unfold intervalmonlaw28_AlertValid.f
  rw [eA, Option.bind_some]
  dsimp only
  rw [eB, Option.bind_some, eV, Option.bind_some, if_pos rfl]
  dsimp only
  rw [eX, Option.bind_some, eY, Option.bind_some, if_pos (by simp)]
  rfl
end Go.Proofs.YtbbddeilbcpmiaaDoor.Pure
