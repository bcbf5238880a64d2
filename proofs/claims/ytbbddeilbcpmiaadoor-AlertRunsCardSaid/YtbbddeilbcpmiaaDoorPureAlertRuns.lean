/- The plain law of AlertRuns. -/
import Derived.Test.YtbbddeilbcpmiaaDoorPureBase
import Derived.Test.YtbbddeilbcpmiaaDoorQ34
namespace Go.Proofs.YtbbddeilbcpmiaaDoor.Pure
open Go.RowKit Go.Proofs.YtbbddeilbcpmiaaDoor.Q Go.Proofs.YtbbddeilbcpmiaaDoorW.PrintWords Go.Proofs.YtbbddeilbcpmiaaDoorW.PrintLast
theorem AlertRuns : intervalmonlaw28_AlertRuns.Pure := by
  intro a0 l1 ha hl1 _ hw
  refine ⟨100, ?_⟩
  unfold intervalmonlaw28_AlertRuns.f
  obtain ⟨b, hb, _, _⟩ := bound_ok ha
  have hi := ints_ok (l := l1) 30 (by omega)
  obtain ⟨v, hv, hvl, _⟩ := verdicts_ok hw 30 (by omega)
  have hv := hv 100 (by omega)
  have hil : (l1.take (min l1.length 30)).length ≤ 30 := by simp; omega
  generalize l1.take (min l1.length 30) = u at hi hil
  obtain ⟨r, h1, h2, hr⟩ := runs_ok b (l1 := u) (by omega) (k := 100) (by omega)
  obtain ⟨s, h3, h4, hs⟩ := runs_ok b (l1 := v) (by omega) (k := 100) (by omega)
  have s1 := sameInts_ok (x0 := r) (by omega) (k := 100) (by omega)
  have s2 := sameInts_ok (x0 := s) (by omega) (k := 100) (by omega)
  have hi' : intervalmonref01_Ints.f l1 30 = some u := hi
  have hv' : intervalmonref28_Verdicts.f 100 l1 30 = some v := hv
  rw [hb, hi', hv']
  simp only [Option.bind_some]
  rw [h1, h2]
  simp only [Option.bind_some]
  rw [s1]
  simp only [Option.bind_some, if_true]
  rw [h3, h4]
  simp only [Option.bind_some]
  rw [s2]
  rfl
end Go.Proofs.YtbbddeilbcpmiaaDoor.Pure
