/- The plain law of AlertHysteresis. -/
import Derived.Test.YtbbddeilbcpmiaaDoorPureHyRef
import Derived.Test.YtbbddeilbcpmiaaDoorQ28
namespace Go.Proofs.YtbbddeilbcpmiaaDoor.Pure
open Go.RowKit Go.Proofs.YtbbddeilbcpmiaaDoor.Q Go.Proofs.YtbbddeilbcpmiaaDoorW.PrintWords Go.Proofs.YtbbddeilbcpmiaaDoorW.PrintLast Go.Proofs.YtbbddeilbcpmiaaDoorW.PrintMore
set_option linter.unusedVariables false
set_option linter.unusedSimpArgs false
theorem same_ev {r : List Int} (h : r.length ≤ 5) : Ev (fun k => intervalmonref01_SameInts.f k r r) true := ⟨10, fun k hk => sameInts_ok (by omega) (by omega)⟩
theorem hy_j0 {s c : List Int} (hs : s.length ≤ 5) (hc : c.length ≤ 5) : Ev (fun k => intervalmonlaw28_AlertHysteresis.j0 k s c) true := by
  obtain ⟨r, h1, h2, h3⟩ := hy_both hs hc
  obtain ⟨q, g1, g2, g3⟩ := hy_both hc hs
  obtain ⟨K2, e2⟩ := h2
  obtain ⟨K4, e4⟩ := g2
  obtain ⟨K3, e3⟩ := same_ev h3
  obtain ⟨K5, e5⟩ := same_ev g3
  refine ⟨K2 + K3 + K4 + K5 + 1, fun k hk => ?_⟩
  obtain ⟨k, rfl⟩ : ∃ j, k = j + 1 := ⟨k - 1, by omega⟩
  have f2 : intervalmonref28_Hysteresis.f k s c = some r := e2 k (by omega)
  have f3 : intervalmonref01_SameInts.f k r r = some true := e3 k (by omega)
  have f4 : intervalmonref28_Hysteresis.f k c s = some q := e4 k (by omega)
  have f5 : intervalmonref01_SameInts.f k q q = some true := e5 k (by omega)
  show intervalmonlaw28_AlertHysteresis.j0 (k + 1) s c = some true
  rw [intervalmonlaw28_AlertHysteresis.j0, h1, Option.bind_some, f2, Option.bind_some, f3, Option.bind_some, if_pos rfl, g1, Option.bind_some, f4, Option.bind_some, f5, Option.bind_some, if_pos rfl]
  rfl
theorem AlertHysteresis : intervalmonlaw28_AlertHysteresis.Pure := by
  intro l0 l1 a2 a3 hl0 _ hw0 hl1 _ hw1 ha2 ha3
  obtain ⟨s, hs, hsl, _⟩ := verdicts_ok hw0 5 (by omega)
  obtain ⟨c, hc, hcl, _⟩ := verdicts_ok hw1 5 (by omega)
  have ls : s.length ≤ 5 := by omega
  have lc : c.length ≤ 5 := by omega
  obtain ⟨r, h1, ⟨K2, e2⟩, h3⟩ := hy_both ls lc
  obtain ⟨K3, e3⟩ := same_ev h3
  by_cases c0 : (s.length : Int) > 0
  · obtain ⟨t, ht, t0, t1⟩ := around_ok ha2 (m := (s.length : Int)) c0
    obtain ⟨K4, e4⟩ := hy_j0 (s := s.set t.toNat a3) (c := c) (by rw [List.length_set]; exact ls) lc
    refine ⟨K2 + K3 + K4 + 10, ?_⟩
    have f2 : intervalmonref28_Hysteresis.f (K2 + K3 + K4 + 10) s c = some r := e2 (K2 + K3 + K4 + 10) (by omega)
    have f3 : intervalmonref01_SameInts.f (K2 + K3 + K4 + 10) r r = some true := e3 (K2 + K3 + K4 + 10) (by omega)
    have f4 := e4 (K2 + K3 + K4 + 10) (by omega)
    have fs : intervalmonref28_Verdicts.f (K2 + K3 + K4 + 10) l0 5 = some s := hs _ (by omega)
    have fc : intervalmonref28_Verdicts.f (K2 + K3 + K4 + 10) l1 5 = some c := hc _ (by omega)
    unfold intervalmonlaw28_AlertHysteresis.f
    rw [fs, Option.bind_some, fc, Option.bind_some, h1, Option.bind_some, f2, Option.bind_some, f3, Option.bind_some, if_pos rfl, if_pos c0, ht, Option.bind_some, if_pos t0, if_pos t1]
    exact f4
  · obtain ⟨K4, e4⟩ := hy_j0 ls lc
    refine ⟨K2 + K3 + K4 + 10, ?_⟩
    have f2 : intervalmonref28_Hysteresis.f (K2 + K3 + K4 + 10) s c = some r := e2 (K2 + K3 + K4 + 10) (by omega)
    have f3 : intervalmonref01_SameInts.f (K2 + K3 + K4 + 10) r r = some true := e3 (K2 + K3 + K4 + 10) (by omega)
    have f4 := e4 (K2 + K3 + K4 + 10) (by omega)
    have fs : intervalmonref28_Verdicts.f (K2 + K3 + K4 + 10) l0 5 = some s := hs _ (by omega)
    have fc : intervalmonref28_Verdicts.f (K2 + K3 + K4 + 10) l1 5 = some c := hc _ (by omega)
    unfold intervalmonlaw28_AlertHysteresis.f
    rw [fs, Option.bind_some, fc, Option.bind_some, h1, Option.bind_some, f2, Option.bind_some, f3, Option.bind_some, if_pos rfl, if_neg c0]
    exact f4
end Go.Proofs.YtbbddeilbcpmiaaDoor.Pure
