/- The plain law of AlertOnce. -/
import Derived.Test.YtbbddeilbcpmiaaDoorPureHot
import Derived.Test.YtbbddeilbcpmiaaDoorQ30
namespace Go.Proofs.YtbbddeilbcpmiaaDoor.Pure
open Go.RowKit Go.Proofs.YtbbddeilbcpmiaaDoor.Q Go.Proofs.YtbbddeilbcpmiaaDoorW.PrintWords Go.Proofs.YtbbddeilbcpmiaaDoorW.PrintLast
set_option linter.unusedVariables false
set_option linter.unusedSimpArgs false
theorem once_l0 {a1 b : Int} (hb : intervalmonref01_Around.f a1 1000 = some b) (b0 : 0 ≤ b) (b1 : b < 1000) {v : List Int} (hv : ∀ x ∈ v, 0 ≤ x ∧ x ≤ 2) (hl : v.length ≤ 40) : ∀ d i (st si : Int), i + d = v.length → (st = 0 ∨ st = 1 ∨ st = 2) → 0 ≤ si → (si ≤ b + i) →
    ∀ k, intervalmonlaw28_AlertOnce.l0 (k + 10 + 2 * d) a1 v (decide (st ≠ 2)) (i : Int) hot 1 [] st si 0 = some true := by
  intro d
  induction d with
  | zero =>
    intro i st si hi hs h0 h1 k
    have hva := valid_hot (k + 8) (st := st) (si := si) (lv := 0) (by omega) (by omega)
    rw [tail_low hs h0 (by omega)] at hva
    rw [show k + 10 + 2 * 0 = (k + 9) + 1 from by omega]
    simp only [intervalmonlaw28_AlertOnce.l0]
    rw [if_neg (by omega), hva]
    rfl
  | succ d ih =>
    intro i st si hi hs h0 h1 k
    have hr := hv _ (getD_mem (show i < v.length by omega))
    have e1 : wrap64 (b + i) = b + i := w64 (by omega) (by omega)
    obtain ⟨si', s0, s1, _, hst⟩ := step_hot (k + 5 + 2 * d) (st := st) (si := si) (v := v.getD i 0) (t := b + i) hs (by omega) h0 (by omega) (by omega)
    rw [show k + 10 + 2 * (d + 1) = (k + 10 + 2 * d + 1) + 1 from by omega]
    simp only [intervalmonlaw28_AlertOnce.l0]
    rw [if_pos (by omega), if_pos (by omega), hb]
    simp only [Option.bind_some]
    rw [rdN, e1, show k + 10 + 2 * d + 1 = k + 5 + 2 * d + 6 from by omega, hst]
    simp only [Option.bind_some]
    have ih' := ih (i + 1) (stepTo st (v.getD i 0)) si' (by omega) (by unfold stepTo; split <;> (try split) <;> (try split) <;> omega) s0 (by omega) k
    rw [show k + 5 + 2 * d + 6 = k + 10 + 2 * d + 1 from by omega]
    have hr2 : v.getD i 0 = 0 ∨ v.getD i 0 = 1 ∨ v.getD i 0 = 2 := by omega
    have hil : (i : Int) < (v.length : Int) := by omega
    have hrd : rd v (i : Int) = v.getD i 0 := rdN v i
    have hw1 := w1 (show i < 4611686018427387904 by omega)
    clear hv hst
    generalize v.getD i 0 = x at *
    rcases hs with rfl | rfl | rfl <;> rcases hr2 with rfl | rfl | rfl
    all_goals
      simp [intervalmonlaw28_AlertOnce.j1, hrd, hw1, stepTo, hil] at ih' ⊢
      exact ih'
theorem AlertOnce : intervalmonlaw28_AlertOnce.Pure := by
  intro l0 a1 hl0 _ hw ha
  refine ⟨1000, ?_⟩
  unfold intervalmonlaw28_AlertOnce.f
  obtain ⟨v, hv, hvl, hvr⟩ := verdicts_ok hw 40 (by omega)
  have hv' : intervalmonref28_Verdicts.f 1000 l0 40 = some v := hv 1000 (by omega)
  obtain ⟨b, hb, b0, b1⟩ := around_ok ha (m := 1000) (by omega)
  rw [hv']
  have h := once_l0 hb b0 b1 hvr (by omega) v.length 0 0 0 (by omega) (by omega) (by omega) (by omega) (1000 - 10 - 2 * v.length)
  rw [show 1000 - 10 - 2 * v.length + 10 + 2 * v.length = 1000 by omega] at h
  exact h
end Go.Proofs.YtbbddeilbcpmiaaDoor.Pure
