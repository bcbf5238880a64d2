/- The plain law of AlertTruths. -/
import Derived.Test.YtbbddeilbcpmiaaDoorPureTruths
import Derived.Test.YtbbddeilbcpmiaaDoorQ29
namespace Go.Proofs.YtbbddeilbcpmiaaDoor.Pure
open Go.RowKit Go.Proofs.YtbbddeilbcpmiaaDoor.Q Go.Proofs.YtbbddeilbcpmiaaDoorW.PrintWords Go.Proofs.YtbbddeilbcpmiaaDoorW.PrintLast Go.Proofs.YtbbddeilbcpmiaaDoorW.PrintMore
set_option linter.unusedVariables false
set_option linter.unusedSimpArgs false
theorem truthsLaw_l0 {x : List Int} {b : List Bool} (hl : x.length < 4611686018427387904) (hR : RI x.length x b) : ∀ (d i : Nat), i + d = x.length → ∀ k, d < k → intervalmonlaw28_AlertTruths.l0 k x b (i : Int) = some true := by
  intro d
  induction d with
  | zero =>
    intro i hi k hk
    obtain ⟨k, rfl⟩ : ∃ j, k = j + 1 := ⟨k - 1, by omega⟩
    rw [intervalmonlaw28_AlertTruths.l0, if_neg (by omega)]
    rfl
  | succ d ih =>
    intro i hi k hk
    obtain ⟨k, rfl⟩ : ∃ j, k = j + 1 := ⟨k - 1, by omega⟩
    have hb := hR.1
    have hi2 := hR.2 i (by omega)
    have hrec := ih (i + 1) (by omega) k (by omega)
    rw [intervalmonlaw28_AlertTruths.l0, if_pos (by omega), if_pos (by omega), rdN, rdB, w1 (by omega)]
    by_cases c2 : x.getD i 0 = 2
    · rw [if_pos c2, if_pos (by omega), if_pos (hi2.1 c2), if_neg (by omega)]
      exact hrec
    · rw [if_neg c2]
      by_cases c0 : x.getD i 0 = 0
      · rw [if_pos c0, if_pos (by omega), hi2.2 c0, if_neg (by decide)]
        exact hrec
      · rw [if_neg c0]
        exact hrec
theorem AlertTruths : intervalmonlaw28_AlertTruths.Pure := by
  intro l0 l1 a2 a3 hl0 _ hw0 hl1 _ hw1 ha2 ha3
  refine ⟨1000, ?_⟩
  unfold intervalmonlaw28_AlertTruths.f
  have hm : mn (mn (l0.length : Int) (l1.length : Int)) 40 = ((min (min l0.length l1.length) 40 : Nat) : Int) := by
    unfold mn; split <;> split <;> omega
  have hmle : min (min l0.length l1.length) 40 ≤ 40 := Nat.min_le_right _ _
  have hm0 : min (min l0.length l1.length) 40 ≤ l0.length := by omega
  have hm1 : min (min l0.length l1.length) 40 ≤ l1.length := by omega
  rw [hm]
  generalize min (min l0.length l1.length) 40 = m at *
  obtain ⟨s, hs, hsl, hsr⟩ := verdicts_ok hw0 m (by omega)
  obtain ⟨c, hc, hcl, hcr⟩ := verdicts_ok hw1 m (by omega)
  have hsl' : s.length = m := by omega
  have hcl' : c.length = m := by omega
  obtain ⟨t, ht, _, _⟩ := around_ok ha2 (m := 4611686018427387904) (by omega)
  obtain ⟨u, hu, _, _⟩ := around_ok ha3 (m := 4611686018427387904) (by omega)
  obtain ⟨T, hT, hTR⟩ := truths_ok (x0 := s) (by omega) t (k := 1000) (by omega)
  obtain ⟨U, hU, hUR⟩ := truths_ok (x0 := c) (by omega) u (k := 1000) (by omega)
  have hUR' : RI s.length c U := by rw [hsl', ← hcl']; exact hUR
  obtain ⟨r, hr, hlen, hR⟩ := latch_l0 (s := s) (c := c) (by omega) (by omega) hsr hcr hTR hUR' s.length 0 [] [] false false false (by omega) rfl ⟨rfl, fun j hj => by omega⟩ (by simp) (by simp)
  have hr' : intervalmonref28_Latch.f 1000 T U = some r := hr 1000 (by omega)
  have hy : alert_Hysteresis.f s c = some (hyGo s c s.length 0 false false []) := by
    unfold alert_Hysteresis.f
    rw [if_pos (by omega), show min s.length c.length = s.length by omega]
  rw [hs 1000 (by omega), hc 1000 (by omega)]
  simp only [Option.bind_some]
  rw [hy]
  simp only [Option.bind_some]
  rw [ht]
  simp only [Option.bind_some]
  rw [hT]
  simp only [Option.bind_some]
  rw [hu]
  simp only [Option.bind_some]
  rw [hU]
  simp only [Option.bind_some]
  rw [hr']
  simp only [Option.bind_some]
  generalize hyGo s c s.length 0 false false [] = z at *
  have hz : hyGo s c s.length ((0 : Nat) : Int) false false [] = hyGo s c s.length 0 false false [] := rfl
  have hrl := hR.1
  rw [if_pos (by omega)]
  exact truthsLaw_l0 (by omega) (by rw [hlen]; exact hR) z.length 0 (by omega) 1000 (by omega)
end Go.Proofs.YtbbddeilbcpmiaaDoor.Pure
