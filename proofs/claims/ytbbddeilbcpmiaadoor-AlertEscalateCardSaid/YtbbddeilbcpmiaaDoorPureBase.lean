/- Plain facts for the laws of chapter 28: numbers drawn around, verdicts, runs. -/
import Derived.Test.YtbbddeilbcpmiaaDoorQ23
import Derived.Test.YtbbddeilbcpmiaaDoorQ24
import Derived.Test.YtbbddeilbcpmiaaDoorQ31b
import Derived.Test.YtbbddeilbcpmiaaDoorQ32
import Derived.Test.YtbbddeilbcpmiaaDoorQ33
namespace Go.Proofs.YtbbddeilbcpmiaaDoor.Pure
open Go.RowKit Go.Proofs.YtbbddeilbcpmiaaDoor.Q Go.Proofs.YtbbddeilbcpmiaaDoorW.PrintWords Go.Proofs.YtbbddeilbcpmiaaDoorW.PrintLast Go.Proofs.YtbbddeilbcpmiaaDoorW.PrintMore
set_option linter.unusedVariables false
set_option linter.unusedSimpArgs false

theorem wfR {a : Int} (h : (Lit.int .i64 a).wf = true) : -9223372036854775808 ≤ a ∧ a < 9223372036854775808 := by
  have := h
  simp [Lit.wf] at this
  have e1 : IntKind.i64.min = -9223372036854775808 := rfl
  have e2 : IntKind.i64.max = 9223372036854775807 := rfl
  omega

theorem w64 {a : Int} (h : -9223372036854775808 ≤ a) (h' : a < 9223372036854775808) : wrap64 a = a := by
  unfold wrap64; omega

theorem around_ok {a m : Int} (h : (Lit.int .i64 a).wf = true) (hm : 0 < m) : ∃ t, intervalmonref01_Around.f a m = some t ∧ 0 ≤ t ∧ t < m := by
  have ⟨h1, h2⟩ := wfR h
  unfold intervalmonref01_Around.f
  have hz : ¬ m = 0 := by omega
  by_cases c : a < 0
  · rw [if_pos c]
    have e1 : wrap64 (a + 1) = a + 1 := w64 (by omega) (by omega)
    have e2 : wrap64 (-(a + 1)) = -(a + 1) := w64 (by omega) (by omega)
    rw [e1, e2, if_neg hz]
    exact ⟨_, rfl, Int.tmod_nonneg _ (by omega), Int.tmod_lt_of_pos _ hm⟩
  · rw [if_neg c, if_neg hz]
    exact ⟨_, rfl, Int.tmod_nonneg _ (by omega), Int.tmod_lt_of_pos _ hm⟩

theorem bound_ok {a : Int} (h : (Lit.int .i64 a).wf = true) : ∃ t, intervalmonref01_Bound.f a 1099511627776 = some t ∧ -1099511627776 ≤ t ∧ t ≤ 1099511627776 := by
  unfold intervalmonref01_Bound.f
  have e : wrap64 (wrap64 (2 * 1099511627776) + 1) = 2199023255553 := by unfold wrap64; omega
  rw [e]
  obtain ⟨t, ht, h0, h1⟩ := around_ok h (m := 2199023255553) (by omega)
  rw [ht]
  exact ⟨_, rfl, by rw [w64] <;> omega, by rw [w64] <;> omega⟩

theorem rdN (xs : List Int) (i : Nat) : rd xs (i : Int) = xs.getD i 0 := by
  unfold rd; rfl

theorem w1 {i : Nat} (h : i < 4611686018427387904) : wrap64 ((i : Int) + 1) = ((i + 1 : Nat) : Int) := by
  rw [w64 (by omega) (by omega)]; omega

theorem getD_mem {xs : List Int} {i : Nat} (h : i < xs.length) : xs.getD i 0 ∈ xs := by
  rw [List.getD_eq_getElem?_getD, List.getElem?_eq_getElem h]; exact List.getElem_mem h

theorem verdicts_l0 {x0 : List Int} (hw : ∀ x ∈ x0, (Lit.int .i64 x).wf = true) {n m : Nat} (hm : m = min x0.length n) (hn : n < 4611686018427387904) : ∀ d i (acc : List Int), i + d = m → acc.length + d < 17592186044416 →
    ∃ r : List Int, (∀ k, d < k → intervalmonref28_Verdicts.l0 k x0 (n : Int) acc (i : Int) = some r) ∧ r.length = acc.length + d ∧ ∀ x ∈ r, x ∈ acc ∨ (0 ≤ x ∧ x ≤ 2) := by
  intro d
  induction d with
  | zero =>
    intro i acc hi hl
    refine ⟨acc, ?_, by omega, fun x hx => Or.inl hx⟩
    intro k hk
    obtain ⟨k, rfl⟩ : ∃ j, k = j + 1 := ⟨k - 1, by omega⟩
    simp only [intervalmonref28_Verdicts.l0]
    by_cases c : (i : Int) < (x0.length : Int)
    · rw [if_pos c, if_neg (by omega)]
    · rw [if_neg c]
  | succ d ih =>
    intro i acc hi hl
    have hi1 : i < x0.length := by omega
    obtain ⟨t, ht, t0, t3⟩ := around_ok (hw _ (getD_mem hi1)) (m := 3) (by omega)
    obtain ⟨r, hr, hrl, hrv⟩ := ih (i + 1) (acc ++ [t]) (by omega) (by simp; omega)
    refine ⟨r, ?_, by simp at hrl; omega, ?_⟩
    · intro k hk
      obtain ⟨k, rfl⟩ : ∃ j, k = j + 1 := ⟨k - 1, by omega⟩
      simp only [intervalmonref28_Verdicts.l0]
      rw [if_pos (by omega), if_pos (by omega), if_pos (by omega), rdN, ht, w1 (by omega)]
      simp only [Option.bind_some]
      rw [if_pos (by omega), hr k (by omega)]
    · intro x hx
      rcases hrv x hx with h | h
      · simp only [List.mem_append, List.mem_singleton] at h
        rcases h with h | rfl
        · exact Or.inl h
        · exact Or.inr (by omega)
      · exact Or.inr h

theorem verdicts_ok {x0 : List Int} (hw : ∀ x ∈ x0, (Lit.int .i64 x).wf = true) (n : Nat) (hn : n < 17592186044416) :
    ∃ r : List Int, (∀ k, n < k → intervalmonref28_Verdicts.f k x0 (n : Int) = some r) ∧ r.length = min x0.length n ∧ ∀ x ∈ r, (0 ≤ x ∧ x ≤ 2) := by
  obtain ⟨r, hr, hl, hv⟩ := verdicts_l0 hw (n := n) rfl (by omega) (min x0.length n) 0 [] (by omega) (by simp; omega)
  refine ⟨r, fun k hk => hr k (by omega), by simpa using hl, fun x hx => ?_⟩
  rcases hv x hx with h | h
  · simp at h
  · exact h

theorem sameInts_l0 {x0 : List Int} (hl : x0.length < 4611686018427387904) : ∀ d i, i + d = x0.length → ∀ k, d < k → intervalmonref01_SameInts.l0 k x0 x0 (i : Int) = some true := by
  intro d
  induction d with
  | zero =>
    intro i hi k hk
    obtain ⟨k, rfl⟩ : ∃ j, k = j + 1 := ⟨k - 1, by omega⟩
    simp only [intervalmonref01_SameInts.l0]
    rw [if_neg (by omega)]
  | succ d ih =>
    intro i hi k hk
    obtain ⟨k, rfl⟩ : ∃ j, k = j + 1 := ⟨k - 1, by omega⟩
    simp only [intervalmonref01_SameInts.l0]
    rw [if_pos (by omega), if_pos (by omega), if_pos (by omega), if_pos trivial, w1 (by omega)]
    exact ih (i + 1) (by omega) k (by omega)

theorem sameInts_ok {x0 : List Int} (hl : x0.length < 4611686018427387904) {k : Nat} (hk : x0.length < k) : intervalmonref01_SameInts.f k x0 x0 = some true := by
  unfold intervalmonref01_SameInts.f
  rw [if_pos rfl]
  exact sameInts_l0 hl x0.length 0 (by omega) k hk

theorem ints_ok {l : List Int} (n : Nat) (hn : n < 17592186044416) : intervalmonref01_Ints.f l (n : Int) = some (l.take (min l.length n)) := by
  unfold intervalmonref01_Ints.f
  have e : mn (l.length : Int) (n : Int) = ((min l.length n : Nat) : Int) := by
    unfold mn; split <;> omega
  rw [e, if_pos (by omega), if_pos (by omega)]
  rw [if_pos]
  · simp
  · simp; omega

theorem runs_l0 {l1 : List Int} {x0 : Int} (hl : l1.length < 4611686018427387904) : ∀ d i (acc : List Int) (p : Bool), i + d = l1.length → acc.length + d < 17592186044416 →
    (p = true ↔ (i ≠ 0 ∧ l1.getD (i - 1) 0 = 2)) →
    ∃ r : List Int, (∀ k, d < k → alert_Runs.l0 k x0 l1 acc l1 (l1.length : Int) (i : Int) = some r) ∧ (∀ k, d < k → intervalmonref28_Runs.l0 k x0 l1 acc p (i : Int) = some r) ∧ r.length ≤ acc.length + d := by
  intro d
  induction d with
  | zero =>
    intro i acc p hi hl' hp
    refine ⟨acc, ?_, ?_, by omega⟩
    · intro k hk
      obtain ⟨k, rfl⟩ : ∃ j, k = j + 1 := ⟨k - 1, by omega⟩
      simp only [alert_Runs.l0]
      rw [if_neg (by omega)]
    · intro k hk
      obtain ⟨k, rfl⟩ : ∃ j, k = j + 1 := ⟨k - 1, by omega⟩
      simp only [intervalmonref28_Runs.l0]
      rw [if_neg (by omega)]
  | succ d ih =>
    intro i acc p hi hl' hp
    have hq : ((l1.getD i 0 == 2) = true ↔ (i + 1 ≠ 0 ∧ l1.getD (i + 1 - 1) 0 = 2)) := by
      simp
    by_cases c2 : l1.getD i 0 = 2
    · by_cases cp : p = true
      · obtain ⟨r, ha, hb, hr⟩ := ih (i + 1) acc (l1.getD i 0 == 2) (by omega) (by omega) hq
        refine ⟨r, ?_, ?_, by omega⟩
        · intro k hk
          obtain ⟨k, rfl⟩ : ∃ j, k = j + 1 := ⟨k - 1, by omega⟩
          have hp' := hp.mp cp
          have e : wrap64 ((i : Int) - 1) = ((i - 1 : Nat) : Int) := by rw [w64] <;> omega
          simp only [alert_Runs.l0]
          rw [if_pos (by omega), if_pos (by omega), if_pos (by omega), rdN, if_pos c2, if_neg (by omega), e, if_pos (by omega), if_pos (by omega), rdN, if_pos hp'.2, w1 (by omega)]
          exact ha k (by omega)
        · intro k hk
          obtain ⟨k, rfl⟩ : ∃ j, k = j + 1 := ⟨k - 1, by omega⟩
          simp only [intervalmonref28_Runs.l0]
          rw [if_pos (by omega), if_pos (by omega), rdN, if_pos c2, if_pos cp, w1 (by omega)]
          exact hb k (by omega)
      · obtain ⟨r, ha, hb, hr⟩ := ih (i + 1) (acc ++ [wrap64 (x0 + i)]) (l1.getD i 0 == 2) (by omega) (by simp; omega) hq
        refine ⟨r, ?_, ?_, by simp at hr; omega⟩
        · intro k hk
          obtain ⟨k, rfl⟩ : ∃ j, k = j + 1 := ⟨k - 1, by omega⟩
          simp only [alert_Runs.l0]
          rw [if_pos (by omega), if_pos (by omega), if_pos (by omega), rdN, if_pos c2, w1 (by omega)]
          by_cases c0 : (i : Int) = 0
          · rw [if_pos c0, if_pos (by omega)]
            exact ha k (by omega)
          · have e : wrap64 ((i : Int) - 1) = ((i - 1 : Nat) : Int) := by rw [w64] <;> omega
            have hn : ¬ l1.getD (i - 1) 0 = 2 := fun h => cp (hp.mpr ⟨by omega, h⟩)
            rw [if_neg c0, e, if_pos (by omega), if_pos (by omega), rdN, if_neg hn, if_pos (by omega)]
            exact ha k (by omega)
        · intro k hk
          obtain ⟨k, rfl⟩ : ∃ j, k = j + 1 := ⟨k - 1, by omega⟩
          simp only [intervalmonref28_Runs.l0]
          rw [if_pos (by omega), if_pos (by omega), rdN, if_pos c2, if_neg cp, if_pos (by omega), w1 (by omega)]
          exact hb k (by omega)
    · obtain ⟨r, ha, hb, hr⟩ := ih (i + 1) acc (l1.getD i 0 == 2) (by omega) (by omega) hq
      refine ⟨r, ?_, ?_, by omega⟩
      · intro k hk
        obtain ⟨k, rfl⟩ : ∃ j, k = j + 1 := ⟨k - 1, by omega⟩
        simp only [alert_Runs.l0]
        rw [if_pos (by omega), if_pos (by omega), if_pos (by omega), rdN, if_neg c2, w1 (by omega)]
        exact ha k (by omega)
      · intro k hk
        obtain ⟨k, rfl⟩ : ∃ j, k = j + 1 := ⟨k - 1, by omega⟩
        simp only [intervalmonref28_Runs.l0]
        rw [if_pos (by omega), if_pos (by omega), rdN, if_neg c2, w1 (by omega)]
        exact hb k (by omega)

theorem runs_ok {l1 : List Int} (x0 : Int) (hl : l1.length < 17592186044416) {k : Nat} (hk : l1.length < k) : ∃ r : List Int, alert_Runs.f k x0 l1 = some r ∧ intervalmonref28_Runs.f k x0 l1 = some r ∧ r.length ≤ l1.length := by
  obtain ⟨r, ha, hb, hr⟩ := runs_l0 (x0 := x0) (l1 := l1) (by omega) l1.length 0 [] false (by omega) (by simp; omega) (by simp)
  exact ⟨r, ha k hk, hb k hk, by simpa using hr⟩

end Go.Proofs.YtbbddeilbcpmiaaDoor.Pure
