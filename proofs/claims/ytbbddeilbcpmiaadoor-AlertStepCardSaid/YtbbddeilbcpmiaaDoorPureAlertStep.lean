/- The plain law of AlertStep. -/
import Derived.Test.YtbbddeilbcpmiaaDoorPureOne
import Derived.Test.YtbbddeilbcpmiaaDoorMLawStep
namespace Go.Proofs.YtbbddeilbcpmiaaDoor.Pure
open Go.RowKit Go.Proofs.YtbbddeilbcpmiaaDoor.Q Go.Proofs.YtbbddeilbcpmiaaDoorW.PrintWords Go.Proofs.YtbbddeilbcpmiaaDoorW.PrintLast Go.Proofs.YtbbddeilbcpmiaaDoorW.PrintMore
theorem first_vok {L : List S35} (h : ∀ e ∈ L, VOk e) : 0 < L.length → (rd_T35 L 0).f1.toList ≠ [115, 112, 111, 105, 108, 101, 100] := by
  intro h0
  refine h _ ?_
  unfold rd_T35
  rw [List.getD_eq_getElem?_getD, List.getElem?_eq_getElem (by simpa using h0)]
  exact List.getElem_mem _
theorem step_prog (n : ByteArray) (v : Int) {L : List S35} (hL : L.length ≤ 11) {st si lv a t : Int} {K : Nat} (h : ∀ k, K ≤ k → alert_at.f k n v L st si lv t = some true) (k : Nat) (hk : K + 10 ≤ k) :
    alert_Step.f k n v L st si lv a t = some (match stepS st a with | some (s, b) => (n, v, L, s, t, 0, b) | none => (n, v, L, st, si, lv, false)) := by
  obtain ⟨k, rfl⟩ : ∃ j, k = j + 4 := ⟨k - 4, by omega⟩
  have hc := fun a b c => changed_ok n v (L := L) (by omega) st si lv a b c
  have hp := copied_ok n v (L := L) (by omega) st si lv
  have ha := h (k + 3) (by omega)
  unfold alert_Step.f
  by_cases s0 : st = 0
  · rw [if_pos s0, alert_Step.j0, ha, Option.bind_some, if_pos rfl]
    by_cases a2 : a = 2
    · rw [if_pos a2, alert_Step.j1, if_pos rfl, hc]
      simp [stepS, a2, s0]
    · rw [if_neg a2, alert_Step.j1, if_neg (by decide)]
      by_cases a1 : a = 1
      · rw [if_pos a1, alert_Step.j2, if_pos (by simp [s0]), hc]
        simp [stepS, a1, s0]
      · rw [if_neg a1, alert_Step.j2, if_neg (by decide)]
        by_cases a0 : a = 0
        · rw [if_pos a0, alert_Step.j3, if_neg (by simp [s0]), hp]
          simp [stepS, a0, s0]
        · rw [if_neg a0, alert_Step.j3, if_neg (by decide), hp]
          simp [stepS, a0, a1, a2]
  · rw [if_neg s0, alert_Step.j0, ha, Option.bind_some, if_pos rfl]
    by_cases a2 : a = 2
    · rw [if_pos a2, alert_Step.j1]
      by_cases s1 : st = 1
      · rw [if_pos (by simp [s1]), hc]
        simp [stepS, a2, s1]
      · rw [if_neg (by simp [s1]), if_neg (by omega), alert_Step.j2, if_neg (by decide), if_neg (by omega), alert_Step.j3, if_neg (by decide), hp]
        simp [stepS, a2, s0, s1]
    · rw [if_neg a2, alert_Step.j1, if_neg (by decide)]
      by_cases a1 : a = 1
      · rw [if_pos a1, alert_Step.j2, if_neg (by simp [s0]), if_neg (by omega), alert_Step.j3, if_neg (by decide), hp]
        simp [stepS, a1, s0]
      · rw [if_neg a1, alert_Step.j2, if_neg (by decide)]
        by_cases a0 : a = 0
        · rw [if_pos a0, alert_Step.j3, if_pos (by simp [s0]), hc]
          simp [stepS, a0, s0]
        · rw [if_neg a0, alert_Step.j3, if_neg (by decide), hp]
          simp [stepS, a0, a1, a2]
theorem step_ref (n : ByteArray) (v : Int) (L : List S35) {st si lv a t : Int} {k : Nat} {b : Bool} (h : intervalmonref28_At.f k n v L st si lv t = some b) :
    intervalmonref28_Step.g k n v L st si lv a t = some (if b = true then (match stepS st a with | some (s, r) => (n, v, L, s, t, 0, r) | none => (n, v, L, st, si, lv, false)) else (n, v, L, st, si, lv, false)) := by
  unfold intervalmonref28_Step.g
  rw [h, Option.bind_some]
  cases b <;> rfl
theorem step_good (n : ByteArray) (v : Int) {L : List S35} (hL : L.length ≤ 11) (hx : ∀ e ∈ L, VOk e) (st si lv a t : Int) : ∃ K, ∀ k, K ≤ k → StepGood k n v L st si lv a t := by
  obtain ⟨b, K, h⟩ := at_both n v L st si lv t
  refine ⟨K + 120, fun k hk => ⟨?_, first_vok hx⟩⟩
  have hs := fun st si lv => same_refl n v (L := L) (by omega) st si lv (k := k) (by omega)
  cases b
  · refine ⟨n, v, st, si, lv, n, v, L, st, si, lv, false, ?_, ?_, hs _ _ _⟩
    · obtain ⟨k, rfl⟩ : ∃ j, k = j + 1 := ⟨k - 1, by omega⟩
      have hp := copied_ok n v (L := L) (by omega) st si lv
      have e : ∀ x, alert_Step.j0 (k + 1) a t x n v L st si lv = some (n, v, L, st, si, lv, false) := by
        intro x
        rw [alert_Step.j0, (h k (by omega)).1, Option.bind_some, if_neg (by decide), hp]
        rfl
      unfold alert_Step.f
      rw [e, e]
      split <;> rfl
    · exact step_ref n v L (h k (by omega)).2
  · have e1 := step_prog n v hL (a := a) (fun k hk => (h k hk).1) k (by omega)
    have e2 := step_ref n v L (a := a) (h k (by omega)).2
    rw [if_pos rfl] at e2
    revert e1 e2
    generalize stepS st a = q
    intro e1 e2
    rcases q with _ | ⟨s, b⟩
    · exact ⟨n, v, st, si, lv, n, v, L, st, si, lv, false, e1, e2, hs _ _ _⟩
    · exact ⟨n, v, s, t, 0, n, v, L, s, t, 0, b, e1, e2, hs _ _ _⟩
theorem AlertStep : intervalmonlaw28_AlertStep.Pure := by
  intro l0 a1 a2 a3 a4 _ _ hw h1 h2 h3 h4
  obtain ⟨v, L, st, si, lv, hA, hg, hx, hr⟩ := alert_ok2 hw
  obtain ⟨n', v', L', st', si', lv', hB, hl', hx'⟩ := bent_ok2 hw h1 h2 hot v (by have := hg.1; omega) hx st si lv
  obtain ⟨K1, g1⟩ := step_good hot v (L := L) (by have := hg.1; omega) hx st si lv a3 a4
  obtain ⟨K2, g2⟩ := step_good n' v' hl' hx' st' si' lv' a3 a4
  exact ⟨K1 + K2 + 20, hot, v, L, st, si, lv, n', v', L', st', si', lv', hA _ (by omega), hB _ (by omega), g1 _ (by omega), g2 _ (by omega)⟩
end Go.Proofs.YtbbddeilbcpmiaaDoor.Pure
