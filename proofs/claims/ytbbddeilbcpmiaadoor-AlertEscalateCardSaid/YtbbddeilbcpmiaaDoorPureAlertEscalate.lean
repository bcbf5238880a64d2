/- The plain law of AlertEscalate. -/
import Derived.Test.YtbbddeilbcpmiaaDoorPureOne
import Derived.Test.YtbbddeilbcpmiaaDoorMLawEsc
namespace Go.Proofs.YtbbddeilbcpmiaaDoor.Pure
open Go.RowKit Go.Proofs.YtbbddeilbcpmiaaDoor.Q Go.Proofs.YtbbddeilbcpmiaaDoorW.PrintWords Go.Proofs.YtbbddeilbcpmiaaDoorW.PrintLast Go.Proofs.YtbbddeilbcpmiaaDoorW.PrintMore
/-- whether an alert that may be looked at is raised -/
def escB (st si lv t d c : Int) : Bool := decide (st = 2 ∨ st = 4) && !(decide (d < 0) || decide (wrap64 (t - si) < d) || decide (c ≤ lv) || decide (16 ≤ lv))
theorem mn_ge (c lv : Int) : decide (lv ≥ mn c 16) = (decide (c ≤ lv) || decide (16 ≤ lv)) := by
  unfold mn
  rw [Bool.eq_iff_iff]
  split <;> simp <;> omega
theorem esc_prog (n : ByteArray) (v : Int) {L : List S35} (hL : L.length ≤ 11) {st si lv t d c : Int} {K : Nat} (h : ∀ k, K ≤ k → alert_at.f k n v L st si lv t = some true) (k : Nat) (hk : K + 10 ≤ k) :
    alert_Escalate.f k n v L st si lv t d c = some (if escB st si lv t d c = true then (n, v, L, 4, t, wrap64 (lv + 1), true) else (n, v, L, st, si, lv, false)) := by
  obtain ⟨k, rfl⟩ : ∃ j, k = j + 4 := ⟨k - 4, by omega⟩
  have hc := fun a b c => changed_ok n v (L := L) (by omega) st si lv a b c
  have hp := copied_ok n v (L := L) (by omega) st si lv
  have j1t : alert_Escalate.j1 (k + 3) t true n v L st si lv = some (n, v, L, st, si, lv, false) := by
    rw [alert_Escalate.j1, if_pos rfl, hp]; rfl
  have j1f : alert_Escalate.j1 (k + 3) t false n v L st si lv = some (n, v, L, 4, t, wrap64 (lv + 1), true) := by
    rw [alert_Escalate.j1, if_neg (by decide), hc]; rfl
  have j0t : alert_Escalate.j0 (k + 4) t d c true n v L st si lv = some (n, v, L, st, si, lv, false) := by
    rw [alert_Escalate.j0, if_pos rfl, hp]; rfl
  have j0f : (st = 2 ∨ st = 4) → alert_Escalate.j0 (k + 4) t d c false n v L st si lv = some (if escB st si lv t d c = true then (n, v, L, 4, t, wrap64 (lv + 1), true) else (n, v, L, st, si, lv, false)) := by
    intro hs
    rw [alert_Escalate.j0, if_neg (by decide)]
    unfold escB
    rw [decide_eq_true hs, Bool.true_and]
    by_cases c1 : d < 0
    · rw [if_pos c1, j1t, decide_eq_true c1]; rfl
    · rw [if_neg c1, decide_eq_false c1]
      by_cases c2 : wrap64 (t - si) < d
      · rw [if_pos c2, j1t, decide_eq_true c2]; rfl
      · rw [if_neg c2, decide_eq_false c2, mn_ge]
        by_cases c3 : (decide (c ≤ lv) || decide (16 ≤ lv)) = true
        · rw [c3, j1t, Bool.or_assoc, c3]; rfl
        · rw [Bool.eq_false_iff.mpr c3, j1f, Bool.or_assoc, Bool.eq_false_iff.mpr c3]; rfl
  unfold alert_Escalate.f
  rw [h _ (by omega), Option.bind_some, if_pos rfl]
  by_cases s2 : st = 2
  · rw [if_pos s2]; exact j0f (.inl s2)
  · rw [if_neg s2]
    by_cases s4 : st = 4
    · rw [show (st != 4) = false from by simp [s4]]; exact j0f (.inr s4)
    · rw [show (st != 4) = true from by simp [s4], j0t]
      unfold escB
      rw [decide_eq_false (by omega), Bool.false_and]; rfl
theorem esc_ref (n : ByteArray) (v : Int) (L : List S35) {st si lv t d c : Int} {K : Nat} (h : ∀ k, K ≤ k → intervalmonref28_At.f k n v L st si lv t = some true) (k : Nat) (hk : K + 10 ≤ k) :
    intervalmonref28_Escalate.f k n v L st si lv t d c = some (if escB st si lv t d c = true then (n, v, L, 4, t, wrap64 (lv + 1), true) else (n, v, L, st, si, lv, false)) := by
  have hw := fun a b c => with_ok n v L st si lv a b c
  have key : (st = 2 ∨ st = 4) → (if d < 0 then (some (n, v, L, st, si, lv, false)) else (if (wrap64 (t - si)) < d then (some (n, v, L, st, si, lv, false)) else (if lv ≥ c then (some (n, v, L, st, si, lv, false)) else (if lv ≥ 16 then (some (n, v, L, st, si, lv, false)) else some (n, v, L, 4, t, wrap64 (lv + 1), true))))) = some (if escB st si lv t d c = true then (n, v, L, 4, t, wrap64 (lv + 1), true) else (n, v, L, st, si, lv, false)) := by
    intro hs
    unfold escB
    rw [decide_eq_true hs, Bool.true_and]
    by_cases c1 : d < 0
    · rw [if_pos c1, decide_eq_true c1]; rfl
    · rw [if_neg c1, decide_eq_false c1]
      by_cases c2 : wrap64 (t - si) < d
      · rw [if_pos c2, decide_eq_true c2]; rfl
      · rw [if_neg c2, decide_eq_false c2]
        by_cases c3 : lv ≥ c
        · rw [if_pos c3, decide_eq_true (show c ≤ lv from c3)]; rfl
        · rw [if_neg c3, decide_eq_false (show ¬ c ≤ lv from c3)]
          by_cases c4 : lv ≥ 16
          · rw [if_pos c4, decide_eq_true (show 16 ≤ lv from c4)]; rfl
          · rw [if_neg c4, decide_eq_false (show ¬ 16 ≤ lv from c4)]; rfl
  unfold intervalmonref28_Escalate.f
  rw [h _ (by omega), Option.bind_some, if_pos rfl, hw]
  by_cases s2 : st = 2
  · rw [if_pos s2]; exact key (.inl s2)
  · rw [if_neg s2]
    by_cases s4 : st = 4
    · rw [if_pos s4]; exact key (.inr s4)
    · rw [if_neg s4]
      unfold escB
      rw [decide_eq_false (by omega), Bool.false_and]; rfl
theorem esc_good (n : ByteArray) (v : Int) {L : List S35} (hL : L.length ≤ 11) (st si lv t d c : Int) : ∃ K, ∀ k, K ≤ k → EscGood k n v L st si lv t d c := by
  obtain ⟨b, K, h⟩ := at_both n v L st si lv t
  refine ⟨K + 120, fun k hk => ⟨?_⟩⟩
  have hs := fun st si lv => same_refl n v (L := L) (by omega) st si lv (k := k) (by omega)
  cases b
  · refine ⟨n, v, L, st, si, lv, n, v, L, st, si, lv, false, ?_, ?_, hs _ _ _⟩
    · obtain ⟨k, rfl⟩ : ∃ j, k = j + 1 := ⟨k - 1, by omega⟩
      have hp := copied_ok n v (L := L) (by omega) st si lv
      unfold alert_Escalate.f
      rw [(h (k + 1) (by omega)).1, Option.bind_some, if_neg (by decide), alert_Escalate.j0, if_pos rfl, hp]
      rfl
    · unfold intervalmonref28_Escalate.f
      rw [(h k (by omega)).2]
      rfl
  · have e1 := esc_prog n v hL (d := d) (c := c) (fun k hk => (h k hk).1) k (by omega)
    have e2 := esc_ref n v L (d := d) (c := c) (fun k hk => (h k hk).2) k (by omega)
    revert e1 e2
    generalize escB st si lv t d c = q
    intro e1 e2
    cases q
    · exact ⟨n, v, L, st, si, lv, n, v, L, st, si, lv, false, e1, e2, hs _ _ _⟩
    · exact ⟨n, v, L, 4, t, wrap64 (lv + 1), n, v, L, 4, t, wrap64 (lv + 1), true, e1, e2, hs _ _ _⟩
theorem AlertEscalate : intervalmonlaw28_AlertEscalate.Pure := by
  intro l0 a1 a2 m0 m1 m2 _ _ hw h1 h2 _ _ _
  obtain ⟨v, L, st, si, lv, hA, hg, hx, hr⟩ := alert_ok2 hw
  obtain ⟨n', v', L', st', si', lv', hB, hl', hx'⟩ := bent_ok2 hw h1 h2 hot v (by have := hg.1; omega) hx st si lv
  obtain ⟨K1, g1⟩ := esc_good hot v (L := L) (by have := hg.1; omega) st si lv m0 m1 m2
  obtain ⟨K2, g2⟩ := esc_good n' v' hl' st' si' lv' m0 m1 m2
  exact ⟨K1 + K2 + 20, hot, v, L, st, si, lv, n', v', L', st', si', lv', hA _ (by omega), hB _ (by omega), g1 _ (by omega), g2 _ (by omega)⟩
end Go.Proofs.YtbbddeilbcpmiaaDoor.Pure
