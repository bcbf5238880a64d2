/- The plain law of AlertLadder. -/
import Derived.Test.YtbbddeilbcpmiaaDoorPureHot
import Derived.Test.YtbbddeilbcpmiaaDoorQ35
namespace Go.Proofs.YtbbddeilbcpmiaaDoor.Pure
open Go.RowKit Go.Proofs.YtbbddeilbcpmiaaDoor.Q Go.Proofs.YtbbddeilbcpmiaaDoorW.PrintWords Go.Proofs.YtbbddeilbcpmiaaDoorW.PrintLast Go.Proofs.YtbbddeilbcpmiaaDoorW.PrintMore
set_option linter.unusedVariables false
set_option linter.unusedSimpArgs false

theorem esc_fire (k : Nat) {st si lv t ev cap : Int} (hs : st = 2 ∨ st = 4) (ht : alert_Valid.tail st si lv = true) (h0 : 0 ≤ si) (h1 : si ≤ t) (h2 : t ≤ 1048576) (he : 0 ≤ ev) (hd : ev ≤ t - si) (hc : lv < cap) (h16 : lv < 16) (hl : 0 ≤ lv) :
    alert_Escalate.f (k + 3) hot 1 [] st si lv t ev cap = some (hot, 1, [], 4, t, lv + 1, true) := by
  have ha : ∀ k, alert_at.f (k + 1) hot 1 [] st si lv t = some true := fun k => at_hot k (by omega) (by omega) ht h1 h2
  have e1 : wrap64 (t - si) = t - si := w64 (by omega) (by omega)
  have e2 : wrap64 (lv + 1) = lv + 1 := w64 (by omega) (by omega)
  have hm : decide (lv ≥ mn cap 16) = false := by
    unfold mn
    split <;> simp <;> omega
  unfold alert_Escalate.f
  rw [ha]
  rcases hs with rfl | rfl
  · simp [alert_Escalate.j0, alert_Escalate.j1, e1, e2]
    rw [if_neg (by omega), if_neg (by omega)]
    simp at hm
    rw [if_neg (by omega), changed_hot]
    rfl
  · simp [alert_Escalate.j0, alert_Escalate.j1, e1, e2]
    rw [if_neg (by omega), if_neg (by omega)]
    simp at hm
    rw [if_neg (by omega), changed_hot]
    rfl

theorem esc_still (k : Nat) {st si lv t ev cap : Int} (hs : st = 2 ∨ st = 4 ∨ st = 3) (ht : alert_Valid.tail st si lv = true) (h0 : 0 ≤ si) (h1 : si ≤ t) (h2 : t ≤ 1048576) (hn : st = 3 ∨ t - si < ev ∨ cap ≤ lv ∨ 16 ≤ lv) :
    alert_Escalate.f (k + 3) hot 1 [] st si lv t ev cap = some (hot, 1, [], st, si, lv, false) := by
  have ha : ∀ k, alert_at.f (k + 1) hot 1 [] st si lv t = some true := fun k => at_hot k (by omega) (by omega) ht h1 h2
  have e1 : wrap64 (t - si) = t - si := w64 (by omega) (by omega)
  have hm : st = 3 ∨ t - si < ev ∨ mn cap 16 ≤ lv := by
    unfold mn
    split <;> omega
  unfold alert_Escalate.f
  rw [ha]
  by_cases c1 : ev < 0
  · rcases hs with rfl | rfl | rfl <;> simp [alert_Escalate.j0, alert_Escalate.j1, e1, copied_hot, c1]
  · by_cases c2 : t - si < ev
    · rcases hs with rfl | rfl | rfl <;> simp [alert_Escalate.j0, alert_Escalate.j1, e1, copied_hot, c1, c2]
    · by_cases c3 : mn cap 16 ≤ lv
      · rcases hs with rfl | rfl | rfl <;> simp [alert_Escalate.j0, alert_Escalate.j1, e1, copied_hot, c1, c2, c3]
      · obtain rfl : st = 3 := by omega
        simp [alert_Escalate.j0, copied_hot]

theorem ack_hot (k : Nat) {st si lv t : Int} (hs : st = 2 ∨ st = 4) (ht : alert_Valid.tail st si lv = true) (h1 : si ≤ t) (h2 : t ≤ 1048576) :
    alert_Ack.f (k + 1) hot 1 [] st si lv t = some (hot, 1, [], 3, t, lv, 0) := by
  have ha := at_hot k (by omega) (by omega) ht h1 h2
  unfold alert_Ack.f
  rw [ha]
  rcases hs with rfl | rfl <;> simp [changed_hot]

/-- behind the acknowledgement nothing is raised any more -/
theorem ladder_after {ev cap ack n : Int} (he : 1 ≤ ev) (hn0 : 0 ≤ n) (hn : n ≤ 16) (ha0 : 1 ≤ ack) : ∀ (d i : Nat), i + d = 100 → ack < (i : Int) →
    ∀ k, intervalmonlaw28_AlertLadder.l0 (k + 10 + 3 * d) ev cap ack n (i : Int) hot 1 [] 3 ack n = some true := by
  intro d
  induction d with
  | zero =>
    intro i hi h1 k
    have hva := valid_hot (k + 8) (st := 3) (si := ack) (lv := n) (by omega) (by omega)
    rw [tail_three (by omega) (by omega) hn0 hn] at hva
    rw [show k + 10 + 3 * 0 = (k + 9) + 1 from by omega]
    simp only [intervalmonlaw28_AlertLadder.l0]
    rw [if_neg (by omega), if_pos trivial, hva]
    rfl
  | succ d ih =>
    intro i hi h1 k
    have hes := esc_still (k + 9 + 3 * d) (st := 3) (si := ack) (lv := n) (t := i) (ev := ev) (cap := cap) (by omega) (tail_three (by omega) (by omega) hn0 hn) (by omega) (by omega) (by omega) (Or.inl rfl)
    rw [show k + 10 + 3 * (d + 1) = (k + 9 + 3 * d + 3) + 1 from by omega]
    simp only [intervalmonlaw28_AlertLadder.l0]
    rw [if_pos (by omega), hes]
    simp only [Option.bind_some]
    rw [if_neg (by omega)]
    have ih' := ih (i + 1) (by omega) (by omega) k
    rw [show k + 9 + 3 * d + 3 = (k + 10 + 3 * d) + 1 + 1 from by omega]
    simp only [intervalmonlaw28_AlertLadder.j1, intervalmonlaw28_AlertLadder.j2]
    simp
    rw [if_neg (by omega), w1 (by omega)]
    exact ih'

theorem ladder_ack (K : Nat) {ev cap ack n st si lv : Int} {i : Nat} (ca : (i : Int) = ack) (hi : i < 100) (hs : st = 2 ∨ st = 4) (ht : alert_Valid.tail st si lv = true) (h1 : si ≤ i) :
    intervalmonlaw28_AlertLadder.j2 (K + 2) ev cap ack n (i : Int) hot 1 [] st si lv = intervalmonlaw28_AlertLadder.l0 (K + 1) ev cap ack n ((i + 1 : Nat) : Int) hot 1 [] 3 ack lv := by
  have h := ack_hot K (t := i) hs ht h1 (by omega)
  have hw := w1 (show i < 4611686018427387904 by omega)
  rw [intervalmonlaw28_AlertLadder.j2, if_pos ca, h, Option.bind_some]
  dsimp only
  rw [if_pos rfl, hw, ca]

theorem ladder_stay (K : Nat) {ev cap ack n st si lv : Int} {i : Nat} (ca : ¬ (i : Int) = ack) (hi : i < 100) :
    intervalmonlaw28_AlertLadder.j2 (K + 2) ev cap ack n (i : Int) hot 1 [] st si lv = intervalmonlaw28_AlertLadder.l0 (K + 1) ev cap ack n ((i + 1 : Nat) : Int) hot 1 [] st si lv := by
  have hw := w1 (show i < 4611686018427387904 by omega)
  rw [intervalmonlaw28_AlertLadder.j2, if_neg ca, hw]

theorem ladder_l0 {ev cap ack : Int} (he : 1 ≤ ev) (he5 : ev ≤ 5) (hc0 : 0 ≤ cap) (ha0 : 1 ≤ ack) : ∀ (d i : Nat) (n st : Int), i + d = 100 → (i : Int) ≤ ack → 1 ≤ i → 0 ≤ n → n ≤ cap → n ≤ 16 → ((st = 2 ∧ n = 0) ∨ (st = 4 ∧ 1 ≤ n)) → ev * n ≤ i - 1 → (n < cap → n < 16 → (i : Int) - 1 < ev * (n + 1)) →
    ∀ k, intervalmonlaw28_AlertLadder.l0 (k + 10 + 3 * d) ev cap ack n (i : Int) hot 1 [] st (ev * n) n = some true := by
  intro d
  induction d with
  | zero =>
    intro i n st hi h1 hi1 hn0 hnc hn16 hs hle hlt k
    have h0 : 0 ≤ ev * n := Int.mul_nonneg (by omega) hn0
    have hva := valid_hot (k + 8) (st := st) (si := ev * n) (lv := n) (by omega) (by omega)
    have ht : alert_Valid.tail st (ev * n) n = true := by
      rcases hs with ⟨rfl, rfl⟩ | ⟨rfl, hn⟩
      · exact tail_low (by omega) h0 (by omega)
      · exact tail_four h0 (by omega) hn hn16
    rw [ht] at hva
    rw [show k + 10 + 3 * 0 = (k + 9) + 1 from by omega]
    simp only [intervalmonlaw28_AlertLadder.l0]
    rw [if_neg (by omega), if_pos trivial, hva]
    rfl
  | succ d ih =>
    intro i n st hi h1 hi1 hn0 hnc hn16 hs hle hlt k
    have h0 : 0 ≤ ev * n := Int.mul_nonneg (by omega) hn0
    have ht : alert_Valid.tail st (ev * n) n = true := by
      rcases hs with ⟨rfl, rfl⟩ | ⟨rfl, hn⟩
      · exact tail_low (by omega) h0 (by omega)
      · exact tail_four h0 (by omega) hn hn16
    have hs' : st = 2 ∨ st = 4 := by omega
    have hmul : ev * (n + 1) = ev * n + ev := by rw [Int.mul_add, Int.mul_one]
    have hz : ¬ ev = 0 := by omega
    rw [show k + 10 + 3 * (d + 1) = (k + 9 + 3 * d + 3) + 1 from by omega]
    simp only [intervalmonlaw28_AlertLadder.l0]
    rw [if_pos (by omega)]
    by_cases cf : n < cap ∧ n < 16 ∧ ev * (n + 1) = i
    · -- raised
      have hes := esc_fire (k + 9 + 3 * d) (st := st) (si := ev * n) (lv := n) (t := i) (ev := ev) (cap := cap) hs' ht h0 (by omega) (by omega) (by omega) (by omega) cf.1 cf.2.1 hn0
      rw [hes]
      simp only [Option.bind_some]
      have hmod : Int.tmod (i : Int) ev = 0 := by
        rw [← cf.2.2]; exact Int.mul_tmod_right _ _
      have hmn : decide (n < mn cap 16) = true := by
        unfold mn
        split <;> simp <;> omega
      rw [if_pos h1, if_neg hz, if_pos hmod, hmn]
      rw [show k + 9 + 3 * d + 3 = (k + 8 + 3 * d + 1 + 2) + 1 from by omega]
      simp only [intervalmonlaw28_AlertLadder.j1]
      rw [show wrap64 (n + 1) = n + 1 from w64 (by omega) (by omega)]
      simp only [bne_self_eq_false, Bool.false_eq_true, if_false, if_true]
      have hsi : (i : Int) = ev * (n + 1) := cf.2.2.symm
      by_cases ca : (i : Int) = ack
      · rw [ladder_ack (k + 8 + 3 * d + 1) ca (by omega) (Or.inr rfl) (tail_four (si := (i : Int)) (lv := n + 1) (by omega) (by omega) (by omega) (by omega)) (by omega)]
        have hx := ladder_after he (show 0 ≤ n + 1 by omega) (by omega) ha0 d (i + 1) (by omega) (by omega) k (cap := cap)
        rw [show k + 10 + 3 * d = k + 8 + 3 * d + 1 + 1 from by omega] at hx
        exact hx
      · rw [ladder_stay (k + 8 + 3 * d + 1) ca (by omega)]
        have ih' := ih (i + 1) (n + 1) 4 (by omega) (by omega) (by omega) (by omega) (by omega) (by omega) (by omega) (by omega)
          (by intro _ _
              have hm2 : ev * (n + 1 + 1) = ev * (n + 1) + ev := by rw [Int.mul_add ev (n + 1) 1, Int.mul_one]
              omega) k
        rw [← hsi] at ih'
        rw [show k + 10 + 3 * d = k + 8 + 3 * d + 1 + 1 from by omega] at ih'
        exact ih'
    · have hes := esc_still (k + 9 + 3 * d) (st := st) (si := ev * n) (lv := n) (t := i) (ev := ev) (cap := cap) (by omega) ht h0 (by omega) (by omega) (by omega)
      rw [hes]
      simp only [Option.bind_some]
      have hexp : (Int.tmod (i : Int) ev = 0 → decide (n < mn cap 16) = false) := by
        intro hmod
        by_cases cc : n < cap ∧ n < 16
        · exfalso
          have hl1 := hlt cc.1 cc.2
          have hne : ¬ ev * (n + 1) = i := fun h => cf ⟨cc.1, cc.2, h⟩
          obtain ⟨q, hq⟩ := Int.dvd_of_tmod_eq_zero hmod
          have hq1 : n < q := by
            by_cases hh : q ≤ n
            · have := Int.mul_le_mul_of_nonneg_left hh (show 0 ≤ ev by omega)
              exfalso
              omega
            · omega
          have hq2 : ev * (n + 1) ≤ ev * q := Int.mul_le_mul_of_nonneg_left (by omega) (by omega)
          omega
        · unfold mn
          split <;> simp <;> omega
      rw [if_pos h1, if_neg hz]
      have goal2 : ∀ (b : Bool), b = false → intervalmonlaw28_AlertLadder.j1 (k + 9 + 3 * d + 3) ev cap ack n (i : Int) false (false != b) hot 1 [] st (ev * n) n = some true := by
        rintro b rfl
        rw [show k + 9 + 3 * d + 3 = (k + 9 + 3 * d + 1) + 1 + 1 from by omega]
        simp only [intervalmonlaw28_AlertLadder.j1]
        simp only [bne_self_eq_false, Bool.false_eq_true, if_false]
        by_cases ca : (i : Int) = ack
        · rw [ladder_ack (k + 9 + 3 * d) ca (by omega) hs' ht (by omega)]
          have hx := ladder_after he hn0 hn16 ha0 d (i + 1) (by omega) (by omega) k (cap := cap)
          rw [show k + 10 + 3 * d = k + 9 + 3 * d + 1 from by omega] at hx
          exact hx
        · rw [ladder_stay (k + 9 + 3 * d) ca (by omega)]
          have hx := ih (i + 1) n st (by omega) (by omega) (by omega) hn0 hnc hn16 hs (by omega)
            (by intro hx hy
                have hl1 := hlt hx hy
                have hne : ¬ ev * (n + 1) = i := fun h => cf ⟨hx, hy, h⟩
                omega) k
          rw [show k + 10 + 3 * d = k + 9 + 3 * d + 1 from by omega] at hx
          exact hx
      by_cases cm : Int.tmod (i : Int) ev = 0
      · rw [if_pos cm]
        exact goal2 _ (hexp cm)
      · rw [if_neg cm]
        exact goal2 _ rfl

theorem AlertLadder : intervalmonlaw28_AlertLadder.Pure := by
  intro a0 a1 a2 h0 h1 h2
  refine ⟨1000, ?_⟩
  unfold intervalmonlaw28_AlertLadder.f
  obtain ⟨b, hb, b0, b1⟩ := around_ok h0 (m := 5) (by omega)
  obtain ⟨c, hc, c0, c1⟩ := around_ok h1 (m := 21) (by omega)
  obtain ⟨e, he, e0, e1⟩ := around_ok h2 (m := 150) (by omega)
  obtain ⟨si, s0, s1, _, hst⟩ := step_hot 994 (st := 0) (si := 0) (v := 2) (t := 0) (by omega) (by omega) (by omega) (by omega) (by omega)
  obtain rfl : si = 0 := by omega
  have hst' : alert_Step.f 1000 (⟨#[104, 111, 116]⟩ : ByteArray) 1 ([] : List S35) 0 0 0 2 0 = some (hot, 1, [], 2, 0, 0, true) := hst
  rw [hb, hc, he]
  simp only [Option.bind_some]
  rw [hst']
  simp only [Option.bind_some, if_true]
  rw [w64 (a := 1 + b) (by omega) (by omega), w64 (a := 1 + e) (by omega) (by omega)]
  have h := ladder_l0 (ev := 1 + b) (cap := c) (ack := 1 + e) (by omega) (by omega) c0 (by omega) 99 1 0 2 (by omega) (by omega) (by omega) (by omega) (by omega) (by omega) (by omega) (by omega) (by omega) (1000 - 10 - 297)
  rw [Int.mul_zero] at h
  exact h
end Go.Proofs.YtbbddeilbcpmiaaDoor.Pure
