/- Plain facts for the laws of chapter 28: both sides call the same alerts valid. -/
import Derived.Test.YtbbddeilbcpmiaaDoorPureRefLabels
import Derived.Test.YtbbddeilbcpmiaaDoorQ14
namespace Go.Proofs.YtbbddeilbcpmiaaDoor.Pure
open Go.RowKit Go.Proofs.YtbbddeilbcpmiaaDoor.Q Go.Proofs.YtbbddeilbcpmiaaDoorW.PrintWords Go.Proofs.YtbbddeilbcpmiaaDoorW.PrintLast Go.Proofs.YtbbddeilbcpmiaaDoorW.PrintMore
set_option linter.unusedVariables false
set_option linter.unusedSimpArgs false

/-- since and level go with the state -/
def stB (st si lv : Int) : Bool := decide (0 ≤ si) && decide (si ≤ 1048576) && ((decide (0 ≤ st) && decide (st ≤ 2) && decide (lv = 0)) || (decide (st = 3) && decide (0 ≤ lv) && decide (lv ≤ 16)) || (decide (st = 4) && decide (1 ≤ lv) && decide (lv ≤ 16)))

theorem tail_st {st si lv : Int} (h0 : 0 ≤ st) (h4 : st ≤ 4) : alert_Valid.tail st si lv = stB st si lv := by
  have hs : st = 0 ∨ st = 1 ∨ st = 2 ∨ st = 3 ∨ st = 4 := by omega
  have a0 : alert_Valid.lo 0 = 0 := rfl
  have a1 : alert_Valid.lo 1 = 0 := rfl
  have a2 : alert_Valid.lo 2 = 0 := rfl
  have a3 : alert_Valid.lo 3 = 0 := rfl
  have a4 : alert_Valid.lo 4 = 1 := rfl
  have b0 : alert_Valid.hi 0 = 0 := rfl
  have b1 : alert_Valid.hi 1 = 0 := rfl
  have b2 : alert_Valid.hi 2 = 0 := rfl
  have b3 : alert_Valid.hi 3 = 16 := rfl
  have b4 : alert_Valid.hi 4 = 16 := rfl
  unfold alert_Valid.tail stB
  by_cases c1 : si < 0
  · rw [if_pos c1, decide_eq_false (by omega : ¬ 0 ≤ si)]; rfl
  · rw [if_neg c1, decide_eq_true (by omega : 0 ≤ si)]
    by_cases c2 : 1048576 < si
    · rw [if_pos c2, decide_eq_false (by omega : ¬ si ≤ 1048576)]; rfl
    · rw [if_neg c2, decide_eq_true (by omega : si ≤ 1048576)]
      have e : ∀ (l h : Int), (if lv < l then false else decide (lv ≤ h)) = (decide (l ≤ lv) && decide (lv ≤ h)) := by
        intro l h
        by_cases c : lv < l
        · rw [if_pos c, decide_eq_false (by omega : ¬ l ≤ lv)]; rfl
        · rw [if_neg c, decide_eq_true (by omega : l ≤ lv)]; rfl
      rw [e]
      have z : (decide (0 ≤ lv) && decide (lv ≤ 0)) = decide (lv = 0) := by
        rw [← Bool.decide_and]
        exact decide_eq_decide.mpr (by omega)
      rcases hs with rfl | rfl | rfl | rfl | rfl
      · rw [a0, b0, z]; simp
      · rw [a1, b1, z]; simp
      · rw [a2, b2, z]; simp
      · rw [a3, b3]; simp
      · rw [a4, b4]; simp

/-- what both sides mean by a valid alert, beside its labels -/
def restV (n : ByteArray) (v st si lv : Int) : Bool := nameB n && decide (1 ≤ v) && stB st si lv

theorem stB_state {st si lv : Int} (h : stB st si lv = true) : 0 ≤ si ∧ si ≤ 1048576 ∧ ((0 ≤ st ∧ st ≤ 2 ∧ lv = 0) ∨ (st = 3 ∧ 0 ≤ lv ∧ lv ≤ 16) ∨ (st = 4 ∧ 1 ≤ lv ∧ lv ≤ 16)) := by
  unfold stB at h
  simp only [Bool.and_eq_true, Bool.or_eq_true, decide_eq_true_eq] at h
  omega
theorem stB_of {st si lv : Int} (h : 0 ≤ si ∧ si ≤ 1048576 ∧ ((0 ≤ st ∧ st ≤ 2 ∧ lv = 0) ∨ (st = 3 ∧ 0 ≤ lv ∧ lv ≤ 16) ∨ (st = 4 ∧ 1 ≤ lv ∧ lv ≤ 16))) : stB st si lv = true := by
  unfold stB
  simp only [Bool.and_eq_true, Bool.or_eq_true, decide_eq_true_eq]
  omega

theorem alert_valid_eq (k : Nat) {n : ByteArray} {v : Int} {L : List S35} {st si lv : Int} {g : Bool} (hl : labels_Valid.f k L = some g) : alert_Valid.f k n v L st si lv = some (g && restV n v st si lv) := by
  unfold alert_Valid.f restV
  rw [hl]
  by_cases c1 : nameB n = true
  · rw [if_pos c1, c1]
    by_cases c2 : v < 1
    · rw [if_pos c2, decide_eq_false (by omega : ¬ 1 ≤ v)]; simp
    · rw [if_neg c2, decide_eq_true (by omega : 1 ≤ v), Option.bind_some]
      cases g
      · rw [if_neg (by decide)]; rfl
      · rw [if_pos rfl]
        by_cases c3 : st < 0
        · have : stB st si lv = false := by
            cases h : stB st si lv
            · rfl
            · have := stB_state h; omega
          rw [if_pos c3, this]; rfl
        · rw [if_neg c3]
          by_cases c4 : 4 < st
          · have : stB st si lv = false := by
              cases h : stB st si lv
              · rfl
              · have := stB_state h; omega
            rw [if_pos c4, this]; rfl
          · rw [if_neg c4, tail_st (by omega) (by omega)]; rfl
  · rw [if_neg c1, Bool.eq_false_iff.mpr c1]; simp

theorem ref_j1 (k : Nat) {n : ByteArray} {v : Int} {L : List S35} {st si lv : Int} {x : Bool} (h0 : 0 ≤ si) (h1 : si ≤ 1048576) (hx : x = true ↔ (st = 0 ∨ st = 1 ∨ st = 2)) : intervalmonref28_Valid.j1 (k + 1) st x n v L st si lv = some (stB st si lv) := by
  have hs : ∀ b : Bool, (b = true ↔ ((0 ≤ st ∧ st ≤ 2 ∧ lv = 0) ∨ (st = 3 ∧ 0 ≤ lv ∧ lv ≤ 16) ∨ (st = 4 ∧ 1 ≤ lv ∧ lv ≤ 16))) → b = stB st si lv := by
    intro b hb
    rw [Bool.eq_iff_iff, hb]
    exact ⟨fun h => stB_of ⟨h0, h1, h⟩, fun h => (stB_state h).2.2⟩
  rw [intervalmonref28_Valid.j1]
  by_cases cx : x = true
  · have hst := hx.mp cx
    rw [if_pos cx]
    refine congrArg some (hs _ ?_)
    rw [beq_iff_eq]
    omega
  · have hst : ¬ (st = 0 ∨ st = 1 ∨ st = 2) := fun h => cx (hx.mpr h)
    rw [if_neg cx]
    by_cases c3 : st = 3
    · rw [if_pos c3]
      by_cases c : lv ≥ 0
      · rw [if_pos c]
        refine congrArg some (hs _ ?_)
        rw [decide_eq_true_eq]
        omega
      · rw [if_neg c]
        refine congrArg some (hs _ ?_)
        exact ⟨fun h => (by cases h), fun h => by omega⟩
    · rw [if_neg c3]
      by_cases c4 : st = 4
      · rw [if_pos c4]
        by_cases c : lv ≥ 1
        · rw [if_pos c]
          refine congrArg some (hs _ ?_)
          rw [decide_eq_true_eq]
          omega
        · rw [if_neg c]
          refine congrArg some (hs _ ?_)
          exact ⟨fun h => (by cases h), fun h => by omega⟩
      · rw [if_neg c4]
        refine congrArg some (hs _ ?_)
        exact ⟨fun h => (by cases h), fun h => by omega⟩

theorem ref_j0 (k : Nat) {n : ByteArray} {v : Int} {L : List S35} {st si lv : Int} (h0 : 0 ≤ si) (h1 : si ≤ 1048576) : intervalmonref28_Valid.j0 (k + 2) false n v L st si lv = some (stB st si lv) := by
  rw [intervalmonref28_Valid.j0, if_neg (by decide)]
  by_cases c0 : st = 0
  · rw [if_pos c0]
    exact ref_j1 k h0 h1 (by rw [beq_iff_eq]; omega)
  · rw [if_neg c0]
    by_cases c1 : st = 1
    · rw [if_pos c1]
      exact ref_j1 k h0 h1 (by rw [beq_iff_eq]; omega)
    · rw [if_neg c1]
      exact ref_j1 k h0 h1 (by rw [beq_iff_eq]; omega)

theorem ref_j0t (k : Nat) {n : ByteArray} {v : Int} {L : List S35} {st si lv : Int} : intervalmonref28_Valid.j0 (k + 1) true n v L st si lv = some false := by
  rw [intervalmonref28_Valid.j0, if_pos rfl]

theorem stB_out {st si lv : Int} (h : ¬ (0 ≤ si ∧ si ≤ 1048576)) : stB st si lv = false := by
  cases hx : stB st si lv
  · rfl
  · have := stB_state hx; omega

theorem ref_valid_eq (k : Nat) {n : ByteArray} {v : Int} {L : List S35} {st si lv : Int} {g : Bool} (hk : 30 ≤ k) (hl : intervalmonref05_Valid.f k L = some g) : intervalmonref28_Valid.f k n v L st si lv = some (g && restV n v st si lv) := by
  obtain ⟨k', rfl⟩ : ∃ j, k = j + 2 := ⟨k - 2, by omega⟩
  have t1 : ∀ (a : Bool), intervalmonref28_Valid.j0 (k' + 2) true n v L st si lv = some false := fun _ => ref_j0t (k' + 1)
  unfold intervalmonref28_Valid.f restV
  rw [name_ref n (by omega), Option.bind_some, hl, Option.bind_some]
  by_cases c1 : nameB n = true
  · rw [if_pos c1, c1]
    by_cases cg : g = true
    · rw [if_pos cg, cg]
      by_cases c2 : v < 1
      · rw [if_pos c2, t1 true, decide_eq_false (by omega : ¬ 1 ≤ v)]; simp
      · rw [if_neg c2, decide_eq_true (by omega : 1 ≤ v)]
        by_cases c3 : si < 0
        · rw [if_pos c3, t1 true, stB_out (by omega)]; rfl
        · rw [if_neg c3]
          by_cases c4 : si > 1048576
          · rw [decide_eq_true c4, t1 true, stB_out (by omega)]; rfl
          · rw [decide_eq_false c4, ref_j0 k' (by omega) (by omega)]; rfl
    · rw [if_neg cg, t1 true, Bool.eq_false_iff.mpr cg]; rfl
  · rw [if_neg c1, t1 true, Bool.eq_false_iff.mpr c1]; simp

/-- Both sides call the same alerts valid. -/
theorem valid_both (n : ByteArray) (v : Int) (L : List S35) (st si lv : Int) : ∃ b : Bool, (b = true ↔ goodL L ∧ restV n v st si lv = true) ∧ ∃ K, ∀ k, K ≤ k → alert_Valid.f k n v L st si lv = some b ∧ intervalmonref28_Valid.f k n v L st si lv = some b := by
  obtain ⟨g, hg, ⟨K1, h1⟩, ⟨K2, h2⟩⟩ := labels_both L
  refine ⟨g && restV n v st si lv, ?_, K1 + K2 + 30, fun k hk => ⟨alert_valid_eq k (h1 k (by omega)), ref_valid_eq k (by omega) (h2 k (by omega))⟩⟩
  rw [Bool.and_eq_true, hg]

end Go.Proofs.YtbbddeilbcpmiaaDoor.Pure
