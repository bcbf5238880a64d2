/- Plain facts for the laws of chapter 28: the alert of the laws' own row, stepped and raised. -/
import Derived.Test.YtbbddeilbcpmiaaDoorPureBase
import Derived.Test.YtbbddeilbcpmiaaDoorQ17
namespace Go.Proofs.YtbbddeilbcpmiaaDoor.Pure
open Go.RowKit Go.Proofs.YtbbddeilbcpmiaaDoor.Q Go.Proofs.YtbbddeilbcpmiaaDoorW.PrintWords Go.Proofs.YtbbddeilbcpmiaaDoorW.PrintLast Go.Proofs.YtbbddeilbcpmiaaDoorW.PrintMore
set_option linter.unusedVariables false
set_option linter.unusedSimpArgs false

def hot : ByteArray := ⟨#[104, 111, 116]⟩

theorem hot_name : nameB hot = true := by kernel_rfl
theorem nil_New : labels_New.f [] = some ([], 0) := by kernel_rfl
theorem nil_Valid (k : Nat) : labels_Valid.f (k + 1) [] = some true := by
  unfold labels_Valid.f
  rw [nil_New]
  rfl

theorem valid_hot (k : Nat) {st si lv : Int} (h0 : 0 ≤ st) (h4 : st ≤ 4) : alert_Valid.f (k + 1) hot 1 [] st si lv = some (alert_Valid.tail st si lv) := by
  unfold alert_Valid.f
  rw [if_pos hot_name, if_neg (by omega), nil_Valid]
  simp only [Option.bind_some, if_true]
  rw [if_neg (by omega), if_neg (by omega)]

theorem tail_low {st si : Int} (h : st = 0 ∨ st = 1 ∨ st = 2) (h0 : 0 ≤ si) (h1 : si ≤ 1048576) : alert_Valid.tail st si 0 = true := by
  unfold alert_Valid.tail
  rw [if_neg (by omega), if_neg (by omega)]
  rcases h with rfl | rfl | rfl <;> rfl

theorem tail_three {si lv : Int} (h0 : 0 ≤ si) (h1 : si ≤ 1048576) (l0 : 0 ≤ lv) (l1 : lv ≤ 16) : alert_Valid.tail 3 si lv = true := by
  unfold alert_Valid.tail
  have e1 : alert_Valid.lo 3 = 0 := rfl
  have e2 : alert_Valid.hi 3 = 16 := rfl
  rw [if_neg (by omega), if_neg (by omega), e1, e2, if_neg (by omega)]
  simp; omega

theorem tail_four {si lv : Int} (h0 : 0 ≤ si) (h1 : si ≤ 1048576) (l0 : 1 ≤ lv) (l1 : lv ≤ 16) : alert_Valid.tail 4 si lv = true := by
  unfold alert_Valid.tail
  have e1 : alert_Valid.lo 4 = 1 := rfl
  have e2 : alert_Valid.hi 4 = 16 := rfl
  rw [if_neg (by omega), if_neg (by omega), e1, e2, if_neg (by omega)]
  simp; omega

theorem at_hot (k : Nat) {st si lv t : Int} (h0 : 0 ≤ st) (h4 : st ≤ 4) (ht : alert_Valid.tail st si lv = true) (h1 : si ≤ t) (h2 : t ≤ 1048576) : alert_at.f (k + 1) hot 1 [] st si lv t = some true := by
  unfold alert_at.f
  rw [valid_hot k h0 h4, ht]
  simp only [Option.bind_some, if_true]
  rw [if_pos (by omega)]
  simp; omega

theorem copied_hot (st si lv : Int) : alert_copied.f hot 1 [] st si lv = some (hot, 1, [], st, si, lv) := rfl
theorem changed_hot (st si lv a b c : Int) : alert_changed.f hot 1 [] st si lv a b c = some (hot, 1, [], a, b, c) := rfl

def stepTo (st v : Int) : Int := if v = 2 then 2 else if v = 1 then (if st = 0 then 1 else st) else 0
theorem step_hot (k : Nat) {st si v t : Int} (hs : st = 0 ∨ st = 1 ∨ st = 2) (hv : v = 0 ∨ v = 1 ∨ v = 2) (h0 : 0 ≤ si) (h1 : si ≤ t) (h2 : t ≤ 1048576) :
    ∃ si', 0 ≤ si' ∧ si' ≤ t ∧ (st = 0 → v = 2 → si' = t) ∧ alert_Step.f (k + 6) hot 1 [] st si 0 v t = some (hot, 1, [], stepTo st v, si', 0, decide (v = 2 ∧ st ≠ 2)) := by
  have ha : ∀ k, alert_at.f (k + 1) hot 1 [] st si 0 t = some true := fun k => at_hot k (by omega) (by omega) (tail_low hs h0 (by omega)) h1 h2
  have hc := copied_hot st si 0
  have hh := changed_hot st si 0
  rcases hs with rfl | rfl | rfl <;> rcases hv with rfl | rfl | rfl
  all_goals first
    | (refine ⟨si, h0, h1, ?_, ?_⟩
       · intro a b; first | exact absurd a (by decide) | exact absurd b (by decide)
       · simp [alert_Step.f, alert_Step.j0, alert_Step.j1, alert_Step.j2, alert_Step.j3, ha, hc, hh, stepTo]; done)
    | (refine ⟨t, by omega, by omega, fun _ _ => rfl, ?_⟩
       simp [alert_Step.f, alert_Step.j0, alert_Step.j1, alert_Step.j2, alert_Step.j3, ha, hc, hh, stepTo]; done)

end Go.Proofs.YtbbddeilbcpmiaaDoor.Pure
