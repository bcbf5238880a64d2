/- Plain facts on numbers drawn from a list. -/
import Derived.Test.YtbbddeilbcpmiaaDoorPureBase
import Derived.Test.YtbbddeilbcpmiaaDoorQ3
namespace Go.Proofs.YtbbddeilbcpmiaaDoor.Pure
open Go.RowKit Go.Proofs.YtbbddeilbcpmiaaDoor.Q Go.Proofs.YtbbddeilbcpmiaaDoorW.PrintWords Go.Proofs.YtbbddeilbcpmiaaDoorW.PrintLast Go.Proofs.YtbbddeilbcpmiaaDoorW.PrintMore
set_option linter.unusedVariables false
theorem pick_okN {l : List Int} (hw : ∀ x ∈ l, (Lit.int .i64 x).wf = true) (a : Int) {m : Int} (hm : 0 < m) : ∃ t, intervalmonref01_Pick.f l a m = some t ∧ 0 ≤ t ∧ t < m := by
  unfold intervalmonref01_Pick.f
  by_cases c1 : a < 0
  · rw [if_pos c1]; exact ⟨0, rfl, by omega, hm⟩
  · rw [if_neg c1]
    by_cases c2 : a ≥ (l.length : Int)
    · rw [if_pos c2]; exact ⟨0, rfl, by omega, hm⟩
    · rw [if_neg c2, if_pos (by omega), if_pos (by omega)]
      have hx : (Lit.int .i64 (rd l a)).wf = true := by
        apply hw
        unfold rd
        exact getD_mem (by omega)
      obtain ⟨t, ht, h0, h1⟩ := around_ok hx hm
      rw [ht]
      exact ⟨t, rfl, h0, h1⟩
theorem snoc_ltN {α : Type} (bs : List α) (b d : α) {j : Nat} (h : j < bs.length) : (bs ++ [b]).getD j d = bs.getD j d := by
  rw [List.getD_eq_getElem?_getD, List.getD_eq_getElem?_getD, List.getElem?_append_left h]
theorem snoc_eqN {α : Type} (bs : List α) (b d : α) {j : Nat} (h : j = bs.length) : (bs ++ [b]).getD j d = b := by
  subst h
  rw [List.getD_eq_getElem?_getD, List.getElem?_append_right (Nat.le_refl _)]
  simp
end Go.Proofs.YtbbddeilbcpmiaaDoor.Pure
