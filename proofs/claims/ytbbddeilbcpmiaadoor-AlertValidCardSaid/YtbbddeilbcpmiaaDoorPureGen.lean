/- Plain facts for the laws of chapter 28: the generated alerts. -/
import Derived.Test.YtbbddeilbcpmiaaDoorPureValid
import Derived.Test.YtbbddeilbcpmiaaDoorQ6
import Derived.Test.YtbbddeilbcpmiaaDoorQ8
namespace Go.Proofs.YtbbddeilbcpmiaaDoor.Pure
open Go.RowKit Go.Proofs.YtbbddeilbcpmiaaDoor.Q Go.Proofs.YtbbddeilbcpmiaaDoorW.PrintWords Go.Proofs.YtbbddeilbcpmiaaDoorW.PrintLast Go.Proofs.YtbbddeilbcpmiaaDoorW.PrintMore
set_option linter.unusedVariables false
set_option linter.unusedSimpArgs false

theorem pick_ok {l : List Int} (hw : ∀ x ∈ l, (Lit.int .i64 x).wf = true) (a : Int) {m : Int} (hm : 0 < m) : ∃ t, intervalmonref01_Pick.f l a m = some t ∧ 0 ≤ t ∧ t < m := by
  unfold intervalmonref01_Pick.f
  by_cases c1 : a < 0
  · rw [if_pos c1]; exact ⟨0, rfl, by omega, hm⟩
  · rw [if_neg c1]
    by_cases c2 : a ≥ (l.length : Int)
    · rw [if_pos c2]; exact ⟨0, rfl, by omega, hm⟩
    · rw [if_neg c2, if_pos (by omega), if_pos (by omega)]
      have hx : (Lit.int .i64 (rd l a)).wf = true := by
        apply hw
        unfold rd
        exact getD_mem (by omega)
      obtain ⟨t, ht, h0, h1⟩ := around_ok hx hm
      rw [ht]
      exact ⟨t, rfl, h0, h1⟩

theorem snoc_lt {α : Type} (bs : List α) (b d : α) {j : Nat} (h : j < bs.length) : (bs ++ [b]).getD j d = bs.getD j d := by
  rw [List.getD_eq_getElem?_getD, List.getD_eq_getElem?_getD, List.getElem?_append_left h]
theorem snoc_eq {α : Type} (bs : List α) (b d : α) {j : Nat} (h : j = bs.length) : (bs ++ [b]).getD j d = b := by
  subst h
  rw [List.getD_eq_getElem?_getD, List.getElem?_append_right (Nat.le_refl _)]
  simp
def names : List ByteArray := [(⟨#[97]⟩ : ByteArray), (⟨#[97, 98]⟩ : ByteArray), (⟨#[98]⟩ : ByteArray), (⟨#[106, 111, 98]⟩ : ByteArray), (⟨#[120, 95, 49]⟩ : ByteArray), (⟨#[122, 111, 110, 101]⟩ : ByteArray)]
def vals : List ByteArray := [(⟨#[97]⟩ : ByteArray), (⟨#[97, 98]⟩ : ByteArray), (⟨#[98]⟩ : ByteArray), (⟨#[120, 49]⟩ : ByteArray), (⟨#[126, 33]⟩ : ByteArray), (⟨#[48]⟩ : ByteArray)]
theorem names_ok (i : Nat) (h : i < 6) : nameB (names.getD i ByteArray.empty) = true := by
  have : i = 0 ∨ i = 1 ∨ i = 2 ∨ i = 3 ∨ i = 4 ∨ i = 5 := by omega
  rcases this with rfl | rfl | rfl | rfl | rfl | rfl <;> decide +kernel
theorem vals_ok (i : Nat) (h : i < 6) : (vals.getD i ByteArray.empty).size ≠ 0 ∧ valueB (vals.getD i ByteArray.empty) = true := by
  have : i = 0 ∨ i = 1 ∨ i = 2 ∨ i = 3 ∨ i = 4 ∨ i = 5 := by omega
  rcases this with rfl | rfl | rfl | rfl | rfl | rfl <;> exact ⟨by decide +kernel, by decide +kernel⟩
theorem names_asc (i j : Nat) (h : i < j) (hj : j < 6) : Op.bytesLess (names.getD i ByteArray.empty).toList (names.getD j ByteArray.empty).toList = true := by
  have : j = 1 ∨ j = 2 ∨ j = 3 ∨ j = 4 ∨ j = 5 := by omega
  have : i = 0 ∨ i = 1 ∨ i = 2 ∨ i = 3 ∨ i = 4 := by omega
  rcases this with rfl | rfl | rfl | rfl | rfl <;> rcases ‹j = 1 ∨ _› with rfl | rfl | rfl | rfl | rfl <;> first | (exfalso; omega) | decide +kernel

/-- labels made of the first i names, in their order -/
def MadeOf (i : Nat) (acc : List S35) : Prop := ∃ js : List Nat, js.length = acc.length ∧ js.Pairwise (· < ·) ∧ (∀ j ∈ js, j < i) ∧ ∀ m, m < acc.length → (acc.getD m z35).f0 = names.getD (js.getD m 0) ByteArray.empty ∧ ∃ v, v < 6 ∧ (acc.getD m z35).f1 = vals.getD v ByteArray.empty
theorem MadeOf.mono {i : Nat} {acc : List S35} (h : MadeOf i acc) : MadeOf (i + 1) acc := by
  obtain ⟨js, h1, h2, h3, h4⟩ := h
  exact ⟨js, h1, h2, fun j hj => by have := h3 j hj; omega, h4⟩
theorem MadeOf.snoc {i : Nat} {acc : List S35} (h : MadeOf i acc) {v : Nat} (hv : v < 6) : MadeOf (i + 1) (acc ++ [⟨names.getD i ByteArray.empty, vals.getD v ByteArray.empty⟩]) := by
  obtain ⟨js, h1, h2, h3, h4⟩ := h
  refine ⟨js ++ [i], by simp [h1], List.pairwise_append.mpr ⟨h2, List.pairwise_singleton _ _, ?_⟩, ?_, ?_⟩
  · intro a ha b hb
    rw [List.mem_singleton.mp hb]
    exact h3 a ha
  · intro j hj
    rcases List.mem_append.mp hj with h | h
    · have := h3 j h; omega
    · rw [List.mem_singleton.mp h]; omega
  · intro m hm
    by_cases c : m < acc.length
    · rw [snoc_lt acc _ z35 c, snoc_lt js _ 0 (by omega)]
      exact h4 m c
    · have e : m = acc.length := by simp at hm; omega
      rw [snoc_eq acc _ z35 e, snoc_eq js _ 0 (by omega)]
      exact ⟨rfl, v, hv, rfl⟩
theorem MadeOf.good {acc : List S35} (h : MadeOf 6 acc) (hl : acc.length ≤ 6) : goodL acc := by
  obtain ⟨js, h1, h2, h3, h4⟩ := h
  have hj : ∀ m, m < acc.length → js.getD m 0 < 6 := by
    intro m hm
    apply h3
    rw [List.getD_eq_getElem?_getD, List.getElem?_eq_getElem (by omega)]
    exact List.getElem_mem (by omega)
  refine ⟨by omega, ?_, ?_⟩
  · intro i hi
    obtain ⟨e0, v, hv, e1⟩ := h4 i hi
    unfold okL
    rw [e0, e1]
    exact ⟨names_ok _ (hj i hi), vals_ok v hv⟩
  · intro i hi
    rw [← less_iff, (h4 i (by omega)).1, (h4 (i + 1) hi).1]
    refine names_asc _ _ ?_ (hj (i + 1) hi)
    have := List.pairwise_iff_getElem.mp h2 i (i + 1) (by omega) (by omega) (by omega)
    rw [List.getD_eq_getElem?_getD, List.getD_eq_getElem?_getD, List.getElem?_eq_getElem (by omega), List.getElem?_eq_getElem (by omega)]
    exact this

theorem set_l0 {l : List Int} (hw : ∀ x ∈ l, (Lit.int .i64 x).wf = true) : ∀ (d i : Nat) (x5 : Int) (acc : List S35), i + d = 6 → acc.length ≤ i → MadeOf i acc →
    ∃ r : List S35, (∀ k, d < k → intervalmonref05_Set.l0 k l names vals x5 acc (i : Int) = some r) ∧ r.length ≤ 6 ∧ MadeOf 6 r := by
  have hn : names.length = 6 := rfl
  have hv : vals.length = 6 := rfl
  intro d
  induction d with
  | zero =>
    intro i x5 acc hi ha hM
    obtain rfl : i = 6 := by omega
    refine ⟨acc, fun k hk => ?_, ha, hM⟩
    obtain ⟨k, rfl⟩ : ∃ j, k = j + 1 := ⟨k - 1, by omega⟩
    rw [intervalmonref05_Set.l0, if_neg (by omega)]
  | succ d ih =>
    intro i x5 acc hi ha hM
    by_cases c : (Int.tmod x5 2) = 1
    · obtain ⟨t, ht, t0, t1⟩ := pick_ok hw (((i + 1 : Nat) : Int)) (m := 6) (by omega)
      obtain ⟨tn, rfl⟩ : ∃ n : Nat, t = (n : Int) := ⟨t.toNat, by omega⟩
      obtain ⟨r, hr, h1, h2⟩ := ih (i + 1) (wrap64 (Int.tdiv x5 2)) (acc ++ [⟨names.getD i ByteArray.empty, vals.getD tn ByteArray.empty⟩]) (by omega) (by simp; omega) (hM.snoc (by omega))
      refine ⟨r, fun k hk => ?_, h1, h2⟩
      obtain ⟨k, rfl⟩ : ∃ j, k = j + 1 := ⟨k - 1, by omega⟩
      rw [intervalmonref05_Set.l0, if_pos (by omega), if_pos c, if_pos (by omega), w1 (by omega), ht, Option.bind_some, if_pos (by omega), if_pos (by omega), if_pos (by omega)]
      exact hr k (by omega)
    · obtain ⟨r, hr, h1, h2⟩ := ih (i + 1) (wrap64 (Int.tdiv x5 2)) acc (by omega) (by omega) hM.mono
      refine ⟨r, fun k hk => ?_, h1, h2⟩
      obtain ⟨k, rfl⟩ : ∃ j, k = j + 1 := ⟨k - 1, by omega⟩
      rw [intervalmonref05_Set.l0, if_pos (by omega), if_neg c, w1 (by omega)]
      exact hr k (by omega)

theorem set_ok {l : List Int} (hw : ∀ x ∈ l, (Lit.int .i64 x).wf = true) : ∃ r : List S35, (∀ k, 7 ≤ k → intervalmonref05_Set.f k l = some r) ∧ goodL r := by
  obtain ⟨t, ht, _, _⟩ := pick_ok hw 0 (m := 64) (by omega)
  obtain ⟨r, hr, h1, h2⟩ := set_l0 hw 6 0 t [] (by omega) (Nat.le_refl _) ⟨[], rfl, List.Pairwise.nil, (fun j hj => by cases hj), fun m hm => by simp at hm⟩
  refine ⟨r, fun k hk => ?_, h2.good h1⟩
  show ((some names).bind fun t116 => ((some vals).bind fun t119 => ((intervalmonref01_Pick.f l 0 64).bind fun t122 => (intervalmonref05_Set.l0 k l t116 t119 t122 ([] : List S35) 0)))) = some r
  rw [Option.bind_some, Option.bind_some, ht, Option.bind_some]
  exact hr k (by omega)

theorem alert_ok {l : List Int} (hw : ∀ x ∈ l, (Lit.int .i64 x).wf = true) : ∃ v L st si lv, (∀ k, 7 ≤ k → intervalmonref28_Alert.f k l = some (hot, v, L, st, si, lv)) ∧ goodL L ∧ restV hot v st si lv = true := by
  obtain ⟨p0, h0, a0, b0⟩ := pick_ok hw 0 (m := 3) (by omega)
  obtain ⟨p1, h1, a1, b1⟩ := pick_ok hw 1 (m := 5) (by omega)
  obtain ⟨p2, h2, a2, b2⟩ := pick_ok hw 2 (m := 50) (by omega)
  obtain ⟨p3, h3, a3, b3⟩ := pick_ok hw 3 (m := 17) (by omega)
  obtain ⟨p4, h4, a4, b4⟩ := pick_ok hw 3 (m := 16) (by omega)
  obtain ⟨L, hL, hg⟩ := set_ok hw
  have rest : ∀ lv, ((0 ≤ p1 ∧ p1 ≤ 2 ∧ lv = 0) ∨ (p1 = 3 ∧ 0 ≤ lv ∧ lv ≤ 16) ∨ (p1 = 4 ∧ 1 ≤ lv ∧ lv ≤ 16)) → restV hot (1 + p0) p1 p2 lv = true := by
    intro lv h
    unfold restV
    rw [hot_name, stB_of ⟨by omega, by omega, h⟩, decide_eq_true (by omega : 1 ≤ 1 + p0)]
    rfl
  have e0 : wrap64 (1 + p0) = 1 + p0 := w64 (by omega) (by omega)
  by_cases c3 : p1 = 3
  · refine ⟨1 + p0, L, p1, p2, p3, fun k hk => ?_, hg, rest p3 (by omega)⟩
    unfold intervalmonref28_Alert.f
    rw [h0, Option.bind_some, hL k hk, Option.bind_some, h1, Option.bind_some, h2, Option.bind_some, if_pos c3, h3, Option.bind_some, if_neg (by omega), e0]
    rfl
  · by_cases c4 : p1 = 4
    · refine ⟨1 + p0, L, p1, p2, 1 + p4, fun k hk => ?_, hg, rest (1 + p4) (by omega)⟩
      unfold intervalmonref28_Alert.f
      rw [h0, Option.bind_some, hL k hk, Option.bind_some, h1, Option.bind_some, h2, Option.bind_some, if_neg c3, if_pos c4, h4, Option.bind_some, e0, w64 (a := 1 + p4) (by omega) (by omega)]
      rfl
    · refine ⟨1 + p0, L, p1, p2, 0, fun k hk => ?_, hg, rest 0 (by omega)⟩
      unfold intervalmonref28_Alert.f
      rw [h0, Option.bind_some, hL k hk, Option.bind_some, h1, Option.bind_some, h2, Option.bind_some, if_neg c3, if_neg c4, e0]
      rfl

end Go.Proofs.YtbbddeilbcpmiaaDoor.Pure
