/- Plain facts for AlertValid: both sides call a list of labels valid if there are at most 8, all good, ascending by name. -/
import Derived.Test.YtbbddeilbcpmiaaDoorPureNames
import Derived.Test.YtbbddeilbcpmiaaDoorQ10
import Derived.Test.YtbbddeilbcpmiaaDoorQ13
import Derived.Test.YtbbddeilbcpmiaaDoorQ3
namespace Go.Proofs.YtbbddeilbcpmiaaDoor.Pure
open Go.RowKit Go.Sort Go.Proofs.YtbbddeilbcpmiaaDoor.Q Go.Proofs.YtbbddeilbcpmiaaDoorW.PrintWords Go.Proofs.YtbbddeilbcpmiaaDoorW.PrintLast Go.Proofs.YtbbddeilbcpmiaaDoorW.PrintMore
set_option linter.unusedVariables false
set_option linter.unusedSimpArgs false

theorem stepE {α : Type} {g f : Nat → Option α} {r : α} (K : Nat) (h : ∀ k, K ≤ k → g (k + 1) = f k) (e : Ev f r) : Ev g r := by
  obtain ⟨K2, hK⟩ := e
  refine ⟨max K K2 + 1, fun k hk => ?_⟩
  obtain ⟨k, rfl⟩ : ∃ j, k = j + 1 := ⟨k - 1, by omega⟩
  rw [h k (by omega)]
  exact hK k (by omega)

def lessN (x y : S35) : Prop := x.f0.data.toList < y.f0.data.toList
theorem less_iff (x y : S35) : Op.bytesLess x.f0.toList y.f0.toList = true ↔ lessN x y := by
  rw [Lib.toList_data, Lib.toList_data, Proofs.bytesLess_eq, decide_eq_true_eq]
  exact Iff.rfl
theorem lessN_trans {x y z : S35} (h : lessN x y) (k : lessN y z) : lessN x z := List.lt_trans h k
theorem lessN_irrefl (x : S35) : ¬ lessN x x := List.lt_irrefl _
theorem name_tri {x y : S35} (h : ¬ lessN x y) (k : ¬ lessN y x) : x.f0.toList = y.f0.toList := by
  rw [Lib.toList_data, Lib.toList_data]
  unfold lessN at h k
  rw [List.not_lt] at h k
  exact List.le_antisymm k h
theorem name_ne {x y : S35} (h : lessN x y) : ¬ x.f0.toList = y.f0.toList := by
  intro e
  rw [Lib.toList_data, Lib.toList_data] at e
  unfold lessN at h
  rw [e] at h
  exact List.lt_irrefl _ h
theorem lessN_congr {x y a b : S35} (h1 : x.f0.toList = a.f0.toList) (h2 : y.f0.toList = b.f0.toList) : lessN x y ↔ lessN a b := by
  rw [Lib.toList_data, Lib.toList_data] at h1 h2
  unfold lessN
  rw [h1, h2]

def okL (x : S35) : Prop := nameB x.f0 = true ∧ x.f1.size ≠ 0 ∧ valueB x.f1 = true
/-- what both sides mean by a valid list of labels -/
def goodL (L : List S35) : Prop := L.length ≤ 8 ∧ (∀ i, i < L.length → okL (L.getD i z35)) ∧ ∀ i, i + 1 < L.length → lessN (L.getD i z35) (L.getD (i + 1) z35)

theorem asc_far {L : List S35} (h : ∀ i, i + 1 < L.length → lessN (L.getD i z35) (L.getD (i + 1) z35)) : ∀ d i, i + d + 1 < L.length → lessN (L.getD i z35) (L.getD (i + d + 1) z35) := by
  intro d
  induction d with
  | zero => intro i hi; exact h i hi
  | succ d ih => intro i hi; exact lessN_trans (ih i (by omega)) (h (i + d + 1) (by omega))
theorem asc_lt {L : List S35} (h : ∀ i, i + 1 < L.length → lessN (L.getD i z35) (L.getD (i + 1) z35)) {i j : Nat} (hij : i < j) (hj : j < L.length) : lessN (L.getD i z35) (L.getD j z35) := by
  have := asc_far h (j - i - 1) i (by omega)
  rw [show i + (j - i - 1) + 1 = j by omega] at this
  exact this

theorem rdL (L : List S35) (i : Nat) : rd_T35 L (i : Int) = L.getD i z35 := rfl

/-! ### the program's side -/
theorem hasN_iff (L : List S35) (i : Nat) (hi : i ≤ L.length) (x : S35) : hasN (L.take i) x = true ↔ ∃ j, j < i ∧ (L.getD j z35).f0.toList = x.f0.toList := by
  unfold hasN
  rw [List.any_eq_true]
  constructor
  · rintro ⟨y, hy, he⟩
    obtain ⟨j, hj, rfl⟩ := List.mem_iff_getElem.mp hy
    rw [List.length_take] at hj
    refine ⟨j, by omega, ?_⟩
    rw [List.getElem_take] at he
    rw [List.getD_eq_getElem?_getD, List.getElem?_eq_getElem (by omega)]
    exact eq_of_beq he
  · rintro ⟨j, hj, he⟩
    have hjl : j < (L.take i).length := by rw [List.length_take]; omega
    refine ⟨(L.take i)[j], List.getElem_mem hjl, ?_⟩
    rw [List.getElem_take]
    rw [List.getD_eq_getElem?_getD, List.getElem?_eq_getElem (by omega)] at he
    exact beq_iff_eq.mpr he

theorem errAt_zero (L : List S35) (i : Nat) (hi : i < L.length) : newErrAt L (i : Int) = 0 ↔ okL (L.getD i z35) ∧ ∀ j, j < i → ¬ (L.getD j z35).f0.toList = (L.getD i z35).f0.toList := by
  rw [newErrAt_eq L (i : Int) (L.getD i z35) (rdL L i), Int.toNat_natCast]
  have hh := hasN_iff L i (by omega) (L.getD i z35)
  unfold okL
  by_cases c1 : nameB (L.getD i z35).f0 = false
  · rw [if_pos c1, c1]; simp
  · rw [if_neg c1]
    have c1' : nameB (L.getD i z35).f0 = true := by cases h : nameB (L.getD i z35).f0 <;> simp_all
    by_cases c2 : (L.getD i z35).f1.size = 0
    · rw [if_pos c2]; exact ⟨fun h => absurd h (by decide), fun h => absurd c2 h.1.2.1⟩
    · rw [if_neg c2]
      by_cases c3 : valueB (L.getD i z35).f1 = false
      · rw [if_pos c3, c3]; simp
      · rw [if_neg c3]
        have c3' : valueB (L.getD i z35).f1 = true := by cases h : valueB (L.getD i z35).f1 <;> simp_all
        by_cases c4 : hasN (L.take i) (L.getD i z35) = true
        · rw [if_pos c4]
          obtain ⟨j, hj, he⟩ := hh.mp c4
          constructor
          · intro h; cases h
          · rintro ⟨_, h⟩; exact absurd he (h j hj)
        · rw [if_neg c4]
          exact ⟨fun _ => ⟨⟨c1', c2, c3'⟩, fun j hj he => c4 (hh.mpr ⟨j, hj, he⟩)⟩, fun _ => rfl⟩

theorem err_zero (L : List S35) : ∀ (d i : Nat), i + d = L.length → (newErr L d (i : Int) = 0 ↔ ∀ j, i ≤ j → j < L.length → newErrAt L (j : Int) = 0) := by
  intro d
  induction d with
  | zero => intro i hi; exact ⟨fun _ j h1 h2 => by omega, fun _ => rfl⟩
  | succ d ih =>
    intro i hi
    rw [newErr]
    have hcast : ((i : Int) + 1) = ((i + 1 : Nat) : Int) := by omega
    rw [hcast]
    by_cases c : newErrAt L (i : Int) = 0
    · rw [if_pos c, ih (i + 1) (by omega)]
      constructor
      · intro h j h1 h2
        by_cases e : j = i
        · subst e; exact c
        · exact h j (by omega) h2
      · intro h j h1 h2; exact h j (by omega) h2
    · rw [if_neg c]
      exact ⟨fun h => absurd h c, fun h => h i (Nat.le_refl _) (by omega)⟩

theorem inner_id (lt : S35 → S35 → Bool) (d : Array S35) (i : Nat) (h : ∀ j, j + 1 = i → lt d[j + 1]! d[j]! = false) : insInner lt 0 i d = d := by
  cases i with
  | zero => rfl
  | succ j =>
    rw [insInner, h j rfl]
    simp
theorem outer_id (lt : S35 → S35 → Bool) (d : Array S35) (n : Nat) (h : ∀ j, j + 1 < n → lt d[j + 1]! d[j]! = false) : ∀ m i, i + m = n → insOuter lt 0 n i d = d := by
  intro m
  induction m with
  | zero => intro i hi; rw [insOuter, if_neg (by omega)]
  | succ m ih =>
    intro i hi
    rw [insOuter, if_pos (by omega), inner_id lt d i (fun j hj => h j (by omega))]
    exact ih (i + 1) (by omega)

theorem arr_get (L : List S35) (i : Nat) (h : i < L.length) : L.toArray[i]! = L.getD i z35 := by
  rw [List.getD_eq_getElem?_getD, List.getElem?_eq_getElem h]
  simp [h]

theorem lt_iff_less (x y : S35) : ltOf cmpLab x y = true ↔ lessN x y := by
  rw [ltLab, decide_eq_true_eq]; exact Iff.rfl

theorem sort_asc {L : List S35} (h : ∀ i, i + 1 < L.length → lessN (L.getD i z35) (L.getD (i + 1) z35)) : sortLab L = L := by
  unfold sortLab insertionSort
  have hs : L.toArray.size = L.length := by simp
  rw [hs]
  by_cases c : L.length = 0
  · rw [insOuter, if_neg (by omega)]
  · rw [outer_id (ltOf cmpLab) L.toArray L.length ?_ (L.length - 1) (0 + 1) (by omega)]
    intro j hj
    rw [arr_get L j (by omega), arr_get L (j + 1) hj]
    cases hx : ltOf cmpLab (L.getD (j + 1) z35) (L.getD j z35)
    · rfl
    · exact absurd (lessN_trans (h j hj) ((lt_iff_less _ _).mp hx)) (lessN_irrefl _)

theorem sort_len (L : List S35) : (sortLab L).length = L.length := by
  unfold sortLab
  rw [Array.length_toList, sortLab_size]

theorem sort_sorted (L : List S35) {i j : Nat} (hij : i < j) (hj : j < L.length) : ¬ lessN ((sortLab L).getD j z35) ((sortLab L).getD i z35) := by
  intro hl
  have h := (insertionSort_holds (lt := ltOf cmpLab) swoLab L.toArray 0 L.toArray.size (Nat.zero_le _) (Nat.le_refl _)).2 i j (Nat.zero_le _) hij (by simp; omega)
  have hlen := sort_len L
  have e : ∀ m, m < L.length → (Sort.insertionSort (ltOf cmpLab) L.toArray 0 L.toArray.size)[m]! = (sortLab L).getD m z35 := by
    intro m hm
    have := arr_get (sortLab L) m (by omega)
    rw [← this]
    unfold sortLab
    rw [Array.toArray_toList]
  rw [e j hj, e i (by omega)] at h
  rw [(lt_iff_less _ _).mpr hl] at h
  cases h

theorem differ (a b c d : List UInt8) (h : ¬ (a = b ∧ c = d)) : (!(a == b) || !(c == d)) = true := by
  by_cases h1 : a = b
  · have h2 : ¬ c = d := fun h' => h ⟨h1, h'⟩
    simp [h2]
  · simp [h1]
theorem lv_l0 {L S : List S35} (hS : S.length = L.length) (hl : L.length ≤ 8) : ∀ (d i : Nat), i + d = L.length → ∃ b : Bool, (b = true ↔ ∀ j, i ≤ j → j < L.length → (S.getD j z35).f0.toList = (L.getD j z35).f0.toList ∧ (S.getD j z35).f1.toList = (L.getD j z35).f1.toList) ∧ ∀ k, d < k → labels_Valid.l0 k L S (S.length : Int) (i : Int) = some b := by
  intro d
  induction d with
  | zero =>
    intro i hi
    refine ⟨true, ⟨fun _ j h1 h2 => by omega, fun _ => rfl⟩, ?_⟩
    intro k hk
    obtain ⟨k, rfl⟩ : ∃ j, k = j + 1 := ⟨k - 1, by omega⟩
    rw [labels_Valid.l0, if_neg (by omega)]
  | succ d ih =>
    intro i hi
    obtain ⟨b, hb, hk⟩ := ih (i + 1) (by omega)
    by_cases c : (S.getD i z35).f0.toList = (L.getD i z35).f0.toList ∧ (S.getD i z35).f1.toList = (L.getD i z35).f1.toList
    · refine ⟨b, ?_, ?_⟩
      · rw [hb]
        constructor
        · intro h j h1 h2
          by_cases e : j = i
          · subst e; exact c
          · exact h j (by omega) h2
        · intro h j h1 h2; exact h j (by omega) h2
      · intro k hkk
        obtain ⟨k, rfl⟩ : ∃ j, k = j + 1 := ⟨k - 1, by omega⟩
        rw [labels_Valid.l0, if_pos (by omega), if_pos (by omega), if_pos (by omega), if_pos (by omega), rdL, rdL, c.1, c.2, w1 (by omega), if_neg (by simp)]
        exact hk k (by omega)
    · refine ⟨false, ⟨fun h => (by cases h), fun h => absurd (h i (Nat.le_refl _) (by omega)) c⟩, ?_⟩
      intro k hkk
      obtain ⟨k, rfl⟩ : ∃ j, k = j + 1 := ⟨k - 1, by omega⟩
      rw [labels_Valid.l0, if_pos (by omega), if_pos (by omega), if_pos (by omega), if_pos (by omega), rdL, rdL, if_pos]
      exact differ _ _ _ _ c

theorem labels_valid_ok (L : List S35) : ∃ b : Bool, (b = true ↔ goodL L) ∧ ∀ k, 10 ≤ k → labels_Valid.f k L = some b := by
  by_cases c8 : 8 < L.length
  · refine ⟨false, ⟨fun h => (by cases h), fun h => by have := h.1; omega⟩, fun k _ => ?_⟩
    unfold labels_Valid.f labels_New.f
    rw [if_pos c8]
    rfl
  · have hez := err_zero L L.length 0 (by omega)
    by_cases ce : newErr L L.length 0 = 0
    · have hz := hez.mp ce
      have hz' : ∀ j, j < L.length → okL (L.getD j z35) ∧ ∀ m, m < j → ¬ (L.getD m z35).f0.toList = (L.getD j z35).f0.toList := fun j hj => (errAt_zero L j hj).mp (hz j (Nat.zero_le _) hj)
      obtain ⟨b, hb, hk⟩ := lv_l0 (L := L) (S := sortLab L) (sort_len L) (by omega) L.length 0 (by omega)
      refine ⟨b, ?_, fun k hkk => ?_⟩
      · rw [hb]
        constructor
        · intro h
          refine ⟨by omega, fun i hi => (hz' i hi).1, fun i hi => ?_⟩
          have h1 := (h i (Nat.zero_le _) (by omega)).1
          have h2 := (h (i + 1) (Nat.zero_le _) hi).1
          have hs := sort_sorted L (show i < i + 1 by omega) hi
          rw [lessN_congr h2 h1] at hs
          by_cases hl : lessN (L.getD i z35) (L.getD (i + 1) z35)
          · exact hl
          · exact absurd (name_tri hl hs) ((hz' (i + 1) hi).2 i (by omega))
        · intro h j _ hj
          rw [sort_asc h.2.2]
          exact ⟨rfl, rfl⟩
      · unfold labels_Valid.f labels_New.f
        rw [if_neg c8, if_pos ce, Option.bind_some, if_pos rfl]
        exact hk k (by omega)
    · refine ⟨false, ⟨fun h => (by cases h), fun h => ?_⟩, fun k _ => ?_⟩
      · exfalso
        refine ce (hez.mpr fun j _ hj => (errAt_zero L j hj).mpr ⟨h.2.1 j hj, fun m hm => name_ne (asc_lt h.2.2 hm hj)⟩)
      · unfold labels_Valid.f labels_New.f
        rw [if_neg c8, if_neg ce, Option.bind_some, if_neg ce]

end Go.Proofs.YtbbddeilbcpmiaaDoor.Pure
