/- Texts of this seat, joined: PureNames, PureLabels, PureRefLabels, PureValid, PureGen, PureBent, PureAct. -/
import Derived.Test.YtbbddeilbcpmiaaDoorPureHot
import Derived.Test.YtbbddeilbcpmiaaDoorQ9
import Derived.Test.YtbbddeilbcpmiaaDoorQ11
import Derived.Test.YtbbddeilbcpmiaaDoorQ10
import Derived.Test.YtbbddeilbcpmiaaDoorQ13
import Derived.Test.YtbbddeilbcpmiaaDoorQ3
import Derived.Test.YtbbddeilbcpmiaaDoorQ14
import Derived.Test.YtbbddeilbcpmiaaDoorQ6
import Derived.Test.YtbbddeilbcpmiaaDoorQ8
import Derived.Test.YtbbddeilbcpmiaaDoorQ16
import Derived.Test.YtbbddeilbcpmiaaDoorQ18
import Derived.Test.YtbbddeilbcpmiaaDoorQ20
/- Plain facts for AlertValid: the reference's names and values of labels. -/
namespace Go.Proofs.YtbbddeilbcpmiaaDoor.Pure
open Go.RowKit Go.Proofs.YtbbddeilbcpmiaaDoor.Q Go.Proofs.YtbbddeilbcpmiaaDoorW.PrintWords Go.Proofs.YtbbddeilbcpmiaaDoorW.PrintLast Go.Proofs.YtbbddeilbcpmiaaDoorW.PrintMore
set_option linter.unusedVariables false
set_option linter.unusedSimpArgs false

/-- all of the d characters from i on are good -/
def restB (p : Nat → Int → Bool) (s : ByteArray) : Nat → Nat → Bool
  | 0, _ => true
  | d + 1, i => p i (bt s i) && restB p s d (i + 1)
theorem restB_iff (p : Nat → Int → Bool) (s : ByteArray) : ∀ d i, restB p s d i = true ↔ ∀ j, i ≤ j → j < i + d → p j (bt s j) = true := by
  intro d
  induction d with
  | zero => intro i; simp [restB]; intro j h1 h2; omega
  | succ d ih =>
    intro i
    rw [restB, Bool.and_eq_true, ih (i + 1)]
    constructor
    · rintro ⟨h1, h2⟩ j hj1 hj2
      by_cases c : j = i
      · subst c; exact h1
      · exact h2 j (by omega) (by omega)
    · intro h
      exact ⟨h i (by omega) (by omega), fun j h1 h2 => h j (by omega) (by omega)⟩
theorem restB_all (p : Nat → Int → Bool) (s : ByteArray) (n : Nat) : restB p s n 0 = ((List.range n).all fun i => p i (bt s i)) := by
  rw [Bool.eq_iff_iff, restB_iff, List.all_eq_true]
  constructor
  · intro h i hi; exact h i (by omega) (by rw [List.mem_range] at hi; omega)
  · intro h j _ hj; exact h j (List.mem_range.mpr (by omega))

theorem name_step (k : Nat) (s : ByteArray) (i : Nat) (h : i < s.size) (hi : i < 4611686018427387904) : intervalmonref05_Name.l0 (k + 1) s (i : Int) = if nmC i (bt s i) = true then intervalmonref05_Name.l0 k s ((i + 1 : Nat) : Int) else some false := by
  rw [intervalmonref05_Name.l0, if_pos (by omega), if_pos (by omega), w1 hi]
  generalize intervalmonref05_Name.l0 k s ((i + 1 : Nat) : Int) = R
  generalize bt s i = c
  have hi0 : ((i : Int) = 0) ↔ i = 0 := by omega
  unfold intervalmonref05_letter.f nmC
  by_cases c1 : 97 ≤ c <;> by_cases c2 : c ≤ 122 <;> by_cases c3 : 48 ≤ c <;> by_cases c4 : c ≤ 57 <;> by_cases c5 : i = 0 <;> by_cases c6 : c = 95 <;> first | (exfalso; omega) | simp [c1, c2, c3, c4, c5, c6]

theorem name_l0 (s : ByteArray) (hs : s.size < 4611686018427387904) : ∀ (d i : Nat), i + d = s.size → ∀ k, d < k → intervalmonref05_Name.l0 k s (i : Int) = some (restB nmC s d i) := by
  intro d
  induction d with
  | zero =>
    intro i hi k hk
    obtain ⟨k, rfl⟩ : ∃ j, k = j + 1 := ⟨k - 1, by omega⟩
    rw [intervalmonref05_Name.l0, if_neg (by omega)]
    rfl
  | succ d ih =>
    intro i hi k hk
    obtain ⟨k, rfl⟩ : ∃ j, k = j + 1 := ⟨k - 1, by omega⟩
    rw [name_step k s i (by omega) (by omega), ih (i + 1) (by omega) k (by omega), restB]
    cases nmC i (bt s i) <;> simp

theorem name_ref (s : ByteArray) {k : Nat} (hk : 20 ≤ k) : intervalmonref05_Name.f k s = some (nameB s) := by
  obtain ⟨k, rfl⟩ : ∃ j, k = j + 1 := ⟨k - 1, by omega⟩
  unfold intervalmonref05_Name.f nameB
  by_cases c1 : (s.size : Int) < 1
  · rw [if_pos c1, intervalmonref05_Name.j0, if_pos rfl]
    rw [decide_eq_false (by omega : ¬ 1 ≤ s.size)]
    rfl
  · rw [if_neg c1, intervalmonref05_Name.j0]
    by_cases c2 : (s.size : Int) > 16
    · rw [decide_eq_true c2, if_pos rfl, decide_eq_false (by omega : ¬ s.size ≤ 16)]
      simp
    · have h0 := name_l0 s (by omega) s.size 0 (by omega) k (by omega)
      rw [restB_all] at h0
      rw [decide_eq_false c2, if_neg (by decide), show (0 : Int) = ((0 : Nat) : Int) from rfl, h0]
      rw [decide_eq_true (by omega : 1 ≤ s.size), decide_eq_true (by omega : s.size ≤ 16)]
      rfl

theorem value_step (k : Nat) (s : ByteArray) (i : Nat) (h : i < s.size) (hi : i < 4611686018427387904) : intervalmonref05_Value.l0 (k + 1) s (i : Int) = if vlC (bt s i) = true then intervalmonref05_Value.l0 k s ((i + 1 : Nat) : Int) else some false := by
  rw [intervalmonref05_Value.l0, if_pos (by omega), if_pos (by omega), w1 hi]
  generalize intervalmonref05_Value.l0 k s ((i + 1 : Nat) : Int) = R
  generalize bt s i = c
  unfold vlC
  by_cases c1 : c < 33
  · have : ¬ 32 < c := by omega
    simp [c1, this]
  · by_cases c2 : c > 126
    · have : ¬ c ≤ 126 := by omega
      simp [c1, c2, this]
    · have h1 : 32 < c := by omega
      have h2 : c ≤ 126 := by omega
      by_cases c3 : c = 34 <;> by_cases c4 : c = 92 <;> by_cases c5 : c = 44 <;> by_cases c6 : c = 123 <;> by_cases c7 : c = 125 <;> first | (exfalso; omega) | simp [*]

theorem value_l0 (s : ByteArray) (hs : s.size < 4611686018427387904) : ∀ (d i : Nat), i + d = s.size → ∀ k, d < k → intervalmonref05_Value.l0 k s (i : Int) = some (restB (fun _ => vlC) s d i) := by
  intro d
  induction d with
  | zero =>
    intro i hi k hk
    obtain ⟨k, rfl⟩ : ∃ j, k = j + 1 := ⟨k - 1, by omega⟩
    rw [intervalmonref05_Value.l0, if_neg (by omega)]
    rfl
  | succ d ih =>
    intro i hi k hk
    obtain ⟨k, rfl⟩ : ∃ j, k = j + 1 := ⟨k - 1, by omega⟩
    rw [value_step k s i (by omega) (by omega), ih (i + 1) (by omega) k (by omega), restB]
    cases vlC (bt s i) <;> simp

theorem value_ref (s : ByteArray) {k : Nat} (hk : 20 ≤ k) : intervalmonref05_Value.f k s = some (valueB s) := by
  unfold intervalmonref05_Value.f valueB
  by_cases c2 : (s.size : Int) > 16
  · rw [if_pos c2, decide_eq_false (by omega : ¬ s.size ≤ 16)]
    rfl
  · have h0 := value_l0 s (by omega) s.size 0 (by omega) k (by omega)
    rw [restB_all] at h0
    rw [if_neg c2, show (0 : Int) = ((0 : Nat) : Int) from rfl, h0, decide_eq_true (by omega : s.size ≤ 16)]
    rfl

end Go.Proofs.YtbbddeilbcpmiaaDoor.Pure

/- Plain facts for AlertValid: both sides call a list of labels valid if there are at most 8, all good, ascending by name. -/
namespace Go.Proofs.YtbbddeilbcpmiaaDoor.Pure
open Go.RowKit Go.Sort Go.Proofs.YtbbddeilbcpmiaaDoor.Q Go.Proofs.YtbbddeilbcpmiaaDoorW.PrintWords Go.Proofs.YtbbddeilbcpmiaaDoorW.PrintLast Go.Proofs.YtbbddeilbcpmiaaDoorW.PrintMore
set_option linter.unusedVariables false
set_option linter.unusedSimpArgs false

theorem stepE {α : Type} {g f : Nat → Option α} {r : α} (K : Nat) (h : ∀ k, K ≤ k → g (k + 1) = f k) (e : Ev f r) : Ev g r := by
  obtain ⟨K2, hK⟩ := e
  refine ⟨max K K2 + 1, fun k hk => ?_⟩
  obtain ⟨k, rfl⟩ : ∃ j, k = j + 1 := ⟨k - 1, by omega⟩
  rw [h k (by omega)]
  exact hK k (by omega)

def lessN (x y : S35) : Prop := x.f0.data.toList < y.f0.data.toList
theorem less_iff (x y : S35) : Op.bytesLess x.f0.toList y.f0.toList = true ↔ lessN x y := by
  rw [Lib.toList_data, Lib.toList_data, Proofs.bytesLess_eq, decide_eq_true_eq]
  exact Iff.rfl
theorem lessN_trans {x y z : S35} (h : lessN x y) (k : lessN y z) : lessN x z := List.lt_trans h k
theorem lessN_irrefl (x : S35) : ¬ lessN x x := List.lt_irrefl _
theorem name_tri {x y : S35} (h : ¬ lessN x y) (k : ¬ lessN y x) : x.f0.toList = y.f0.toList := by
  rw [Lib.toList_data, Lib.toList_data]
  unfold lessN at h k
  rw [List.not_lt] at h k
  exact List.le_antisymm k h
theorem name_ne {x y : S35} (h : lessN x y) : ¬ x.f0.toList = y.f0.toList := by
  intro e
  rw [Lib.toList_data, Lib.toList_data] at e
  unfold lessN at h
  rw [e] at h
  exact List.lt_irrefl _ h
theorem lessN_congr {x y a b : S35} (h1 : x.f0.toList = a.f0.toList) (h2 : y.f0.toList = b.f0.toList) : lessN x y ↔ lessN a b := by
  rw [Lib.toList_data, Lib.toList_data] at h1 h2
  unfold lessN
  rw [h1, h2]

def okL (x : S35) : Prop := nameB x.f0 = true ∧ x.f1.size ≠ 0 ∧ valueB x.f1 = true
/-- what both sides mean by a valid list of labels -/
def goodL (L : List S35) : Prop := L.length ≤ 8 ∧ (∀ i, i < L.length → okL (L.getD i z35)) ∧ ∀ i, i + 1 < L.length → lessN (L.getD i z35) (L.getD (i + 1) z35)

theorem asc_far {L : List S35} (h : ∀ i, i + 1 < L.length → lessN (L.getD i z35) (L.getD (i + 1) z35)) : ∀ d i, i + d + 1 < L.length → lessN (L.getD i z35) (L.getD (i + d + 1) z35) := by
  intro d
  induction d with
  | zero => intro i hi; exact h i hi
  | succ d ih => intro i hi; exact lessN_trans (ih i (by omega)) (h (i + d + 1) (by omega))
theorem asc_lt {L : List S35} (h : ∀ i, i + 1 < L.length → lessN (L.getD i z35) (L.getD (i + 1) z35)) {i j : Nat} (hij : i < j) (hj : j < L.length) : lessN (L.getD i z35) (L.getD j z35) := by
  have := asc_far h (j - i - 1) i (by omega)
  rw [show i + (j - i - 1) + 1 = j by omega] at this
  exact this

theorem rdL (L : List S35) (i : Nat) : rd_T35 L (i : Int) = L.getD i z35 := rfl

/-! ### the program's side -/
theorem hasN_iff (L : List S35) (i : Nat) (hi : i ≤ L.length) (x : S35) : hasN (L.take i) x = true ↔ ∃ j, j < i ∧ (L.getD j z35).f0.toList = x.f0.toList := by
  unfold hasN
  rw [List.any_eq_true]
  constructor
  · rintro ⟨y, hy, he⟩
    obtain ⟨j, hj, rfl⟩ := List.mem_iff_getElem.mp hy
    rw [List.length_take] at hj
    refine ⟨j, by omega, ?_⟩
    rw [List.getElem_take] at he
    rw [List.getD_eq_getElem?_getD, List.getElem?_eq_getElem (by omega)]
    exact eq_of_beq he
  · rintro ⟨j, hj, he⟩
    have hjl : j < (L.take i).length := by rw [List.length_take]; omega
    refine ⟨(L.take i)[j], List.getElem_mem hjl, ?_⟩
    rw [List.getElem_take]
    rw [List.getD_eq_getElem?_getD, List.getElem?_eq_getElem (by omega)] at he
    exact beq_iff_eq.mpr he

theorem errAt_zero (L : List S35) (i : Nat) (hi : i < L.length) : newErrAt L (i : Int) = 0 ↔ okL (L.getD i z35) ∧ ∀ j, j < i → ¬ (L.getD j z35).f0.toList = (L.getD i z35).f0.toList := by
  rw [newErrAt_eq L (i : Int) (L.getD i z35) (rdL L i), Int.toNat_natCast]
  have hh := hasN_iff L i (by omega) (L.getD i z35)
  unfold okL
  by_cases c1 : nameB (L.getD i z35).f0 = false
  · rw [if_pos c1, c1]; simp
  · rw [if_neg c1]
    have c1' : nameB (L.getD i z35).f0 = true := by cases h : nameB (L.getD i z35).f0 <;> simp_all
    by_cases c2 : (L.getD i z35).f1.size = 0
    · rw [if_pos c2]; exact ⟨fun h => absurd h (by decide), fun h => absurd c2 h.1.2.1⟩
    · rw [if_neg c2]
      by_cases c3 : valueB (L.getD i z35).f1 = false
      · rw [if_pos c3, c3]; simp
      · rw [if_neg c3]
        have c3' : valueB (L.getD i z35).f1 = true := by cases h : valueB (L.getD i z35).f1 <;> simp_all
        by_cases c4 : hasN (L.take i) (L.getD i z35) = true
        · rw [if_pos c4]
          obtain ⟨j, hj, he⟩ := hh.mp c4
          constructor
          · intro h; cases h
          · rintro ⟨_, h⟩; exact absurd he (h j hj)
        · rw [if_neg c4]
          exact ⟨fun _ => ⟨⟨c1', c2, c3'⟩, fun j hj he => c4 (hh.mpr ⟨j, hj, he⟩)⟩, fun _ => rfl⟩

theorem err_zero (L : List S35) : ∀ (d i : Nat), i + d = L.length → (newErr L d (i : Int) = 0 ↔ ∀ j, i ≤ j → j < L.length → newErrAt L (j : Int) = 0) := by
  intro d
  induction d with
  | zero => intro i hi; exact ⟨fun _ j h1 h2 => by omega, fun _ => rfl⟩
  | succ d ih =>
    intro i hi
    rw [newErr]
    have hcast : ((i : Int) + 1) = ((i + 1 : Nat) : Int) := by omega
    rw [hcast]
    by_cases c : newErrAt L (i : Int) = 0
    · rw [if_pos c, ih (i + 1) (by omega)]
      constructor
      · intro h j h1 h2
        by_cases e : j = i
        · subst e; exact c
        · exact h j (by omega) h2
      · intro h j h1 h2; exact h j (by omega) h2
    · rw [if_neg c]
      exact ⟨fun h => absurd h c, fun h => h i (Nat.le_refl _) (by omega)⟩

theorem inner_id (lt : S35 → S35 → Bool) (d : Array S35) (i : Nat) (h : ∀ j, j + 1 = i → lt d[j + 1]! d[j]! = false) : insInner lt 0 i d = d := by
  cases i with
  | zero => rfl
  | succ j =>
    rw [insInner, h j rfl]
    simp
theorem outer_id (lt : S35 → S35 → Bool) (d : Array S35) (n : Nat) (h : ∀ j, j + 1 < n → lt d[j + 1]! d[j]! = false) : ∀ m i, i + m = n → insOuter lt 0 n i d = d := by
  intro m
  induction m with
  | zero => intro i hi; rw [insOuter, if_neg (by omega)]
  | succ m ih =>
    intro i hi
    rw [insOuter, if_pos (by omega), inner_id lt d i (fun j hj => h j (by omega))]
    exact ih (i + 1) (by omega)

theorem arr_get (L : List S35) (i : Nat) (h : i < L.length) : L.toArray[i]! = L.getD i z35 := by
  rw [List.getD_eq_getElem?_getD, List.getElem?_eq_getElem h]
  simp [h]

theorem lt_iff_less (x y : S35) : ltOf cmpLab x y = true ↔ lessN x y := by
  rw [ltLab, decide_eq_true_eq]; exact Iff.rfl

theorem sort_asc {L : List S35} (h : ∀ i, i + 1 < L.length → lessN (L.getD i z35) (L.getD (i + 1) z35)) : sortLab L = L := by
  unfold sortLab insertionSort
  have hs : L.toArray.size = L.length := by simp
  rw [hs]
  by_cases c : L.length = 0
  · rw [insOuter, if_neg (by omega)]
  · rw [outer_id (ltOf cmpLab) L.toArray L.length ?_ (L.length - 1) (0 + 1) (by omega)]
    intro j hj
    rw [arr_get L j (by omega), arr_get L (j + 1) hj]
    cases hx : ltOf cmpLab (L.getD (j + 1) z35) (L.getD j z35)
    · rfl
    · exact absurd (lessN_trans (h j hj) ((lt_iff_less _ _).mp hx)) (lessN_irrefl _)

theorem sort_len (L : List S35) : (sortLab L).length = L.length := by
  unfold sortLab
  rw [Array.length_toList, sortLab_size]

theorem sort_sorted (L : List S35) {i j : Nat} (hij : i < j) (hj : j < L.length) : ¬ lessN ((sortLab L).getD j z35) ((sortLab L).getD i z35) := by
  intro hl
  have h := (insertionSort_holds (lt := ltOf cmpLab) swoLab L.toArray 0 L.toArray.size (Nat.zero_le _) (Nat.le_refl _)).2 i j (Nat.zero_le _) hij (by simp; omega)
  have hlen := sort_len L
  have e : ∀ m, m < L.length → (Sort.insertionSort (ltOf cmpLab) L.toArray 0 L.toArray.size)[m]! = (sortLab L).getD m z35 := by
    intro m hm
    have := arr_get (sortLab L) m (by omega)
    rw [← this]
    unfold sortLab
    rw [Array.toArray_toList]
  rw [e j hj, e i (by omega)] at h
  rw [(lt_iff_less _ _).mpr hl] at h
  cases h

theorem differ (a b c d : List UInt8) (h : ¬ (a = b ∧ c = d)) : (!(a == b) || !(c == d)) = true := by
  by_cases h1 : a = b
  · have h2 : ¬ c = d := fun h' => h ⟨h1, h'⟩
    simp [h2]
  · simp [h1]
theorem lv_l0 {L S : List S35} (hS : S.length = L.length) (hl : L.length ≤ 8) : ∀ (d i : Nat), i + d = L.length → ∃ b : Bool, (b = true ↔ ∀ j, i ≤ j → j < L.length → (S.getD j z35).f0.toList = (L.getD j z35).f0.toList ∧ (S.getD j z35).f1.toList = (L.getD j z35).f1.toList) ∧ ∀ k, d < k → labels_Valid.l0 k L S (S.length : Int) (i : Int) = some b := by
  intro d
  induction d with
  | zero =>
    intro i hi
    refine ⟨true, ⟨fun _ j h1 h2 => by omega, fun _ => rfl⟩, ?_⟩
    intro k hk
    obtain ⟨k, rfl⟩ : ∃ j, k = j + 1 := ⟨k - 1, by omega⟩
    rw [labels_Valid.l0, if_neg (by omega)]
  | succ d ih =>
    intro i hi
    obtain ⟨b, hb, hk⟩ := ih (i + 1) (by omega)
    by_cases c : (S.getD i z35).f0.toList = (L.getD i z35).f0.toList ∧ (S.getD i z35).f1.toList = (L.getD i z35).f1.toList
    · refine ⟨b, ?_, ?_⟩
      · rw [hb]
        constructor
        · intro h j h1 h2
          by_cases e : j = i
          · subst e; exact c
          · exact h j (by omega) h2
        · intro h j h1 h2; exact h j (by omega) h2
      · intro k hkk
        obtain ⟨k, rfl⟩ : ∃ j, k = j + 1 := ⟨k - 1, by omega⟩
        rw [labels_Valid.l0, if_pos (by omega), if_pos (by omega), if_pos (by omega), if_pos (by omega), rdL, rdL, c.1, c.2, w1 (by omega), if_neg (by simp)]
        exact hk k (by omega)
    · refine ⟨false, ⟨fun h => (by cases h), fun h => absurd (h i (Nat.le_refl _) (by omega)) c⟩, ?_⟩
      intro k hkk
      obtain ⟨k, rfl⟩ : ∃ j, k = j + 1 := ⟨k - 1, by omega⟩
      rw [labels_Valid.l0, if_pos (by omega), if_pos (by omega), if_pos (by omega), if_pos (by omega), rdL, rdL, if_pos]
      exact differ _ _ _ _ c

theorem labels_valid_ok (L : List S35) : ∃ b : Bool, (b = true ↔ goodL L) ∧ ∀ k, 10 ≤ k → labels_Valid.f k L = some b := by
  by_cases c8 : 8 < L.length
  · refine ⟨false, ⟨fun h => (by cases h), fun h => by have := h.1; omega⟩, fun k _ => ?_⟩
    unfold labels_Valid.f labels_New.f
    rw [if_pos c8]
    rfl
  · have hez := err_zero L L.length 0 (by omega)
    by_cases ce : newErr L L.length 0 = 0
    · have hz := hez.mp ce
      have hz' : ∀ j, j < L.length → okL (L.getD j z35) ∧ ∀ m, m < j → ¬ (L.getD m z35).f0.toList = (L.getD j z35).f0.toList := fun j hj => (errAt_zero L j hj).mp (hz j (Nat.zero_le _) hj)
      obtain ⟨b, hb, hk⟩ := lv_l0 (L := L) (S := sortLab L) (sort_len L) (by omega) L.length 0 (by omega)
      refine ⟨b, ?_, fun k hkk => ?_⟩
      · rw [hb]
        constructor
        · intro h
          refine ⟨by omega, fun i hi => (hz' i hi).1, fun i hi => ?_⟩
          have h1 := (h i (Nat.zero_le _) (by omega)).1
          have h2 := (h (i + 1) (Nat.zero_le _) hi).1
          have hs := sort_sorted L (show i < i + 1 by omega) hi
          rw [lessN_congr h2 h1] at hs
          by_cases hl : lessN (L.getD i z35) (L.getD (i + 1) z35)
          · exact hl
          · exact absurd (name_tri hl hs) ((hz' (i + 1) hi).2 i (by omega))
        · intro h j _ hj
          rw [sort_asc h.2.2]
          exact ⟨rfl, rfl⟩
      · unfold labels_Valid.f labels_New.f
        rw [if_neg c8, if_pos ce, Option.bind_some, if_pos rfl]
        exact hk k (by omega)
    · refine ⟨false, ⟨fun h => (by cases h), fun h => ?_⟩, fun k _ => ?_⟩
      · exfalso
        refine ce (hez.mpr fun j _ hj => (errAt_zero L j hj).mpr ⟨h.2.1 j hj, fun m hm => name_ne (asc_lt h.2.2 hm hj)⟩)
      · unfold labels_Valid.f labels_New.f
        rw [if_neg c8, if_neg ce, Option.bind_some, if_neg ce]

end Go.Proofs.YtbbddeilbcpmiaaDoor.Pure

/- Plain facts for AlertValid: the reference's lists of labels. -/
namespace Go.Proofs.YtbbddeilbcpmiaaDoor.Pure
open Go.RowKit Go.Proofs.YtbbddeilbcpmiaaDoor.Q Go.Proofs.YtbbddeilbcpmiaaDoorW.PrintWords Go.Proofs.YtbbddeilbcpmiaaDoorW.PrintLast Go.Proofs.YtbbddeilbcpmiaaDoorW.PrintMore
set_option linter.unusedVariables false
set_option linter.unusedSimpArgs false

theorem same_l0 {L S : List S35} (hS : S.length = L.length) (hl : L.length ≤ 100) : ∀ (d i : Nat), i + d = L.length → ∃ b : Bool, (b = true ↔ ∀ j, i ≤ j → j < L.length → (S.getD j z35).f0.toList = (L.getD j z35).f0.toList ∧ (S.getD j z35).f1.toList = (L.getD j z35).f1.toList) ∧ ∀ k, d < k → intervalmonref05_Same.l0 k S L (i : Int) = some b := by
  intro d
  induction d with
  | zero =>
    intro i hi
    refine ⟨true, ⟨fun _ j h1 h2 => by omega, fun _ => rfl⟩, ?_⟩
    intro k hk
    obtain ⟨k, rfl⟩ : ∃ j, k = j + 1 := ⟨k - 1, by omega⟩
    rw [intervalmonref05_Same.l0, if_neg (by omega)]
  | succ d ih =>
    intro i hi
    obtain ⟨b, hb, hk⟩ := ih (i + 1) (by omega)
    by_cases c : (S.getD i z35).f0.toList = (L.getD i z35).f0.toList ∧ (S.getD i z35).f1.toList = (L.getD i z35).f1.toList
    · refine ⟨b, ?_, ?_⟩
      · rw [hb]
        constructor
        · intro h j h1 h2
          by_cases e : j = i
          · subst e; exact c
          · exact h j (by omega) h2
        · intro h j h1 h2; exact h j (by omega) h2
      · intro k hkk
        obtain ⟨k, rfl⟩ : ∃ j, k = j + 1 := ⟨k - 1, by omega⟩
        rw [intervalmonref05_Same.l0, if_pos (by omega), if_pos (by omega), if_pos (by omega), rdL, rdL, c.1, c.2, w1 (by omega), if_neg (by simp)]
        exact hk k (by omega)
    · refine ⟨false, ⟨fun h => (by cases h), fun h => absurd (h i (Nat.le_refl _) (by omega)) c⟩, ?_⟩
      intro k hkk
      obtain ⟨k, rfl⟩ : ∃ j, k = j + 1 := ⟨k - 1, by omega⟩
      rw [intervalmonref05_Same.l0, if_pos (by omega), if_pos (by omega), if_pos (by omega), rdL, rdL, if_pos]
      exact differ _ _ _ _ c

theorem same_ok {L S : List S35} (hS : S.length = L.length) (hl : L.length ≤ 100) : ∃ b : Bool, (b = true ↔ ∀ j, j < L.length → (S.getD j z35).f0.toList = (L.getD j z35).f0.toList ∧ (S.getD j z35).f1.toList = (L.getD j z35).f1.toList) ∧ ∀ k, 101 ≤ k → intervalmonref05_Same.f k S L = some b := by
  obtain ⟨b, hb, hk⟩ := same_l0 hS hl L.length 0 (by omega)
  refine ⟨b, ⟨fun h j hj => hb.mp h j (Nat.zero_le _) hj, fun h => hb.mpr fun j _ hj => h j hj⟩, fun k hkk => ?_⟩
  unfold intervalmonref05_Same.f
  rw [if_pos (by omega)]
  exact hk k (by omega)

theorem take_snocS {H : List S35} {i : Nat} (h : i < H.length) : H.take (i + 1) = H.take i ++ [H.getD i z35] := by
  rw [List.take_add_one, List.getD_eq_getElem?_getD, List.getElem?_eq_getElem h]
  rfl
theorem drop_consS {H : List S35} {i : Nat} (h : i < H.length) : H.drop i = H.getD i z35 :: H.drop (i + 1) := by
  rw [List.getD_eq_getElem?_getD, List.getElem?_eq_getElem h]
  exact List.drop_eq_getElem_cons h

theorem ins_pair {x4 : List S35} {v : S35} {j : Nat} (hp : x4.Pairwise lessN) (h1 : ∀ x ∈ x4.take j, lessN x v) (h2 : ∀ x ∈ x4.drop j, lessN v x) : (x4.take j ++ [v] ++ x4.drop j).Pairwise lessN := by
  have hp' := hp
  rw [← List.take_append_drop j x4] at hp'
  obtain ⟨pa, pb, pc⟩ := List.pairwise_append.mp hp'
  rw [List.append_assoc]
  refine List.pairwise_append.mpr ⟨pa, ?_, ?_⟩
  · exact List.pairwise_cons.mpr ⟨h2, pb⟩
  · intro a ha b hb
    rcases List.mem_cons.mp hb with rfl | hb
    · exact h1 a ha
    · exact pc a ha b hb

def ResL (L out : List S35) (e : Int) : Prop := (e = 0 → out.Pairwise lessN ∧ out.length = L.length ∧ ∀ j, j < L.length → okL (L.getD j z35)) ∧ (goodL L → out = L ∧ e = 0)

theorem size_nil (s : ByteArray) : s.toList = [] ↔ s.size = 0 := by
  rw [Lib.toList_data]
  constructor
  · intro h
    have : s.data.toList.length = 0 := by rw [h]; rfl
    rw [Array.length_toList] at this
    exact this
  · intro h
    apply List.eq_nil_of_length_eq_zero
    rw [Array.length_toList]
    exact h

theorem good_take {L : List S35} (h : goodL L) {i j : Nat} (hij : j < i) (hi : i < L.length) : lessN ((L.take i).getD j z35) (L.getD i z35) := by
  have e : (L.take i).getD j z35 = L.getD j z35 := by
    rw [List.getD_eq_getElem?_getD, List.getD_eq_getElem?_getD, List.getElem?_take_of_lt hij]
  rw [e]
  exact asc_lt h.2.2 hij hi

theorem new_l1 {L : List S35} (h8 : L.length ≤ 8) {i : Nat} (hi : i < L.length) {x4 : List S35} (hp : x4.Pairwise lessN) (hx : x4.length = i) (hg : goodL L → x4 = L.take i)
    (hcont : ∀ y : List S35, y.Pairwise lessN → y.length = i + 1 → (goodL L → y = L.take (i + 1)) → ∃ out e, Ev (fun k => intervalmonref05_New.l0 k L y ((i + 1 : Nat) : Int)) (out, e) ∧ ResL L out e) :
    ∀ (d j : Nat), j + d = i → (∀ x ∈ x4.take j, lessN x (L.getD i z35)) → ∃ out e, Ev (fun k => intervalmonref05_New.l1 k L x4 (i : Int) (x4.take j) (j : Int)) (out, e) ∧ ResL L out e := by
  intro d
  induction d with
  | zero =>
    intro j hj hlt
    obtain rfl : j = i := by omega
    have et : x4.take j = x4 := List.take_of_length_le (by omega)
    have ed : x4.drop j = [] := List.drop_eq_nil_of_le (by omega)
    obtain ⟨out, e, hE, hR⟩ := hcont (x4.take j ++ [L.getD j z35] ++ x4.drop j) (ins_pair hp hlt (by rw [ed]; intro x hx; cases hx)) (by rw [et, ed]; simp [hx]) (fun h => by rw [ed, List.append_nil, et, take_snocS hi]; rw [← hg h])
    refine ⟨out, e, stepE 0 (fun k _ => ?_) hE, hR⟩
    rw [intervalmonref05_New.l1, if_neg (by omega), if_pos (by omega), if_pos (by omega), if_pos (by rw [et]; omega), Option.bind_some, if_pos (by omega), if_pos (by omega), Int.toNat_natCast, Option.bind_some, if_pos (by rw [ed, et]; simp; omega), w1 (by omega)]
    rfl
  | succ d ih =>
    intro j hj hlt
    have hjl : j < x4.length := by omega
    by_cases c1 : lessN (x4.getD j z35) (L.getD i z35)
    · have hlt' : ∀ x ∈ x4.take (j + 1), lessN x (L.getD i z35) := by
        intro x hx'
        rw [take_snocS hjl] at hx'
        rcases List.mem_append.mp hx' with h | h
        · exact hlt x h
        · rw [List.mem_singleton.mp h]; exact c1
      obtain ⟨out, e, hE, hR⟩ := ih (j + 1) (by omega) hlt'
      refine ⟨out, e, stepE 0 (fun k _ => ?_) hE, hR⟩
      rw [intervalmonref05_New.l1, if_pos (by omega), if_pos (by omega), if_pos (by omega), if_pos (by omega), rdL, rdL, if_pos ((less_iff _ _).mpr c1), if_pos (by rw [List.length_take]; omega), w1 (by omega), take_snocS hjl]
    · have hng : ¬ goodL L := by
        intro h
        apply c1
        rw [hg h]
        exact good_take h (by omega) hi
      have hb : ¬ Op.bytesLess (x4.getD j z35).f0.toList (L.getD i z35).f0.toList = true := fun h => c1 ((less_iff _ _).mp h)
      by_cases c2 : (x4.getD j z35).f0.toList = (L.getD i z35).f0.toList
      · refine ⟨[], 10, stepE 0 (f := fun _ => some ([], 10)) (fun k _ => ?_) (Ev.now _), ⟨fun h => absurd h (by decide), fun h => absurd h hng⟩⟩
        rw [intervalmonref05_New.l1, if_pos (by omega), if_pos (by omega), if_pos (by omega), if_pos (by omega), rdL, rdL, if_neg hb, if_pos c2]
      · have c3 : lessN (L.getD i z35) (x4.getD j z35) := by
          by_cases h : lessN (L.getD i z35) (x4.getD j z35)
          · exact h
          · exact absurd (name_tri c1 h) c2
        have hdrop : ∀ x ∈ x4.drop j, lessN (L.getD i z35) x := by
          have hp' := hp
          rw [← List.take_append_drop j x4] at hp'
          have pb := (List.pairwise_append.mp hp').2.1
          rw [drop_consS hjl] at pb ⊢
          intro x hx'
          rcases List.mem_cons.mp hx' with rfl | h
          · exact c3
          · exact lessN_trans c3 ((List.pairwise_cons.mp pb).1 x h)
        obtain ⟨out, e, hE, hR⟩ := hcont (x4.take j ++ [L.getD i z35] ++ x4.drop j) (ins_pair hp hlt hdrop) (by simp; omega) (fun h => absurd h hng)
        refine ⟨out, e, stepE 0 (fun k _ => ?_) hE, hR⟩
        rw [intervalmonref05_New.l1, if_pos (by omega), if_pos (by omega), if_pos (by omega), if_pos (by omega), rdL, rdL, if_neg hb, if_neg c2, if_pos (by rw [List.length_take]; omega), Option.bind_some, if_pos (by omega), Int.toNat_natCast, Option.bind_some, if_pos (by simp; omega), w1 (by omega)]

theorem new_l0 {L : List S35} (h8 : L.length ≤ 8) : ∀ (d i : Nat) (x4 : List S35), i + d = L.length → x4.Pairwise lessN → x4.length = i → (goodL L → x4 = L.take i) → (∀ j, j < i → okL (L.getD j z35)) →
    ∃ out e, Ev (fun k => intervalmonref05_New.l0 k L x4 (i : Int)) (out, e) ∧ ResL L out e := by
  intro d
  induction d with
  | zero =>
    intro i x4 hi hp hx hg hok
    obtain rfl : i = L.length := by omega
    refine ⟨x4, 0, stepE 0 (f := fun _ => some (x4, 0)) (fun k _ => ?_) (Ev.now _), ⟨fun _ => ⟨hp, hx, hok⟩, fun h => ⟨by rw [hg h, List.take_length], rfl⟩⟩⟩
    rw [intervalmonref05_New.l0, if_neg (by omega)]
  | succ d ih =>
    intro i x4 hi hp hx hg hok
    have hil : i < L.length := by omega
    by_cases cn : nameB (L.getD i z35).f0 = true
    · by_cases cs : (L.getD i z35).f1.size = 0
      · have hng : ¬ goodL L := fun h => (h.2.1 i hil).2.1 cs
        refine ⟨[], 1, stepE 30 (f := fun _ => some ([], 1)) (fun k hk => ?_) (Ev.now _), ⟨fun h => absurd h (by decide), fun h => absurd h hng⟩⟩
        obtain ⟨k, rfl⟩ : ∃ j, k = j + 1 := ⟨k - 1, by omega⟩
        rw [intervalmonref05_New.l0, if_pos (by omega), if_pos (by omega), rdL, name_ref _ (by omega), Option.bind_some, if_pos cn, if_pos ((size_nil _).mpr cs), intervalmonref05_New.j1, if_pos rfl]
      · have cs' : ¬ (L.getD i z35).f1.toList = [] := fun h => cs ((size_nil _).mp h)
        by_cases cv : valueB (L.getD i z35).f1 = true
        · have hok' : ∀ j, j < i + 1 → okL (L.getD j z35) := by
            intro j hj
            by_cases e : j = i
            · subst e; exact ⟨cn, cs, cv⟩
            · exact hok j (by omega)
          obtain ⟨out, e, hE, hR⟩ := new_l1 h8 hil hp hx hg (fun y y1 y2 y3 => ih (i + 1) y (by omega) y1 y2 y3 hok') i 0 (by omega) (by intro x hx'; cases hx')
          refine ⟨out, e, stepE 30 (f := fun k => intervalmonref05_New.j1 k L x4 (i : Int) false) (fun k hk => ?_) (stepE 0 (fun k _ => ?_) hE), hR⟩
          · rw [intervalmonref05_New.l0, if_pos (by omega), if_pos (by omega), rdL, name_ref _ (by omega), Option.bind_some, if_pos cn, if_neg cs', value_ref _ (by omega), Option.bind_some, cv]
            rfl
          · rw [intervalmonref05_New.j1, if_neg (by decide)]
            rfl
        · have hng : ¬ goodL L := fun h => cv (h.2.1 i hil).2.2
          have cv' : valueB (L.getD i z35).f1 = false := Bool.eq_false_iff.mpr cv
          refine ⟨[], 1, stepE 30 (f := fun _ => some ([], 1)) (fun k hk => ?_) (Ev.now _), ⟨fun h => absurd h (by decide), fun h => absurd h hng⟩⟩
          obtain ⟨k, rfl⟩ : ∃ j, k = j + 1 := ⟨k - 1, by omega⟩
          rw [intervalmonref05_New.l0, if_pos (by omega), if_pos (by omega), rdL, name_ref _ (by omega), Option.bind_some, if_pos cn, if_neg cs', value_ref _ (by omega), Option.bind_some, cv', intervalmonref05_New.j1, if_pos (show (!false) = true from rfl)]
    · have hng : ¬ goodL L := fun h => cn (h.2.1 i hil).1
      refine ⟨[], 8, stepE 30 (f := fun _ => some ([], 8)) (fun k hk => ?_) (Ev.now _), ⟨fun h => absurd h (by decide), fun h => absurd h hng⟩⟩
      rw [intervalmonref05_New.l0, if_pos (by omega), if_pos (by omega), rdL, name_ref _ (by omega), Option.bind_some, if_neg cn]

theorem pair_asc {out : List S35} (h : out.Pairwise lessN) {i : Nat} (hi : i + 1 < out.length) : lessN (out.getD i z35) (out.getD (i + 1) z35) := by
  have := List.pairwise_iff_getElem.mp h i (i + 1) (by omega) hi (by omega)
  rw [List.getD_eq_getElem?_getD, List.getD_eq_getElem?_getD, List.getElem?_eq_getElem (by omega), List.getElem?_eq_getElem hi]
  exact this

theorem ref_valid_ok (L : List S35) : ∃ b : Bool, (b = true ↔ goodL L) ∧ Ev (fun k => intervalmonref05_Valid.f k L) b := by
  by_cases c8 : (L.length : Int) > 8
  · refine ⟨false, ⟨fun h => (by cases h), fun h => by have := h.1; omega⟩, 0, fun k _ => ?_⟩
    show intervalmonref05_Valid.f k L = some false
    unfold intervalmonref05_Valid.f intervalmonref05_New.f
    rw [if_pos c8]
    rfl
  · obtain ⟨out, e, ⟨K, hK⟩, hR⟩ := new_l0 (L := L) (by omega) L.length 0 [] (by omega) List.Pairwise.nil rfl (fun _ => rfl) (fun j hj => by omega)
    by_cases ce : e = 0
    · obtain ⟨hp, hlen, hok⟩ := hR.1 ce
      obtain ⟨b, hb, hk⟩ := same_ok (L := L) (S := out) hlen (by omega)
      refine ⟨b, ?_, K + 101, fun k hkk => ?_⟩
      · rw [hb]
        constructor
        · intro h
          refine ⟨by omega, hok, fun i hi => ?_⟩
          have h1 := (h i (by omega)).1
          have h2 := (h (i + 1) hi).1
          rw [← lessN_congr h1 h2]
          exact pair_asc hp (by omega)
        · intro h j hj
          rw [(hR.2 h).1]
          exact ⟨rfl, rfl⟩
      · show intervalmonref05_Valid.f k L = some b
        have hn : intervalmonref05_New.f k L = some (out, e) := by
          unfold intervalmonref05_New.f
          rw [if_neg c8]
          exact hK k (by omega)
        unfold intervalmonref05_Valid.f
        rw [hn, Option.bind_some, if_pos ce, hk k (by omega)]
        rfl
    · refine ⟨false, ⟨fun h => (by cases h), fun h => absurd (hR.2 h).2 ce⟩, K, fun k hkk => ?_⟩
      show intervalmonref05_Valid.f k L = some false
      have hn : intervalmonref05_New.f k L = some (out, e) := by
        unfold intervalmonref05_New.f
        rw [if_neg c8]
        exact hK k (by omega)
      unfold intervalmonref05_Valid.f
      rw [hn, Option.bind_some, if_neg ce]

/-- On labels both sides agree, whatever they are. -/
theorem labels_both (L : List S35) : ∃ b : Bool, (b = true ↔ goodL L) ∧ Ev (fun k => labels_Valid.f k L) b ∧ Ev (fun k => intervalmonref05_Valid.f k L) b := by
  obtain ⟨b, hb, h1⟩ := labels_valid_ok L
  obtain ⟨c, hc, h2⟩ := ref_valid_ok L
  obtain rfl : b = c := by rw [Bool.eq_iff_iff, hb, hc]
  exact ⟨b, hb, ⟨10, h1⟩, h2⟩

end Go.Proofs.YtbbddeilbcpmiaaDoor.Pure

/- Plain facts for the laws of chapter 28: both sides call the same alerts valid. -/
namespace Go.Proofs.YtbbddeilbcpmiaaDoor.Pure
open Go.RowKit Go.Proofs.YtbbddeilbcpmiaaDoor.Q Go.Proofs.YtbbddeilbcpmiaaDoorW.PrintWords Go.Proofs.YtbbddeilbcpmiaaDoorW.PrintLast Go.Proofs.YtbbddeilbcpmiaaDoorW.PrintMore
set_option linter.unusedVariables false
set_option linter.unusedSimpArgs false

/-- since and level go with the state -/
def stB (st si lv : Int) : Bool := decide (0 ≤ si) && decide (si ≤ 1048576) && ((decide (0 ≤ st) && decide (st ≤ 2) && decide (lv = 0)) || (decide (st = 3) && decide (0 ≤ lv) && decide (lv ≤ 16)) || (decide (st = 4) && decide (1 ≤ lv) && decide (lv ≤ 16)))

theorem tail_st {st si lv : Int} (h0 : 0 ≤ st) (h4 : st ≤ 4) : alert_Valid.tail st si lv = stB st si lv := by
  have hs : st = 0 ∨ st = 1 ∨ st = 2 ∨ st = 3 ∨ st = 4 := by omega
  have a0 : alert_Valid.lo 0 = 0 := rfl
  have a1 : alert_Valid.lo 1 = 0 := rfl
  have a2 : alert_Valid.lo 2 = 0 := rfl
  have a3 : alert_Valid.lo 3 = 0 := rfl
  have a4 : alert_Valid.lo 4 = 1 := rfl
  have b0 : alert_Valid.hi 0 = 0 := rfl
  have b1 : alert_Valid.hi 1 = 0 := rfl
  have b2 : alert_Valid.hi 2 = 0 := rfl
  have b3 : alert_Valid.hi 3 = 16 := rfl
  have b4 : alert_Valid.hi 4 = 16 := rfl
  unfold alert_Valid.tail stB
  by_cases c1 : si < 0
  · rw [if_pos c1, decide_eq_false (by omega : ¬ 0 ≤ si)]; rfl
  · rw [if_neg c1, decide_eq_true (by omega : 0 ≤ si)]
    by_cases c2 : 1048576 < si
    · rw [if_pos c2, decide_eq_false (by omega : ¬ si ≤ 1048576)]; rfl
    · rw [if_neg c2, decide_eq_true (by omega : si ≤ 1048576)]
      have e : ∀ (l h : Int), (if lv < l then false else decide (lv ≤ h)) = (decide (l ≤ lv) && decide (lv ≤ h)) := by
        intro l h
        by_cases c : lv < l
        · rw [if_pos c, decide_eq_false (by omega : ¬ l ≤ lv)]; rfl
        · rw [if_neg c, decide_eq_true (by omega : l ≤ lv)]; rfl
      rw [e]
      have z : (decide (0 ≤ lv) && decide (lv ≤ 0)) = decide (lv = 0) := by
        rw [← Bool.decide_and]
        exact decide_eq_decide.mpr (by omega)
      rcases hs with rfl | rfl | rfl | rfl | rfl
      · rw [a0, b0, z]; simp
      · rw [a1, b1, z]; simp
      · rw [a2, b2, z]; simp
      · rw [a3, b3]; simp
      · rw [a4, b4]; simp

/-- what both sides mean by a valid alert, beside its labels -/
def restV (n : ByteArray) (v st si lv : Int) : Bool := nameB n && decide (1 ≤ v) && stB st si lv

theorem stB_state {st si lv : Int} (h : stB st si lv = true) : 0 ≤ si ∧ si ≤ 1048576 ∧ ((0 ≤ st ∧ st ≤ 2 ∧ lv = 0) ∨ (st = 3 ∧ 0 ≤ lv ∧ lv ≤ 16) ∨ (st = 4 ∧ 1 ≤ lv ∧ lv ≤ 16)) := by
  unfold stB at h
  simp only [Bool.and_eq_true, Bool.or_eq_true, decide_eq_true_eq] at h
  omega
theorem stB_of {st si lv : Int} (h : 0 ≤ si ∧ si ≤ 1048576 ∧ ((0 ≤ st ∧ st ≤ 2 ∧ lv = 0) ∨ (st = 3 ∧ 0 ≤ lv ∧ lv ≤ 16) ∨ (st = 4 ∧ 1 ≤ lv ∧ lv ≤ 16))) : stB st si lv = true := by
  unfold stB
  simp only [Bool.and_eq_true, Bool.or_eq_true, decide_eq_true_eq]
  omega

theorem alert_valid_eq (k : Nat) {n : ByteArray} {v : Int} {L : List S35} {st si lv : Int} {g : Bool} (hl : labels_Valid.f k L = some g) : alert_Valid.f k n v L st si lv = some (g && restV n v st si lv) := by
  unfold alert_Valid.f restV
  rw [hl]
  by_cases c1 : nameB n = true
  · rw [if_pos c1, c1]
    by_cases c2 : v < 1
    · rw [if_pos c2, decide_eq_false (by omega : ¬ 1 ≤ v)]; simp
    · rw [if_neg c2, decide_eq_true (by omega : 1 ≤ v), Option.bind_some]
      cases g
      · rw [if_neg (by decide)]; rfl
      · rw [if_pos rfl]
        by_cases c3 : st < 0
        · have : stB st si lv = false := by
            cases h : stB st si lv
            · rfl
            · have := stB_state h; omega
          rw [if_pos c3, this]; rfl
        · rw [if_neg c3]
          by_cases c4 : 4 < st
          · have : stB st si lv = false := by
              cases h : stB st si lv
              · rfl
              · have := stB_state h; omega
            rw [if_pos c4, this]; rfl
          · rw [if_neg c4, tail_st (by omega) (by omega)]; rfl
  · rw [if_neg c1, Bool.eq_false_iff.mpr c1]; simp

theorem ref_j1 (k : Nat) {n : ByteArray} {v : Int} {L : List S35} {st si lv : Int} {x : Bool} (h0 : 0 ≤ si) (h1 : si ≤ 1048576) (hx : x = true ↔ (st = 0 ∨ st = 1 ∨ st = 2)) : intervalmonref28_Valid.j1 (k + 1) st x n v L st si lv = some (stB st si lv) := by
  have hs : ∀ b : Bool, (b = true ↔ ((0 ≤ st ∧ st ≤ 2 ∧ lv = 0) ∨ (st = 3 ∧ 0 ≤ lv ∧ lv ≤ 16) ∨ (st = 4 ∧ 1 ≤ lv ∧ lv ≤ 16))) → b = stB st si lv := by
    intro b hb
    rw [Bool.eq_iff_iff, hb]
    exact ⟨fun h => stB_of ⟨h0, h1, h⟩, fun h => (stB_state h).2.2⟩
  rw [intervalmonref28_Valid.j1]
  by_cases cx : x = true
  · have hst := hx.mp cx
    rw [if_pos cx]
    refine congrArg some (hs _ ?_)
    rw [beq_iff_eq]
    omega
  · have hst : ¬ (st = 0 ∨ st = 1 ∨ st = 2) := fun h => cx (hx.mpr h)
    rw [if_neg cx]
    by_cases c3 : st = 3
    · rw [if_pos c3]
      by_cases c : lv ≥ 0
      · rw [if_pos c]
        refine congrArg some (hs _ ?_)
        rw [decide_eq_true_eq]
        omega
      · rw [if_neg c]
        refine congrArg some (hs _ ?_)
        exact ⟨fun h => (by cases h), fun h => by omega⟩
    · rw [if_neg c3]
      by_cases c4 : st = 4
      · rw [if_pos c4]
        by_cases c : lv ≥ 1
        · rw [if_pos c]
          refine congrArg some (hs _ ?_)
          rw [decide_eq_true_eq]
          omega
        · rw [if_neg c]
          refine congrArg some (hs _ ?_)
          exact ⟨fun h => (by cases h), fun h => by omega⟩
      · rw [if_neg c4]
        refine congrArg some (hs _ ?_)
        exact ⟨fun h => (by cases h), fun h => by omega⟩

theorem ref_j0 (k : Nat) {n : ByteArray} {v : Int} {L : List S35} {st si lv : Int} (h0 : 0 ≤ si) (h1 : si ≤ 1048576) : intervalmonref28_Valid.j0 (k + 2) false n v L st si lv = some (stB st si lv) := by
  rw [intervalmonref28_Valid.j0, if_neg (by decide)]
  by_cases c0 : st = 0
  · rw [if_pos c0]
    exact ref_j1 k h0 h1 (by rw [beq_iff_eq]; omega)
  · rw [if_neg c0]
    by_cases c1 : st = 1
    · rw [if_pos c1]
      exact ref_j1 k h0 h1 (by rw [beq_iff_eq]; omega)
    · rw [if_neg c1]
      exact ref_j1 k h0 h1 (by rw [beq_iff_eq]; omega)

theorem ref_j0t (k : Nat) {n : ByteArray} {v : Int} {L : List S35} {st si lv : Int} : intervalmonref28_Valid.j0 (k + 1) true n v L st si lv = some false := by
  rw [intervalmonref28_Valid.j0, if_pos rfl]

theorem stB_out {st si lv : Int} (h : ¬ (0 ≤ si ∧ si ≤ 1048576)) : stB st si lv = false := by
  cases hx : stB st si lv
  · rfl
  · have := stB_state hx; omega

theorem ref_valid_eq (k : Nat) {n : ByteArray} {v : Int} {L : List S35} {st si lv : Int} {g : Bool} (hk : 30 ≤ k) (hl : intervalmonref05_Valid.f k L = some g) : intervalmonref28_Valid.f k n v L st si lv = some (g && restV n v st si lv) := by
  obtain ⟨k', rfl⟩ : ∃ j, k = j + 2 := ⟨k - 2, by omega⟩
  have t1 : ∀ (a : Bool), intervalmonref28_Valid.j0 (k' + 2) true n v L st si lv = some false := fun _ => ref_j0t (k' + 1)
  unfold intervalmonref28_Valid.f restV
  rw [name_ref n (by omega), Option.bind_some, hl, Option.bind_some]
  by_cases c1 : nameB n = true
  · rw [if_pos c1, c1]
    by_cases cg : g = true
    · rw [if_pos cg, cg]
      by_cases c2 : v < 1
      · rw [if_pos c2, t1 true, decide_eq_false (by omega : ¬ 1 ≤ v)]; simp
      · rw [if_neg c2, decide_eq_true (by omega : 1 ≤ v)]
        by_cases c3 : si < 0
        · rw [if_pos c3, t1 true, stB_out (by omega)]; rfl
        · rw [if_neg c3]
          by_cases c4 : si > 1048576
          · rw [decide_eq_true c4, t1 true, stB_out (by omega)]; rfl
          · rw [decide_eq_false c4, ref_j0 k' (by omega) (by omega)]; rfl
    · rw [if_neg cg, t1 true, Bool.eq_false_iff.mpr cg]; rfl
  · rw [if_neg c1, t1 true, Bool.eq_false_iff.mpr c1]; simp

/-- Both sides call the same alerts valid. -/
theorem valid_both (n : ByteArray) (v : Int) (L : List S35) (st si lv : Int) : ∃ b : Bool, (b = true ↔ goodL L ∧ restV n v st si lv = true) ∧ ∃ K, ∀ k, K ≤ k → alert_Valid.f k n v L st si lv = some b ∧ intervalmonref28_Valid.f k n v L st si lv = some b := by
  obtain ⟨g, hg, ⟨K1, h1⟩, ⟨K2, h2⟩⟩ := labels_both L
  refine ⟨g && restV n v st si lv, ?_, K1 + K2 + 30, fun k hk => ⟨alert_valid_eq k (h1 k (by omega)), ref_valid_eq k (by omega) (h2 k (by omega))⟩⟩
  rw [Bool.and_eq_true, hg]

end Go.Proofs.YtbbddeilbcpmiaaDoor.Pure

/- Plain facts for the laws of chapter 28: the generated alerts. -/
namespace Go.Proofs.YtbbddeilbcpmiaaDoor.Pure
open Go.RowKit Go.Proofs.YtbbddeilbcpmiaaDoor.Q Go.Proofs.YtbbddeilbcpmiaaDoorW.PrintWords Go.Proofs.YtbbddeilbcpmiaaDoorW.PrintLast Go.Proofs.YtbbddeilbcpmiaaDoorW.PrintMore
set_option linter.unusedVariables false
set_option linter.unusedSimpArgs false

theorem pick_ok {l : List Int} (hw : ∀ x ∈ l, (Lit.int .i64 x).wf = true) (a : Int) {m : Int} (hm : 0 < m) : ∃ t, intervalmonref01_Pick.f l a m = some t ∧ 0 ≤ t ∧ t < m := by
  unfold intervalmonref01_Pick.f
  by_cases c1 : a < 0
  · rw [if_pos c1]; exact ⟨0, rfl, by omega, hm⟩
  · rw [if_neg c1]
    by_cases c2 : a ≥ (l.length : Int)
    · rw [if_pos c2]; exact ⟨0, rfl, by omega, hm⟩
    · rw [if_neg c2, if_pos (by omega), if_pos (by omega)]
      have hx : (Lit.int .i64 (rd l a)).wf = true := by
        apply hw
        unfold rd
        exact getD_mem (by omega)
      obtain ⟨t, ht, h0, h1⟩ := around_ok hx hm
      rw [ht]
      exact ⟨t, rfl, h0, h1⟩

theorem snoc_lt {α : Type} (bs : List α) (b d : α) {j : Nat} (h : j < bs.length) : (bs ++ [b]).getD j d = bs.getD j d := by
  rw [List.getD_eq_getElem?_getD, List.getD_eq_getElem?_getD, List.getElem?_append_left h]
theorem snoc_eq {α : Type} (bs : List α) (b d : α) {j : Nat} (h : j = bs.length) : (bs ++ [b]).getD j d = b := by
  subst h
  rw [List.getD_eq_getElem?_getD, List.getElem?_append_right (Nat.le_refl _)]
  simp
def names : List ByteArray := [(⟨#[97]⟩ : ByteArray), (⟨#[97, 98]⟩ : ByteArray), (⟨#[98]⟩ : ByteArray), (⟨#[106, 111, 98]⟩ : ByteArray), (⟨#[120, 95, 49]⟩ : ByteArray), (⟨#[122, 111, 110, 101]⟩ : ByteArray)]
def vals : List ByteArray := [(⟨#[97]⟩ : ByteArray), (⟨#[97, 98]⟩ : ByteArray), (⟨#[98]⟩ : ByteArray), (⟨#[120, 49]⟩ : ByteArray), (⟨#[126, 33]⟩ : ByteArray), (⟨#[48]⟩ : ByteArray)]
theorem names_ok (i : Nat) (h : i < 6) : nameB (names.getD i ByteArray.empty) = true := by
  have : i = 0 ∨ i = 1 ∨ i = 2 ∨ i = 3 ∨ i = 4 ∨ i = 5 := by omega
  rcases this with rfl | rfl | rfl | rfl | rfl | rfl <;> decide +kernel
theorem vals_ok (i : Nat) (h : i < 6) : (vals.getD i ByteArray.empty).size ≠ 0 ∧ valueB (vals.getD i ByteArray.empty) = true := by
  have : i = 0 ∨ i = 1 ∨ i = 2 ∨ i = 3 ∨ i = 4 ∨ i = 5 := by omega
  rcases this with rfl | rfl | rfl | rfl | rfl | rfl <;> exact ⟨by decide +kernel, by decide +kernel⟩
theorem names_asc (i j : Nat) (h : i < j) (hj : j < 6) : Op.bytesLess (names.getD i ByteArray.empty).toList (names.getD j ByteArray.empty).toList = true := by
  have : j = 1 ∨ j = 2 ∨ j = 3 ∨ j = 4 ∨ j = 5 := by omega
  have : i = 0 ∨ i = 1 ∨ i = 2 ∨ i = 3 ∨ i = 4 := by omega
  rcases this with rfl | rfl | rfl | rfl | rfl <;> rcases ‹j = 1 ∨ _› with rfl | rfl | rfl | rfl | rfl <;> first | (exfalso; omega) | decide +kernel

/-- labels made of the first i names, in their order -/
def MadeOf (i : Nat) (acc : List S35) : Prop := ∃ js : List Nat, js.length = acc.length ∧ js.Pairwise (· < ·) ∧ (∀ j ∈ js, j < i) ∧ ∀ m, m < acc.length → (acc.getD m z35).f0 = names.getD (js.getD m 0) ByteArray.empty ∧ ∃ v, v < 6 ∧ (acc.getD m z35).f1 = vals.getD v ByteArray.empty
theorem MadeOf.mono {i : Nat} {acc : List S35} (h : MadeOf i acc) : MadeOf (i + 1) acc := by
  obtain ⟨js, h1, h2, h3, h4⟩ := h
  exact ⟨js, h1, h2, fun j hj => by have := h3 j hj; omega, h4⟩
theorem MadeOf.snoc {i : Nat} {acc : List S35} (h : MadeOf i acc) {v : Nat} (hv : v < 6) : MadeOf (i + 1) (acc ++ [⟨names.getD i ByteArray.empty, vals.getD v ByteArray.empty⟩]) := by
  obtain ⟨js, h1, h2, h3, h4⟩ := h
  refine ⟨js ++ [i], by simp [h1], List.pairwise_append.mpr ⟨h2, List.pairwise_singleton _ _, ?_⟩, ?_, ?_⟩
  · intro a ha b hb
    rw [List.mem_singleton.mp hb]
    exact h3 a ha
  · intro j hj
    rcases List.mem_append.mp hj with h | h
    · have := h3 j h; omega
    · rw [List.mem_singleton.mp h]; omega
  · intro m hm
    by_cases c : m < acc.length
    · rw [snoc_lt acc _ z35 c, snoc_lt js _ 0 (by omega)]
      exact h4 m c
    · have e : m = acc.length := by simp at hm; omega
      rw [snoc_eq acc _ z35 e, snoc_eq js _ 0 (by omega)]
      exact ⟨rfl, v, hv, rfl⟩
theorem MadeOf.good {acc : List S35} (h : MadeOf 6 acc) (hl : acc.length ≤ 6) : goodL acc := by
  obtain ⟨js, h1, h2, h3, h4⟩ := h
  have hj : ∀ m, m < acc.length → js.getD m 0 < 6 := by
    intro m hm
    apply h3
    rw [List.getD_eq_getElem?_getD, List.getElem?_eq_getElem (by omega)]
    exact List.getElem_mem (by omega)
  refine ⟨by omega, ?_, ?_⟩
  · intro i hi
    obtain ⟨e0, v, hv, e1⟩ := h4 i hi
    unfold okL
    rw [e0, e1]
    exact ⟨names_ok _ (hj i hi), vals_ok v hv⟩
  · intro i hi
    rw [← less_iff, (h4 i (by omega)).1, (h4 (i + 1) hi).1]
    refine names_asc _ _ ?_ (hj (i + 1) hi)
    have := List.pairwise_iff_getElem.mp h2 i (i + 1) (by omega) (by omega) (by omega)
    rw [List.getD_eq_getElem?_getD, List.getD_eq_getElem?_getD, List.getElem?_eq_getElem (by omega), List.getElem?_eq_getElem (by omega)]
    exact this

theorem set_l0 {l : List Int} (hw : ∀ x ∈ l, (Lit.int .i64 x).wf = true) : ∀ (d i : Nat) (x5 : Int) (acc : List S35), i + d = 6 → acc.length ≤ i → MadeOf i acc →
    ∃ r : List S35, (∀ k, d < k → intervalmonref05_Set.l0 k l names vals x5 acc (i : Int) = some r) ∧ r.length ≤ 6 ∧ MadeOf 6 r := by
  have hn : names.length = 6 := rfl
  have hv : vals.length = 6 := rfl
  intro d
  induction d with
  | zero =>
    intro i x5 acc hi ha hM
    obtain rfl : i = 6 := by omega
    refine ⟨acc, fun k hk => ?_, ha, hM⟩
    obtain ⟨k, rfl⟩ : ∃ j, k = j + 1 := ⟨k - 1, by omega⟩
    rw [intervalmonref05_Set.l0, if_neg (by omega)]
  | succ d ih =>
    intro i x5 acc hi ha hM
    by_cases c : (Int.tmod x5 2) = 1
    · obtain ⟨t, ht, t0, t1⟩ := pick_ok hw (((i + 1 : Nat) : Int)) (m := 6) (by omega)
      obtain ⟨tn, rfl⟩ : ∃ n : Nat, t = (n : Int) := ⟨t.toNat, by omega⟩
      obtain ⟨r, hr, h1, h2⟩ := ih (i + 1) (wrap64 (Int.tdiv x5 2)) (acc ++ [⟨names.getD i ByteArray.empty, vals.getD tn ByteArray.empty⟩]) (by omega) (by simp; omega) (hM.snoc (by omega))
      refine ⟨r, fun k hk => ?_, h1, h2⟩
      obtain ⟨k, rfl⟩ : ∃ j, k = j + 1 := ⟨k - 1, by omega⟩
      rw [intervalmonref05_Set.l0, if_pos (by omega), if_pos c, if_pos (by omega), w1 (by omega), ht, Option.bind_some, if_pos (by omega), if_pos (by omega), if_pos (by omega)]
      exact hr k (by omega)
    · obtain ⟨r, hr, h1, h2⟩ := ih (i + 1) (wrap64 (Int.tdiv x5 2)) acc (by omega) (by omega) hM.mono
      refine ⟨r, fun k hk => ?_, h1, h2⟩
      obtain ⟨k, rfl⟩ : ∃ j, k = j + 1 := ⟨k - 1, by omega⟩
      rw [intervalmonref05_Set.l0, if_pos (by omega), if_neg c, w1 (by omega)]
      exact hr k (by omega)

theorem set_ok {l : List Int} (hw : ∀ x ∈ l, (Lit.int .i64 x).wf = true) : ∃ r : List S35, (∀ k, 7 ≤ k → intervalmonref05_Set.f k l = some r) ∧ goodL r := by
  obtain ⟨t, ht, _, _⟩ := pick_ok hw 0 (m := 64) (by omega)
  obtain ⟨r, hr, h1, h2⟩ := set_l0 hw 6 0 t [] (by omega) (Nat.le_refl _) ⟨[], rfl, List.Pairwise.nil, (fun j hj => by cases hj), fun m hm => by simp at hm⟩
  refine ⟨r, fun k hk => ?_, h2.good h1⟩
  show ((some names).bind fun t116 => ((some vals).bind fun t119 => ((intervalmonref01_Pick.f l 0 64).bind fun t122 => (intervalmonref05_Set.l0 k l t116 t119 t122 ([] : List S35) 0)))) = some r
  rw [Option.bind_some, Option.bind_some, ht, Option.bind_some]
  exact hr k (by omega)

theorem alert_ok {l : List Int} (hw : ∀ x ∈ l, (Lit.int .i64 x).wf = true) : ∃ v L st si lv, (∀ k, 7 ≤ k → intervalmonref28_Alert.f k l = some (hot, v, L, st, si, lv)) ∧ goodL L ∧ restV hot v st si lv = true := by
  obtain ⟨p0, h0, a0, b0⟩ := pick_ok hw 0 (m := 3) (by omega)
  obtain ⟨p1, h1, a1, b1⟩ := pick_ok hw 1 (m := 5) (by omega)
  obtain ⟨p2, h2, a2, b2⟩ := pick_ok hw 2 (m := 50) (by omega)
  obtain ⟨p3, h3, a3, b3⟩ := pick_ok hw 3 (m := 17) (by omega)
  obtain ⟨p4, h4, a4, b4⟩ := pick_ok hw 3 (m := 16) (by omega)
  obtain ⟨L, hL, hg⟩ := set_ok hw
  have rest : ∀ lv, ((0 ≤ p1 ∧ p1 ≤ 2 ∧ lv = 0) ∨ (p1 = 3 ∧ 0 ≤ lv ∧ lv ≤ 16) ∨ (p1 = 4 ∧ 1 ≤ lv ∧ lv ≤ 16)) → restV hot (1 + p0) p1 p2 lv = true := by
    intro lv h
    unfold restV
    rw [hot_name, stB_of ⟨by omega, by omega, h⟩, decide_eq_true (by omega : 1 ≤ 1 + p0)]
    rfl
  have e0 : wrap64 (1 + p0) = 1 + p0 := w64 (by omega) (by omega)
  by_cases c3 : p1 = 3
  · refine ⟨1 + p0, L, p1, p2, p3, fun k hk => ?_, hg, rest p3 (by omega)⟩
    unfold intervalmonref28_Alert.f
    rw [h0, Option.bind_some, hL k hk, Option.bind_some, h1, Option.bind_some, h2, Option.bind_some, if_pos c3, h3, Option.bind_some, if_neg (by omega), e0]
    rfl
  · by_cases c4 : p1 = 4
    · refine ⟨1 + p0, L, p1, p2, 1 + p4, fun k hk => ?_, hg, rest (1 + p4) (by omega)⟩
      unfold intervalmonref28_Alert.f
      rw [h0, Option.bind_some, hL k hk, Option.bind_some, h1, Option.bind_some, h2, Option.bind_some, if_neg c3, if_pos c4, h4, Option.bind_some, e0, w64 (a := 1 + p4) (by omega) (by omega)]
      rfl
    · refine ⟨1 + p0, L, p1, p2, 0, fun k hk => ?_, hg, rest 0 (by omega)⟩
      unfold intervalmonref28_Alert.f
      rw [h0, Option.bind_some, hL k hk, Option.bind_some, h1, Option.bind_some, h2, Option.bind_some, if_neg c3, if_neg c4, e0]
      rfl

end Go.Proofs.YtbbddeilbcpmiaaDoor.Pure

/- Plain facts for the laws of chapter 28: the alerts with one field replaced. -/
namespace Go.Proofs.YtbbddeilbcpmiaaDoor.Pure
open Go.RowKit Go.Proofs.YtbbddeilbcpmiaaDoor.Q Go.Proofs.YtbbddeilbcpmiaaDoorW.PrintWords Go.Proofs.YtbbddeilbcpmiaaDoorW.PrintLast Go.Proofs.YtbbddeilbcpmiaaDoorW.PrintMore
set_option linter.unusedVariables false
set_option linter.unusedSimpArgs false

theorem mod6 {t n : Int} (h0 : 0 ≤ t) (hn : 6 ≤ n) : 0 ≤ Int.tmod t 6 ∧ Int.tmod t 6 < n := by
  have h1 := Int.tmod_nonneg 6 h0
  have h2 := Int.tmod_lt_of_pos t (show (0 : Int) < 6 by omega)
  omega

theorem dirty_l0 {l : List Int} (hw : ∀ x ∈ l, (Lit.int .i64 x).wf = true) {ns vs : List ByteArray} (hn : 6 ≤ ns.length) (hn2 : ns.length ≤ 100) (hv : 6 ≤ vs.length) (hv2 : vs.length ≤ 100) {c : Int} (hc : intervalmonref01_Pick.f l 0 11 = some c) (hc0 : 0 ≤ c) (hc1 : c < 11) : ∀ (d i : Nat) (acc : List S35), i + d = 11 → acc.length ≤ i →
    ∃ r : List S35, ∀ k, d < k → intervalmonref05_Dirty.l0 k l ns vs acc (i : Int) = some r := by
  intro d
  induction d with
  | zero =>
    intro i acc hi ha
    refine ⟨acc, fun k hk => ?_⟩
    obtain ⟨k, rfl⟩ : ∃ j, k = j + 1 := ⟨k - 1, by omega⟩
    rw [intervalmonref05_Dirty.l0, hc, Option.bind_some, if_neg (by omega)]
  | succ d ih =>
    intro i acc hi ha
    by_cases cc : (i : Int) < c
    · obtain ⟨t, ht, t0, t1⟩ := pick_ok hw (wrap64 ((wrap64 (2 * (i : Int))) + 1)) (m := 4 * (ns.length : Int)) (by omega)
      obtain ⟨u, hu, u0, u1⟩ := pick_ok hw (wrap64 ((wrap64 (2 * (i : Int))) + 2)) (m := 4 * (vs.length : Int)) (by omega)
      have e1 : wrap64 (4 * (ns.length : Int)) = 4 * (ns.length : Int) := w64 (by omega) (by omega)
      have e2 : wrap64 (4 * (vs.length : Int)) = 4 * (vs.length : Int) := w64 (by omega) (by omega)
      have mt := mod6 t0 (n := ns.length) (by omega)
      have mu := mod6 u0 (n := vs.length) (by omega)
      by_cases ct : t ≥ (ns.length : Int)
      · by_cases cu : u ≥ (vs.length : Int)
        · obtain ⟨r, hr⟩ := ih (i + 1) (acc ++ [⟨rdOf ByteArray.empty ns (Int.tmod t 6), rdOf ByteArray.empty vs (Int.tmod u 6)⟩]) (by omega) (by simp; omega)
          refine ⟨r, fun k hk => ?_⟩
          obtain ⟨k, rfl⟩ : ∃ j, k = j + 1 := ⟨k - 1, by omega⟩
          rw [intervalmonref05_Dirty.l0, hc, Option.bind_some, if_pos cc, e1, ht, Option.bind_some, if_pos ct, e2, hu, Option.bind_some, if_pos cu, if_pos mt.1, if_pos mt.2, if_pos mu.1, if_pos mu.2, if_pos (by omega), w1 (by omega)]
          exact hr k (by omega)
        · obtain ⟨r, hr⟩ := ih (i + 1) (acc ++ [⟨rdOf ByteArray.empty ns (Int.tmod t 6), rdOf ByteArray.empty vs u⟩]) (by omega) (by simp; omega)
          refine ⟨r, fun k hk => ?_⟩
          obtain ⟨k, rfl⟩ : ∃ j, k = j + 1 := ⟨k - 1, by omega⟩
          rw [intervalmonref05_Dirty.l0, hc, Option.bind_some, if_pos cc, e1, ht, Option.bind_some, if_pos ct, e2, hu, Option.bind_some, if_neg cu, if_pos mt.1, if_pos mt.2, if_pos u0, if_pos (by omega), if_pos (by omega), w1 (by omega)]
          exact hr k (by omega)
      · by_cases cu : u ≥ (vs.length : Int)
        · obtain ⟨r, hr⟩ := ih (i + 1) (acc ++ [⟨rdOf ByteArray.empty ns t, rdOf ByteArray.empty vs (Int.tmod u 6)⟩]) (by omega) (by simp; omega)
          refine ⟨r, fun k hk => ?_⟩
          obtain ⟨k, rfl⟩ : ∃ j, k = j + 1 := ⟨k - 1, by omega⟩
          rw [intervalmonref05_Dirty.l0, hc, Option.bind_some, if_pos cc, e1, ht, Option.bind_some, if_neg ct, e2, hu, Option.bind_some, if_pos cu, if_pos t0, if_pos (by omega), if_pos mu.1, if_pos mu.2, if_pos (by omega), w1 (by omega)]
          exact hr k (by omega)
        · obtain ⟨r, hr⟩ := ih (i + 1) (acc ++ [⟨rdOf ByteArray.empty ns t, rdOf ByteArray.empty vs u⟩]) (by omega) (by simp; omega)
          refine ⟨r, fun k hk => ?_⟩
          obtain ⟨k, rfl⟩ : ∃ j, k = j + 1 := ⟨k - 1, by omega⟩
          rw [intervalmonref05_Dirty.l0, hc, Option.bind_some, if_pos cc, e1, ht, Option.bind_some, if_neg ct, e2, hu, Option.bind_some, if_neg cu, if_pos t0, if_pos (by omega), if_pos u0, if_pos (by omega), if_pos (by omega), w1 (by omega)]
          exact hr k (by omega)
    · refine ⟨acc, fun k hk => ?_⟩
      obtain ⟨k, rfl⟩ : ∃ j, k = j + 1 := ⟨k - 1, by omega⟩
      rw [intervalmonref05_Dirty.l0, hc, Option.bind_some, if_neg cc]

theorem dirty_ok {l : List Int} (hw : ∀ x ∈ l, (Lit.int .i64 x).wf = true) : ∃ r : List S35, ∀ k, 12 ≤ k → intervalmonref05_Dirty.f k l = some r := by
  obtain ⟨c, hc, c0, c1⟩ := pick_ok hw 0 (m := 11) (by omega)
  have hN : intervalmonref05_Names.f = some names := rfl
  have hV : intervalmonref05_values.f = some vals := rfl
  have key : ∀ (xs ys : List ByteArray), xs.length = 10 → ys.length = 8 → ∃ r : List S35, ∀ k, 12 ≤ k → intervalmonref05_Dirty.l0 k l (names ++ xs) (vals ++ ys) [] 0 = some r := by
    intro xs ys hx hy
    obtain ⟨r, hr⟩ := dirty_l0 hw (ns := names ++ xs) (vs := vals ++ ys) (by simp [hx]) (by simp [hx]; decide) (by simp [hy]) (by simp [hy]; decide) hc c0 c1 11 0 [] (by omega) (Nat.le_refl _)
    exact ⟨r, fun k hk => hr k (by omega)⟩
  obtain ⟨r, hr⟩ := key [(⟨#[]⟩ : ByteArray), (⟨#[65]⟩ : ByteArray), (⟨#[49, 97]⟩ : ByteArray), (⟨#[97, 45, 98]⟩ : ByteArray), (⟨#[97, 98, 99, 100, 101, 102, 103, 104, 105, 106, 107, 108, 109, 110, 111, 112]⟩ : ByteArray), (⟨#[97, 98, 99, 100, 101, 102, 103, 104, 105, 106, 107, 108, 109, 110, 111, 112, 113]⟩ : ByteArray), (⟨#[99]⟩ : ByteArray), (⟨#[100]⟩ : ByteArray), (⟨#[101]⟩ : ByteArray), (⟨#[95, 97]⟩ : ByteArray)] [(⟨#[]⟩ : ByteArray), (⟨#[32]⟩ : ByteArray), (⟨#[97, 44]⟩ : ByteArray), (⟨#[97, 98, 99, 100, 101, 102, 103, 104, 105, 106, 107, 108, 109, 110, 111, 112]⟩ : ByteArray), (⟨#[97, 98, 99, 100, 101, 102, 103, 104, 105, 106, 107, 108, 109, 110, 111, 112, 113]⟩ : ByteArray), (⟨#[127]⟩ : ByteArray), (⟨#[123]⟩ : ByteArray), (⟨#[92]⟩ : ByteArray)] rfl rfl
  refine ⟨r, fun k hk => ?_⟩
  unfold intervalmonref05_Dirty.f
  rw [hN, Option.bind_some, Option.bind_some, if_pos (by decide), hV, Option.bind_some, Option.bind_some, if_pos (by decide)]
  exact hr k hk

theorem bent_ok {l : List Int} (hw : ∀ x ∈ l, (Lit.int .i64 x).wf = true) {a1 a2 : Int} (h1 : (Lit.int .i64 a1).wf = true) (h2 : (Lit.int .i64 a2).wf = true) (n : ByteArray) (v : Int) (L : List S35) (st si lv : Int) :
    ∃ r, ∀ k, 12 ≤ k → intervalmonlaw28_bent.f k n v L st si lv a1 a2 l = some r := by
  obtain ⟨t, ht, t0, t1⟩ := around_ok h1 (m := 6) (by omega)
  obtain ⟨u, hu, u0, u1⟩ := around_ok h2 (m := 4) (by omega)
  obtain ⟨D, hD⟩ := dirty_ok hw
  unfold intervalmonlaw28_bent.f
  rw [ht]
  simp only [Option.bind_some]
  by_cases c0 : t = 0
  · refine ⟨(rdOf ByteArray.empty [(⟨#[]⟩ : ByteArray), (⟨#[72, 111, 116]⟩ : ByteArray), (⟨#[97, 32, 98]⟩ : ByteArray), (⟨#[97, 98, 99, 100, 101, 102, 103, 104, 105, 106, 107, 108, 109, 110, 111, 112, 113]⟩ : ByteArray)] u, v, L, st, si, lv), fun k hk => ?_⟩
    rw [if_pos c0, hu, Option.bind_some, if_pos u0, if_pos (by simp; omega)]
  · by_cases c1 : t = 1
    · exact ⟨_, fun k hk => by rw [if_neg c0, if_pos c1]⟩
    · by_cases c2 : t = 2
      · exact ⟨_, fun k hk => by rw [if_neg c0, if_neg c1, if_pos c2, hD k hk, Option.bind_some]⟩
      · by_cases c3 : t = 3
        · exact ⟨_, fun k hk => by rw [if_neg c0, if_neg c1, if_neg c2, if_pos c3]⟩
        · by_cases c4 : t = 4
          · exact ⟨_, fun k hk => by rw [if_neg c0, if_neg c1, if_neg c2, if_neg c3, if_pos c4]⟩
          · exact ⟨_, fun k hk => by rw [if_neg c0, if_neg c1, if_neg c2, if_neg c3, if_neg c4]⟩

end Go.Proofs.YtbbddeilbcpmiaaDoor.Pure

/- Plain facts for the laws of chapter 28 on single alerts: both sides act alike. -/
namespace Go.Proofs.YtbbddeilbcpmiaaDoor.Pure
open Go.RowKit Go.Proofs.YtbbddeilbcpmiaaDoor.Q Go.Proofs.YtbbddeilbcpmiaaDoorW.PrintWords Go.Proofs.YtbbddeilbcpmiaaDoorW.PrintLast Go.Proofs.YtbbddeilbcpmiaaDoorW.PrintMore
set_option linter.unusedVariables false
set_option linter.unusedSimpArgs false

theorem at_both (n : ByteArray) (v : Int) (L : List S35) (st si lv t : Int) : ∃ b : Bool, ∃ K, ∀ k, K ≤ k → alert_at.f k n v L st si lv t = some b ∧ intervalmonref28_At.f k n v L st si lv t = some b := by
  obtain ⟨b, _, K, h⟩ := valid_both n v L st si lv
  refine ⟨if b = true then (if t ≥ si then decide (t ≤ 1048576) else false) else false, K, fun k hk => ?_⟩
  obtain ⟨h1, h2⟩ := h k hk
  unfold alert_at.f intervalmonref28_At.f
  rw [h1, h2, Option.bind_some]
  cases b
  · exact ⟨rfl, rfl⟩
  · by_cases c : t ≥ si
    · simp only [if_pos c]; exact ⟨rfl, rfl⟩
    · simp only [if_neg c]; exact ⟨rfl, rfl⟩
theorem copied_ok (n : ByteArray) (v : Int) {L : List S35} (hL : L.length ≤ 100) (st si lv : Int) : alert_copied.f n v L st si lv = some (n, v, L, st, si, lv) := by
  unfold alert_copied.f
  rw [if_pos (by simp; omega), List.nil_append]
theorem changed_ok (n : ByteArray) (v : Int) {L : List S35} (hL : L.length ≤ 100) (st si lv a b c : Int) : alert_changed.f n v L st si lv a b c = some (n, v, L, a, b, c) := by
  unfold alert_changed.f
  rw [copied_ok n v hL, Option.bind_some]
theorem with_ok (n : ByteArray) (v : Int) (L : List S35) (st si lv a b c : Int) : intervalmonref28_with.f n v L st si lv a b c = some (n, v, L, a, b, c) := rfl
theorem same_refl (n : ByteArray) (v : Int) {L : List S35} (hL : L.length ≤ 100) (st si lv : Int) {k : Nat} (hk : 101 ≤ k) : intervalmonref28_Same.f k n v L st si lv n v L st si lv = some true := by
  obtain ⟨b, hb, h⟩ := same_ok (L := L) (S := L) rfl hL
  obtain rfl : b = true := hb.mpr (fun j _ => ⟨rfl, rfl⟩)
  unfold intervalmonref28_Same.f
  rw [h k (by omega), Option.bind_some, if_pos rfl, if_pos rfl, if_pos rfl, if_pos rfl, if_pos rfl]
  simp

/-- what the labels of both generators' alerts have -/
def VOk (e : S35) : Prop := e.f1.toList ≠ [115, 112, 111, 105, 108, 101, 100]
theorem vok_of {vs : List ByteArray} (h : vs.all (fun b => b.toList != [115, 112, 111, 105, 108, 101, 100]) = true) {u : Int} (h0 : 0 ≤ u) (h1 : u < (vs.length : Int)) : (rdOf ByteArray.empty vs u).toList ≠ [115, 112, 111, 105, 108, 101, 100] := by
  have hm : rdOf ByteArray.empty vs u ∈ vs := by
    unfold rdOf
    rw [List.getD_eq_getElem?_getD, List.getElem?_eq_getElem (by omega)]
    exact List.getElem_mem (by omega)
  have := List.all_eq_true.mp h _ hm
  simpa using this
theorem dirty_l1 {l : List Int} (hw : ∀ x ∈ l, (Lit.int .i64 x).wf = true) {ns vs : List ByteArray} (hV : vs.all (fun b => b.toList != [115, 112, 111, 105, 108, 101, 100]) = true) (hn : 6 ≤ ns.length) (hn2 : ns.length ≤ 100) (hv : 6 ≤ vs.length) (hv2 : vs.length ≤ 100) {c : Int} (hc : intervalmonref01_Pick.f l 0 11 = some c) (hc0 : 0 ≤ c) (hc1 : c < 11) : ∀ (d i : Nat) (acc : List S35), i + d = 11 → acc.length ≤ i → (∀ e ∈ acc, VOk e) →
    ∃ r : List S35, (∀ k, d < k → intervalmonref05_Dirty.l0 k l ns vs acc (i : Int) = some r) ∧ r.length ≤ 11 ∧ ∀ e ∈ r, VOk e := by
  intro d
  induction d with
  | zero =>
    intro i acc hi ha hA
    refine ⟨acc, fun k hk => ?_, by omega, hA⟩
    obtain ⟨k, rfl⟩ : ∃ j, k = j + 1 := ⟨k - 1, by omega⟩
    rw [intervalmonref05_Dirty.l0, hc, Option.bind_some, if_neg (by omega)]
  | succ d ih =>
    intro i acc hi ha hA
    by_cases cc : (i : Int) < c
    · obtain ⟨t, ht, t0, t1⟩ := pick_ok hw (wrap64 ((wrap64 (2 * (i : Int))) + 1)) (m := 4 * (ns.length : Int)) (by omega)
      obtain ⟨u, hu, u0, u1⟩ := pick_ok hw (wrap64 ((wrap64 (2 * (i : Int))) + 2)) (m := 4 * (vs.length : Int)) (by omega)
      have e1 : wrap64 (4 * (ns.length : Int)) = 4 * (ns.length : Int) := w64 (by omega) (by omega)
      have e2 : wrap64 (4 * (vs.length : Int)) = 4 * (vs.length : Int) := w64 (by omega) (by omega)
      have mt := mod6 t0 (n := ns.length) (by omega)
      have mu := mod6 u0 (n := vs.length) (by omega)
      have add : ∀ (N : ByteArray) {q : Int}, 0 ≤ q → q < (vs.length : Int) → ∀ e ∈ acc ++ [⟨N, rdOf ByteArray.empty vs q⟩], VOk e := by
        intro N q q0 q1 e he
        rcases List.mem_append.mp he with he | he
        · exact hA e he
        · rw [List.mem_singleton.mp he]
          exact vok_of hV q0 q1
      by_cases ct : t ≥ (ns.length : Int)
      · by_cases cu : u ≥ (vs.length : Int)
        · obtain ⟨r, hr, hl, hx⟩ := ih (i + 1) (acc ++ [⟨rdOf ByteArray.empty ns (Int.tmod t 6), rdOf ByteArray.empty vs (Int.tmod u 6)⟩]) (by omega) (by simp; omega) (add _ mu.1 mu.2)
          refine ⟨r, fun k hk => ?_, hl, hx⟩
          obtain ⟨k, rfl⟩ : ∃ j, k = j + 1 := ⟨k - 1, by omega⟩
          rw [intervalmonref05_Dirty.l0, hc, Option.bind_some, if_pos cc, e1, ht, Option.bind_some, if_pos ct, e2, hu, Option.bind_some, if_pos cu, if_pos mt.1, if_pos mt.2, if_pos mu.1, if_pos mu.2, if_pos (by omega), w1 (by omega)]
          exact hr k (by omega)
        · obtain ⟨r, hr, hl, hx⟩ := ih (i + 1) (acc ++ [⟨rdOf ByteArray.empty ns (Int.tmod t 6), rdOf ByteArray.empty vs u⟩]) (by omega) (by simp; omega) (add _ u0 (by omega))
          refine ⟨r, fun k hk => ?_, hl, hx⟩
          obtain ⟨k, rfl⟩ : ∃ j, k = j + 1 := ⟨k - 1, by omega⟩
          rw [intervalmonref05_Dirty.l0, hc, Option.bind_some, if_pos cc, e1, ht, Option.bind_some, if_pos ct, e2, hu, Option.bind_some, if_neg cu, if_pos mt.1, if_pos mt.2, if_pos u0, if_pos (by omega), if_pos (by omega), w1 (by omega)]
          exact hr k (by omega)
      · by_cases cu : u ≥ (vs.length : Int)
        · obtain ⟨r, hr, hl, hx⟩ := ih (i + 1) (acc ++ [⟨rdOf ByteArray.empty ns t, rdOf ByteArray.empty vs (Int.tmod u 6)⟩]) (by omega) (by simp; omega) (add _ mu.1 mu.2)
          refine ⟨r, fun k hk => ?_, hl, hx⟩
          obtain ⟨k, rfl⟩ : ∃ j, k = j + 1 := ⟨k - 1, by omega⟩
          rw [intervalmonref05_Dirty.l0, hc, Option.bind_some, if_pos cc, e1, ht, Option.bind_some, if_neg ct, e2, hu, Option.bind_some, if_pos cu, if_pos t0, if_pos (by omega), if_pos mu.1, if_pos mu.2, if_pos (by omega), w1 (by omega)]
          exact hr k (by omega)
        · obtain ⟨r, hr, hl, hx⟩ := ih (i + 1) (acc ++ [⟨rdOf ByteArray.empty ns t, rdOf ByteArray.empty vs u⟩]) (by omega) (by simp; omega) (add _ u0 (by omega))
          refine ⟨r, fun k hk => ?_, hl, hx⟩
          obtain ⟨k, rfl⟩ : ∃ j, k = j + 1 := ⟨k - 1, by omega⟩
          rw [intervalmonref05_Dirty.l0, hc, Option.bind_some, if_pos cc, e1, ht, Option.bind_some, if_neg ct, e2, hu, Option.bind_some, if_neg cu, if_pos t0, if_pos (by omega), if_pos u0, if_pos (by omega), if_pos (by omega), w1 (by omega)]
          exact hr k (by omega)
    · refine ⟨acc, fun k hk => ?_, by omega, hA⟩
      obtain ⟨k, rfl⟩ : ∃ j, k = j + 1 := ⟨k - 1, by omega⟩
      rw [intervalmonref05_Dirty.l0, hc, Option.bind_some, if_neg cc]
theorem dirty_ok2 {l : List Int} (hw : ∀ x ∈ l, (Lit.int .i64 x).wf = true) : ∃ r : List S35, (∀ k, 12 ≤ k → intervalmonref05_Dirty.f k l = some r) ∧ r.length ≤ 11 ∧ ∀ e ∈ r, VOk e := by
  obtain ⟨c, hc, c0, c1⟩ := pick_ok hw 0 (m := 11) (by omega)
  have hN : intervalmonref05_Names.f = some names := rfl
  have hV : intervalmonref05_values.f = some vals := rfl
  have key : ∀ (xs ys : List ByteArray), xs.length = 10 → ys.length = 8 → (vals ++ ys).all (fun b => b.toList != [115, 112, 111, 105, 108, 101, 100]) = true → ∃ r : List S35, (∀ k, 12 ≤ k → intervalmonref05_Dirty.l0 k l (names ++ xs) (vals ++ ys) [] 0 = some r) ∧ r.length ≤ 11 ∧ ∀ e ∈ r, VOk e := by
    intro xs ys hx hy hall
    obtain ⟨r, hr, h1, h2⟩ := dirty_l1 hw (ns := names ++ xs) (vs := vals ++ ys) hall (by simp [hx]) (by simp [hx]; decide) (by simp [hy]) (by simp [hy]; decide) hc c0 c1 11 0 [] (by omega) (Nat.le_refl _) (fun e he => by cases he)
    exact ⟨r, fun k hk => hr k (by omega), h1, h2⟩
  obtain ⟨r, hr, h1, h2⟩ := key [(⟨#[]⟩ : ByteArray), (⟨#[65]⟩ : ByteArray), (⟨#[49, 97]⟩ : ByteArray), (⟨#[97, 45, 98]⟩ : ByteArray), (⟨#[97, 98, 99, 100, 101, 102, 103, 104, 105, 106, 107, 108, 109, 110, 111, 112]⟩ : ByteArray), (⟨#[97, 98, 99, 100, 101, 102, 103, 104, 105, 106, 107, 108, 109, 110, 111, 112, 113]⟩ : ByteArray), (⟨#[99]⟩ : ByteArray), (⟨#[100]⟩ : ByteArray), (⟨#[101]⟩ : ByteArray), (⟨#[95, 97]⟩ : ByteArray)] [(⟨#[]⟩ : ByteArray), (⟨#[32]⟩ : ByteArray), (⟨#[97, 44]⟩ : ByteArray), (⟨#[97, 98, 99, 100, 101, 102, 103, 104, 105, 106, 107, 108, 109, 110, 111, 112]⟩ : ByteArray), (⟨#[97, 98, 99, 100, 101, 102, 103, 104, 105, 106, 107, 108, 109, 110, 111, 112, 113]⟩ : ByteArray), (⟨#[127]⟩ : ByteArray), (⟨#[123]⟩ : ByteArray), (⟨#[92]⟩ : ByteArray)] rfl rfl (by decide +kernel)
  refine ⟨r, fun k hk => ?_, h1, h2⟩
  unfold intervalmonref05_Dirty.f
  rw [hN, Option.bind_some, Option.bind_some, if_pos (by decide), hV, Option.bind_some, Option.bind_some, if_pos (by decide)]
  exact hr k hk
theorem madeof_vok {acc : List S35} (h : MadeOf 6 acc) : ∀ e ∈ acc, VOk e := by
  obtain ⟨js, h1, h2, h3, h4⟩ := h
  intro e he
  obtain ⟨m, hm, rfl⟩ := List.getElem_of_mem he
  obtain ⟨_, v, hv, e1⟩ := h4 m hm
  rw [List.getD_eq_getElem?_getD, List.getElem?_eq_getElem hm] at e1
  unfold VOk
  have e2 : (acc[m]).f1 = vals.getD v ByteArray.empty := e1
  rw [e2]
  have : v = 0 ∨ v = 1 ∨ v = 2 ∨ v = 3 ∨ v = 4 ∨ v = 5 := by omega
  rcases this with rfl | rfl | rfl | rfl | rfl | rfl <;> decide +kernel
theorem bent_ok2 {l : List Int} (hw : ∀ x ∈ l, (Lit.int .i64 x).wf = true) {a1 a2 : Int} (h1 : (Lit.int .i64 a1).wf = true) (h2 : (Lit.int .i64 a2).wf = true) (n : ByteArray) (v : Int) {L : List S35} (hL : L.length ≤ 11) (hV : ∀ e ∈ L, VOk e) (st si lv : Int) :
    ∃ n' v' L' st' si' lv', (∀ k, 12 ≤ k → intervalmonlaw28_bent.f k n v L st si lv a1 a2 l = some (n', v', L', st', si', lv')) ∧ L'.length ≤ 11 ∧ ∀ e ∈ L', VOk e := by
  obtain ⟨t, ht, t0, t1⟩ := around_ok h1 (m := 6) (by omega)
  obtain ⟨u, hu, u0, u1⟩ := around_ok h2 (m := 4) (by omega)
  obtain ⟨D, hD, d1, d2⟩ := dirty_ok2 hw
  unfold intervalmonlaw28_bent.f
  rw [ht]
  simp only [Option.bind_some]
  by_cases c0 : t = 0
  · refine ⟨rdOf ByteArray.empty [(⟨#[]⟩ : ByteArray), (⟨#[72, 111, 116]⟩ : ByteArray), (⟨#[97, 32, 98]⟩ : ByteArray), (⟨#[97, 98, 99, 100, 101, 102, 103, 104, 105, 106, 107, 108, 109, 110, 111, 112, 113]⟩ : ByteArray)] u, v, L, st, si, lv, fun k hk => ?_, hL, hV⟩
    rw [if_pos c0, hu, Option.bind_some, if_pos u0, if_pos (by simp; omega)]
  · by_cases c1 : t = 1
    · exact ⟨_, _, _, _, _, _, fun k hk => by rw [if_neg c0, if_pos c1], hL, hV⟩
    · by_cases c2 : t = 2
      · exact ⟨_, _, _, _, _, _, fun k hk => by rw [if_neg c0, if_neg c1, if_pos c2, hD k hk, Option.bind_some], d1, d2⟩
      · by_cases c3 : t = 3
        · exact ⟨_, _, _, _, _, _, fun k hk => by rw [if_neg c0, if_neg c1, if_neg c2, if_pos c3], hL, hV⟩
        · by_cases c4 : t = 4
          · exact ⟨_, _, _, _, _, _, fun k hk => by rw [if_neg c0, if_neg c1, if_neg c2, if_neg c3, if_pos c4], hL, hV⟩
          · exact ⟨_, _, _, _, _, _, fun k hk => by rw [if_neg c0, if_neg c1, if_neg c2, if_neg c3, if_neg c4], hL, hV⟩
theorem set_ok2 {l : List Int} (hw : ∀ x ∈ l, (Lit.int .i64 x).wf = true) : ∃ r : List S35, (∀ k, 7 ≤ k → intervalmonref05_Set.f k l = some r) ∧ goodL r ∧ ∀ e ∈ r, VOk e := by
  obtain ⟨t, ht, _, _⟩ := pick_ok hw 0 (m := 64) (by omega)
  obtain ⟨r, hr, h1, h2⟩ := set_l0 hw 6 0 t [] (by omega) (Nat.le_refl _) ⟨[], rfl, List.Pairwise.nil, (fun j hj => by cases hj), fun m hm => by simp at hm⟩
  refine ⟨r, fun k hk => ?_, h2.good h1, madeof_vok h2⟩
  show ((some names).bind fun t116 => ((some vals).bind fun t119 => ((intervalmonref01_Pick.f l 0 64).bind fun t122 => (intervalmonref05_Set.l0 k l t116 t119 t122 ([] : List S35) 0)))) = some r
  rw [Option.bind_some, Option.bind_some, ht, Option.bind_some]
  exact hr k (by omega)

theorem alert_ok2 {l : List Int} (hw : ∀ x ∈ l, (Lit.int .i64 x).wf = true) : ∃ v L st si lv, (∀ k, 7 ≤ k → intervalmonref28_Alert.f k l = some (hot, v, L, st, si, lv)) ∧ goodL L ∧ (∀ e ∈ L, VOk e) ∧ restV hot v st si lv = true := by
  obtain ⟨p0, h0, a0, b0⟩ := pick_ok hw 0 (m := 3) (by omega)
  obtain ⟨p1, h1, a1, b1⟩ := pick_ok hw 1 (m := 5) (by omega)
  obtain ⟨p2, h2, a2, b2⟩ := pick_ok hw 2 (m := 50) (by omega)
  obtain ⟨p3, h3, a3, b3⟩ := pick_ok hw 3 (m := 17) (by omega)
  obtain ⟨p4, h4, a4, b4⟩ := pick_ok hw 3 (m := 16) (by omega)
  obtain ⟨L, hL, hg, hx⟩ := set_ok2 hw
  have rest : ∀ lv, ((0 ≤ p1 ∧ p1 ≤ 2 ∧ lv = 0) ∨ (p1 = 3 ∧ 0 ≤ lv ∧ lv ≤ 16) ∨ (p1 = 4 ∧ 1 ≤ lv ∧ lv ≤ 16)) → restV hot (1 + p0) p1 p2 lv = true := by
    intro lv h
    unfold restV
    rw [hot_name, stB_of ⟨by omega, by omega, h⟩, decide_eq_true (by omega : 1 ≤ 1 + p0)]
    rfl
  have e0 : wrap64 (1 + p0) = 1 + p0 := w64 (by omega) (by omega)
  by_cases c3 : p1 = 3
  · refine ⟨1 + p0, L, p1, p2, p3, fun k hk => ?_, hg, hx, rest p3 (by omega)⟩
    unfold intervalmonref28_Alert.f
    rw [h0, Option.bind_some, hL k hk, Option.bind_some, h1, Option.bind_some, h2, Option.bind_some, if_pos c3, h3, Option.bind_some, if_neg (by omega), e0]
    rfl
  · by_cases c4 : p1 = 4
    · refine ⟨1 + p0, L, p1, p2, 1 + p4, fun k hk => ?_, hg, hx, rest (1 + p4) (by omega)⟩
      unfold intervalmonref28_Alert.f
      rw [h0, Option.bind_some, hL k hk, Option.bind_some, h1, Option.bind_some, h2, Option.bind_some, if_neg c3, if_pos c4, h4, Option.bind_some, e0, w64 (a := 1 + p4) (by omega) (by omega)]
      rfl
    · refine ⟨1 + p0, L, p1, p2, 0, fun k hk => ?_, hg, hx, rest 0 (by omega)⟩
      unfold intervalmonref28_Alert.f
      rw [h0, Option.bind_some, hL k hk, Option.bind_some, h1, Option.bind_some, h2, Option.bind_some, if_neg c3, if_neg c4, e0]
      rfl

end Go.Proofs.YtbbddeilbcpmiaaDoor.Pure
