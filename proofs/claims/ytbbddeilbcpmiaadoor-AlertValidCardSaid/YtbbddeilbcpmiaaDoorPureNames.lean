/- Plain facts for AlertValid: the reference's names and values of labels. -/
import Derived.Test.YtbbddeilbcpmiaaDoorPureHot
import Derived.Test.YtbbddeilbcpmiaaDoorQ9
import Derived.Test.YtbbddeilbcpmiaaDoorQ11
namespace Go.Proofs.YtbbddeilbcpmiaaDoor.Pure
open Go.RowKit Go.Proofs.YtbbddeilbcpmiaaDoor.Q Go.Proofs.YtbbddeilbcpmiaaDoorW.PrintWords Go.Proofs.YtbbddeilbcpmiaaDoorW.PrintLast Go.Proofs.YtbbddeilbcpmiaaDoorW.PrintMore
set_option linter.unusedVariables false
set_option linter.unusedSimpArgs false

/-- all of the d characters from i on are good -/
def restB (p : Nat → Int → Bool) (s : ByteArray) : Nat → Nat → Bool
  | 0, _ => true
  | d + 1, i => p i (bt s i) && restB p s d (i + 1)
theorem restB_iff (p : Nat → Int → Bool) (s : ByteArray) : ∀ d i, restB p s d i = true ↔ ∀ j, i ≤ j → j < i + d → p j (bt s j) = true := by
  intro d
  induction d with
  | zero => intro i; simp [restB]; intro j h1 h2; omega
  | succ d ih =>
    intro i
    rw [restB, Bool.and_eq_true, ih (i + 1)]
    constructor
    · rintro ⟨h1, h2⟩ j hj1 hj2
      by_cases c : j = i
      · subst c; exact h1
      · exact h2 j (by omega) (by omega)
    · intro h
      exact ⟨h i (by omega) (by omega), fun j h1 h2 => h j (by omega) (by omega)⟩
theorem restB_all (p : Nat → Int → Bool) (s : ByteArray) (n : Nat) : restB p s n 0 = ((List.range n).all fun i => p i (bt s i)) := by
  rw [Bool.eq_iff_iff, restB_iff, List.all_eq_true]
  constructor
  · intro h i hi; exact h i (by omega) (by rw [List.mem_range] at hi; omega)
  · intro h j _ hj; exact h j (List.mem_range.mpr (by omega))

theorem name_step (k : Nat) (s : ByteArray) (i : Nat) (h : i < s.size) (hi : i < 4611686018427387904) : intervalmonref05_Name.l0 (k + 1) s (i : Int) = if nmC i (bt s i) = true then intervalmonref05_Name.l0 k s ((i + 1 : Nat) : Int) else some false := by
  rw [intervalmonref05_Name.l0, if_pos (by omega), if_pos (by omega), w1 hi]
  generalize intervalmonref05_Name.l0 k s ((i + 1 : Nat) : Int) = R
  generalize bt s i = c
  have hi0 : ((i : Int) = 0) ↔ i = 0 := by omega
  unfold intervalmonref05_letter.f nmC
  by_cases c1 : 97 ≤ c <;> by_cases c2 : c ≤ 122 <;> by_cases c3 : 48 ≤ c <;> by_cases c4 : c ≤ 57 <;> by_cases c5 : i = 0 <;> by_cases c6 : c = 95 <;> first | (exfalso; omega) | simp [c1, c2, c3, c4, c5, c6]

theorem name_l0 (s : ByteArray) (hs : s.size < 4611686018427387904) : ∀ (d i : Nat), i + d = s.size → ∀ k, d < k → intervalmonref05_Name.l0 k s (i : Int) = some (restB nmC s d i) := by
  intro d
  induction d with
  | zero =>
    intro i hi k hk
    obtain ⟨k, rfl⟩ : ∃ j, k = j + 1 := ⟨k - 1, by omega⟩
    rw [intervalmonref05_Name.l0, if_neg (by omega)]
    rfl
  | succ d ih =>
    intro i hi k hk
    obtain ⟨k, rfl⟩ : ∃ j, k = j + 1 := ⟨k - 1, by omega⟩
    rw [name_step k s i (by omega) (by omega), ih (i + 1) (by omega) k (by omega), restB]
    cases nmC i (bt s i) <;> simp

theorem name_ref (s : ByteArray) {k : Nat} (hk : 20 ≤ k) : intervalmonref05_Name.f k s = some (nameB s) := by
  obtain ⟨k, rfl⟩ : ∃ j, k = j + 1 := ⟨k - 1, by omega⟩
  unfold intervalmonref05_Name.f nameB
  by_cases c1 : (s.size : Int) < 1
  · rw [if_pos c1, intervalmonref05_Name.j0, if_pos rfl]
    rw [decide_eq_false (by omega : ¬ 1 ≤ s.size)]
    rfl
  · rw [if_neg c1, intervalmonref05_Name.j0]
    by_cases c2 : (s.size : Int) > 16
    · rw [decide_eq_true c2, if_pos rfl, decide_eq_false (by omega : ¬ s.size ≤ 16)]
      simp
    · have h0 := name_l0 s (by omega) s.size 0 (by omega) k (by omega)
      rw [restB_all] at h0
      rw [decide_eq_false c2, if_neg (by decide), show (0 : Int) = ((0 : Nat) : Int) from rfl, h0]
      rw [decide_eq_true (by omega : 1 ≤ s.size), decide_eq_true (by omega : s.size ≤ 16)]
      rfl

theorem value_step (k : Nat) (s : ByteArray) (i : Nat) (h : i < s.size) (hi : i < 4611686018427387904) : intervalmonref05_Value.l0 (k + 1) s (i : Int) = if vlC (bt s i) = true then intervalmonref05_Value.l0 k s ((i + 1 : Nat) : Int) else some false := by
  rw [intervalmonref05_Value.l0, if_pos (by omega), if_pos (by omega), w1 hi]
  generalize intervalmonref05_Value.l0 k s ((i + 1 : Nat) : Int) = R
  generalize bt s i = c
  unfold vlC
  by_cases c1 : c < 33
  · have : ¬ 32 < c := by omega
    simp [c1, this]
  · by_cases c2 : c > 126
    · have : ¬ c ≤ 126 := by omega
      simp [c1, c2, this]
    · have h1 : 32 < c := by omega
      have h2 : c ≤ 126 := by omega
      by_cases c3 : c = 34 <;> by_cases c4 : c = 92 <;> by_cases c5 : c = 44 <;> by_cases c6 : c = 123 <;> by_cases c7 : c = 125 <;> first | (exfalso; omega) | simp [*]

theorem value_l0 (s : ByteArray) (hs : s.size < 4611686018427387904) : ∀ (d i : Nat), i + d = s.size → ∀ k, d < k → intervalmonref05_Value.l0 k s (i : Int) = some (restB (fun _ => vlC) s d i) := by
  intro d
  induction d with
  | zero =>
    intro i hi k hk
    obtain ⟨k, rfl⟩ : ∃ j, k = j + 1 := ⟨k - 1, by omega⟩
    rw [intervalmonref05_Value.l0, if_neg (by omega)]
    rfl
  | succ d ih =>
    intro i hi k hk
    obtain ⟨k, rfl⟩ : ∃ j, k = j + 1 := ⟨k - 1, by omega⟩
    rw [value_step k s i (by omega) (by omega), ih (i + 1) (by omega) k (by omega), restB]
    cases vlC (bt s i) <;> simp

theorem value_ref (s : ByteArray) {k : Nat} (hk : 20 ≤ k) : intervalmonref05_Value.f k s = some (valueB s) := by
  unfold intervalmonref05_Value.f valueB
  by_cases c2 : (s.size : Int) > 16
  · rw [if_pos c2, decide_eq_false (by omega : ¬ s.size ≤ 16)]
    rfl
  · have h0 := value_l0 s (by omega) s.size 0 (by omega) k (by omega)
    rw [restB_all] at h0
    rw [if_neg c2, show (0 : Int) = ((0 : Nat) : Int) from rfl, h0, decide_eq_true (by omega : s.size ≤ 16)]
    rfl

end Go.Proofs.YtbbddeilbcpmiaaDoor.Pure
