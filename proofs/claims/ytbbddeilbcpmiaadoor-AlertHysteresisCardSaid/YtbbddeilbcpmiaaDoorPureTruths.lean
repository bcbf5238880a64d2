/- Plain facts for the laws of chapter 28: the latch in three values bounds the latch of every truth. -/
import Derived.Test.YtbbddeilbcpmiaaDoorPureBase
import Derived.Test.YtbbddeilbcpmiaaDoorMAlertHyst
import Derived.Test.YtbbddeilbcpmiaaDoorQ25
import Derived.Test.YtbbddeilbcpmiaaDoorQ26
namespace Go.Proofs.YtbbddeilbcpmiaaDoor.Pure
open Go.RowKit Go.Proofs.YtbbddeilbcpmiaaDoor.Q Go.Proofs.YtbbddeilbcpmiaaDoorW.PrintWords Go.Proofs.YtbbddeilbcpmiaaDoorW.PrintLast Go.Proofs.YtbbddeilbcpmiaaDoorW.PrintMore
set_option linter.unusedVariables false
set_option linter.unusedSimpArgs false

/-- of the first n values: where the three-valued one is sure, the truth is what it says -/
def RI (n : Nat) (xs : List Int) (bs : List Bool) : Prop := bs.length = n ∧ ∀ j, j < n → (xs.getD j 0 = 2 → bs.getD j false = true) ∧ (xs.getD j 0 = 0 → bs.getD j false = false)

theorem getD_snoc_lt {α : Type} (bs : List α) (b d : α) {j : Nat} (h : j < bs.length) : (bs ++ [b]).getD j d = bs.getD j d := by
  rw [List.getD_eq_getElem?_getD, List.getD_eq_getElem?_getD, List.getElem?_append_left h]
theorem getD_snoc_eq {α : Type} (bs : List α) (b d : α) {j : Nat} (h : j = bs.length) : (bs ++ [b]).getD j d = b := by
  subst h
  rw [List.getD_eq_getElem?_getD, List.getElem?_append_right (Nat.le_refl _)]
  simp

theorem RI.step {n : Nat} {xs : List Int} {bs : List Bool} (h : RI n xs bs) (b : Bool) (h2 : xs.getD n 0 = 2 → b = true) (h0 : xs.getD n 0 = 0 → b = false) : RI (n + 1) xs (bs ++ [b]) := by
  refine ⟨by simp [h.1], fun j hj => ?_⟩
  by_cases c : j < n
  · rw [getD_snoc_lt bs b false (by rw [h.1]; exact c)]
    exact h.2 j c
  · obtain rfl : j = n := by omega
    rw [getD_snoc_eq bs b false h.1.symm]
    exact ⟨h2, h0⟩

theorem RI.both {n : Nat} {xs : List Int} {bs : List Bool} (h : RI n xs bs) (hx : xs.length = n) (x : Int) (b : Bool) (h2 : x = 2 → b = true) (h0 : x = 0 → b = false) : RI (n + 1) (xs ++ [x]) (bs ++ [b]) := by
  refine ⟨by simp [h.1], fun j hj => ?_⟩
  by_cases c : j < n
  · rw [getD_snoc_lt bs b false (by rw [h.1]; exact c), getD_snoc_lt xs x 0 (by rw [hx]; exact c)]
    exact h.2 j c
  · obtain rfl : j = n := by omega
    rw [getD_snoc_eq bs b false h.1.symm, getD_snoc_eq xs x 0 hx.symm]
    exact ⟨h2, h0⟩

theorem truths_l0 {x0 : List Int} (hl : x0.length < 140737488355328) : ∀ (d i : Nat) (acc : List Bool) (x1 : Int), i + d = x0.length → RI i x0 acc →
    ∃ r : List Bool, (∀ k, d < k → intervalmonref28_Truths.l0 k x0 x1 acc (i : Int) = some r) ∧ RI x0.length x0 r := by
  intro d
  induction d with
  | zero =>
    intro i acc x1 hi hr
    obtain rfl : i = x0.length := by omega
    refine ⟨acc, ?_, hr⟩
    intro k hk
    obtain ⟨k, rfl⟩ : ∃ j, k = j + 1 := ⟨k - 1, by omega⟩
    rw [intervalmonref28_Truths.l0, if_neg (by omega)]
  | succ d ih =>
    intro i acc x1 hi hr
    have ha := hr.1
    by_cases c1 : x0.getD i 0 = 1
    · obtain ⟨r, h, hR⟩ := ih (i + 1) (acc ++ [(Int.tmod x1 2) == 1]) (wrap64 (Int.tdiv x1 2)) (by omega) (hr.step _ (by omega) (by omega))
      refine ⟨r, ?_, hR⟩
      intro k hk
      obtain ⟨k, rfl⟩ : ∃ j, k = j + 1 := ⟨k - 1, by omega⟩
      rw [intervalmonref28_Truths.l0, if_pos (by omega), if_pos (by omega), rdN, if_pos c1, if_pos (by omega), w1 (by omega)]
      exact h k (by omega)
    · obtain ⟨r, h, hR⟩ := ih (i + 1) (acc ++ [x0.getD i 0 == 2]) x1 (by omega) (hr.step _ (by intro h; rw [h]; rfl) (by intro h; rw [h]; rfl))
      refine ⟨r, ?_, hR⟩
      intro k hk
      obtain ⟨k, rfl⟩ : ∃ j, k = j + 1 := ⟨k - 1, by omega⟩
      rw [intervalmonref28_Truths.l0, if_pos (by omega), if_pos (by omega), rdN, if_neg c1, if_pos (by omega), w1 (by omega)]
      exact h k (by omega)

theorem truths_ok {x0 : List Int} (hl : x0.length < 140737488355328) (x1 : Int) {k : Nat} (hk : x0.length < k) : ∃ r : List Bool, intervalmonref28_Truths.f k x0 x1 = some r ∧ RI x0.length x0 r := by
  obtain ⟨r, h, hR⟩ := truths_l0 hl x0.length 0 [] x1 (by omega) ⟨rfl, fun j hj => by omega⟩
  exact ⟨r, h k hk, hR⟩

theorem rdB (xs : List Bool) (i : Nat) : rdOf false xs (i : Int) = xs.getD i false := rfl

theorem latch_key {x y : Int} (hx : x = 0 ∨ x = 1 ∨ x = 2) (hy : y = 0 ∨ y = 1 ∨ y = 2) : ∀ (t u l g b : Bool), (x = 2 → t = true) → (x = 0 → t = false) → (y = 2 → u = true) → (y = 0 → u = false) → (l = true → b = true) → (b = true → g = true) →
    ((((x == 2) || (l && !(y != 0))) = true → (t || (b && !u)) = true) ∧ ((t || (b && !u)) = true → ((x != 0) || (g && !(y == 2))) = true)) := by
  rcases hx with rfl | rfl | rfl <;> rcases hy with rfl | rfl | rfl <;> decide
theorem out_two : ∀ l g b : Bool, (l = true → b = true) → hyOut l g = 2 → b = true := by decide
theorem out_zero : ∀ l g b : Bool, (b = true → g = true) → hyOut l g = 0 → b = false := by decide

theorem latch_l0 {s c : List Int} {T U : List Bool} (hsc : s.length = c.length) (hl : s.length < 140737488355328) (hs : ∀ x ∈ s, 0 ≤ x ∧ x ≤ 2) (hc : ∀ x ∈ c, 0 ≤ x ∧ x ≤ 2) (hT : RI s.length s T) (hU : RI s.length c U) :
    ∀ (d i : Nat) (accH : List Int) (accL : List Bool) (l g b : Bool), i + d = s.length → accH.length = i → RI i accH accL → (l = true → b = true) → (b = true → g = true) →
    ∃ r : List Bool, (∀ k, d < k → intervalmonref28_Latch.l0 k T U accL b (i : Int) = some r) ∧ (hyGo s c d (i : Int) l g accH).length = s.length ∧ RI s.length (hyGo s c d (i : Int) l g accH) r := by
  intro d
  induction d with
  | zero =>
    intro i accH accL l g b hi hH hR hlb hbg
    obtain rfl : i = s.length := by omega
    refine ⟨accL, ?_, hH, hR⟩
    intro k hk
    obtain ⟨k, rfl⟩ : ∃ j, k = j + 1 := ⟨k - 1, by omega⟩
    have := hT.1
    rw [intervalmonref28_Latch.l0, if_neg (by omega)]
  | succ d ih =>
    intro i accH accL l g b hi hH hR hlb hbg
    have hT1 := hT.1
    have hU1 := hU.1
    have hRl := hR.1
    have hsi := hs _ (getD_mem (show i < s.length by omega))
    have hci := hc _ (getD_mem (show i < c.length by omega))
    have hTi := hT.2 i (by omega)
    have hUi := hU.2 i (by omega)
    have hgo := hyGo_go s c d (i : Int) l g accH (s.getD i 0) (c.getD i 0) (rdN s i) (rdN c i) _ _ rfl rfl ⟨hsi.1, hsi.2, hci.1, hci.2⟩
    rw [hgo]
    have key := latch_key (show s.getD i 0 = 0 ∨ s.getD i 0 = 1 ∨ s.getD i 0 = 2 by omega) (show c.getD i 0 = 0 ∨ c.getD i 0 = 1 ∨ c.getD i 0 = 2 by omega) (T.getD i false) (U.getD i false) l g b hTi.1 hTi.2 hUi.1 hUi.2 hlb hbg
    generalize hb' : (T.getD i false || (b && !(U.getD i false))) = b' at key
    obtain ⟨k1, k2⟩ := key
    generalize hl' : (((s.getD i 0) == 2) || (l && !((c.getD i 0) != 0))) = l' at k1 ⊢
    generalize hg' : (((s.getD i 0) != 0) || (g && !((c.getD i 0) == 2))) = g' at k2 ⊢
    have ho2 := out_two l' g' b' k1
    have ho0 := out_zero l' g' b' k2
    obtain ⟨r, h, hlen, hRR⟩ := ih (i + 1) (accH ++ [hyOut l' g']) (accL ++ [b']) l' g' b' (by omega) (by simp [hH]) (hR.both hH _ _ ho2 ho0) k1 k2
    have hcast : ((i : Int) + 1) = ((i + 1 : Nat) : Int) := by omega
    rw [hcast]
    refine ⟨r, ?_, hlen, hRR⟩
    intro k hk
    obtain ⟨k, rfl⟩ : ∃ j, k = j + 1 := ⟨k - 1, by omega⟩
    rw [intervalmonref28_Latch.l0, if_pos (by omega), if_pos (by omega), rdB, w1 (by omega)]
    have hrec := h k (by omega)
    by_cases cT : T.getD i false = true
    · rw [if_pos cT, if_pos (by omega)]
      rw [cT, Bool.true_or] at hb'
      subst hb'
      exact hrec
    · rw [if_neg cT]
      have cT' : T.getD i false = false := Bool.eq_false_iff.mpr cT
      rw [cT', Bool.false_or] at hb'
      by_cases cb : b = true
      · rw [if_pos cb, if_pos (by omega), if_pos (by omega), rdB]
        rw [cb, Bool.true_and] at hb'
        rw [hb']
        exact hrec
      · rw [if_neg cb, if_pos (by omega)]
        have cb' : b = false := Bool.eq_false_iff.mpr cb
        rw [cb', Bool.false_and] at hb'
        subst hb'
        exact hrec

end Go.Proofs.YtbbddeilbcpmiaaDoor.Pure
