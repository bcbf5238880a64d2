/- Plain facts for AlertHysteresis: the latch in three values is the hull of the latches of all truths. -/
import Derived.Test.YtbbddeilbcpmiaaDoorPureTruths
import Derived.Test.YtbbddeilbcpmiaaDoorQ27
namespace Go.Proofs.YtbbddeilbcpmiaaDoor.Pure
open Go.RowKit Go.Proofs.YtbbddeilbcpmiaaDoor.Q Go.Proofs.YtbbddeilbcpmiaaDoorW.PrintWords Go.Proofs.YtbbddeilbcpmiaaDoorW.PrintLast Go.Proofs.YtbbddeilbcpmiaaDoorW.PrintMore
set_option linter.unusedVariables false
set_option linter.unusedSimpArgs false

theorem stepK {α : Type} {g f : Nat → Option α} {r : α} (K : Nat) (h : ∀ k, K ≤ k → g (k + 1) = f k) (e : Ev f r) : Ev g r := by
  obtain ⟨K2, hK⟩ := e
  refine ⟨max K K2 + 1, fun k hk => ?_⟩
  obtain ⟨k, rfl⟩ : ∃ j, k = j + 1 := ⟨k - 1, by omega⟩
  rw [h k (by omega)]
  exact hK k (by omega)

def goodAt (s c : List Int) (j : Nat) : Prop := 0 ≤ s.getD j 0 ∧ s.getD j 0 ≤ 2 ∧ 0 ≤ c.getD j 0 ∧ c.getD j 0 ≤ 2

theorem latch_gen {s c : List Int} {T U : List Bool} {n : Nat} (hT : T.length = n) (hU : U.length = n) (hn : n < 140737488355328) (hr : ∀ j, j < n → goodAt s c j) (Rel : Int → Bool → Prop) (Inv : Bool → Bool → Bool → Prop)
    (hstep : ∀ j, j < n → ∀ l g b, Inv l g b →
      Inv (((s.getD j 0) == 2) || (l && !((c.getD j 0) != 0))) (((s.getD j 0) != 0) || (g && !((c.getD j 0) == 2))) (T.getD j false || (b && !(U.getD j false)))
      ∧ Rel (hyOut (((s.getD j 0) == 2) || (l && !((c.getD j 0) != 0))) (((s.getD j 0) != 0) || (g && !((c.getD j 0) == 2)))) (T.getD j false || (b && !(U.getD j false)))) :
    ∀ (d i : Nat) (accH : List Int) (accL : List Bool) (l g b : Bool), i + d = n → accH.length = i → accL.length = i → (∀ j, j < i → Rel (accH.getD j 0) (accL.getD j false)) → Inv l g b →
    ∃ r : List Bool, (∀ k, d < k → intervalmonref28_Latch.l0 k T U accL b (i : Int) = some r) ∧ (hyGo s c d (i : Int) l g accH).length = n ∧ r.length = n ∧ ∀ j, j < n → Rel ((hyGo s c d (i : Int) l g accH).getD j 0) (r.getD j false) := by
  intro d
  induction d with
  | zero =>
    intro i accH accL l g b hi hH hL hR hI
    obtain rfl : i = n := by omega
    refine ⟨accL, ?_, hH, hL, hR⟩
    intro k hk
    obtain ⟨k, rfl⟩ : ∃ j, k = j + 1 := ⟨k - 1, by omega⟩
    rw [intervalmonref28_Latch.l0, if_neg (by omega)]
  | succ d ih =>
    intro i accH accL l g b hi hH hL hR hI
    have hgo := hyGo_go s c d (i : Int) l g accH (s.getD i 0) (c.getD i 0) (rdN s i) (rdN c i) _ _ rfl rfl (hr i (by omega))
    rw [hgo]
    have key := hstep i (by omega) l g b hI
    generalize hb' : (T.getD i false || (b && !(U.getD i false))) = b' at key
    obtain ⟨k1, k2⟩ := key
    generalize hl' : (((s.getD i 0) == 2) || (l && !((c.getD i 0) != 0))) = l' at k1 k2 ⊢
    generalize hg' : (((s.getD i 0) != 0) || (g && !((c.getD i 0) == 2))) = g' at k1 k2 ⊢
    obtain ⟨r, h, hlen, hrl, hRR⟩ := ih (i + 1) (accH ++ [hyOut l' g']) (accL ++ [b']) l' g' b' (by omega) (by simp [hH]) (by simp [hL])
      (by intro j hj
          by_cases cj : j < i
          · rw [getD_snoc_lt accH _ 0 (by omega), getD_snoc_lt accL _ false (by omega)]
            exact hR j cj
          · obtain rfl : j = i := by omega
            rw [getD_snoc_eq accH _ 0 hH.symm, getD_snoc_eq accL _ false hL.symm]
            exact k2) k1
    have hcast : ((i : Int) + 1) = ((i + 1 : Nat) : Int) := by omega
    rw [hcast]
    refine ⟨r, ?_, hlen, hrl, hRR⟩
    intro k hk
    obtain ⟨k, rfl⟩ : ∃ j, k = j + 1 := ⟨k - 1, by omega⟩
    rw [intervalmonref28_Latch.l0, if_pos (by omega), if_pos (by omega), rdB, w1 (by omega)]
    have hrec := h k (by omega)
    by_cases cT : T.getD i false = true
    · rw [if_pos cT, if_pos (by omega)]
      rw [cT, Bool.true_or] at hb'
      subst hb'
      exact hrec
    · rw [if_neg cT]
      have cT' : T.getD i false = false := Bool.eq_false_iff.mpr cT
      rw [cT', Bool.false_or] at hb'
      by_cases cb : b = true
      · rw [if_pos cb, if_pos (by omega), if_pos (by omega), rdB]
        rw [cb, Bool.true_and] at hb'
        rw [hb']
        exact hrec
      · rw [if_neg cb, if_pos (by omega)]
        have cb' : b = false := Bool.eq_false_iff.mpr cb
        rw [cb', Bool.false_and] at hb'
        subst hb'
        exact hrec

theorem truths_gen {x0 : List Int} (hl : x0.length < 140737488355328) (Rel : Int → Bool → Prop) (Inv : Nat → Int → Prop)
    (h1 : ∀ i x1, i < x0.length → Inv i x1 → x0.getD i 0 = 1 → Inv (i + 1) (wrap64 (Int.tdiv x1 2)) ∧ Rel 1 (Int.tmod x1 2 == 1))
    (h2 : ∀ i x1, i < x0.length → Inv i x1 → ¬ x0.getD i 0 = 1 → Inv (i + 1) x1 ∧ Rel (x0.getD i 0) (x0.getD i 0 == 2)) :
    ∀ (d i : Nat) (acc : List Bool) (x1 : Int), i + d = x0.length → acc.length = i → (∀ j, j < i → Rel (x0.getD j 0) (acc.getD j false)) → Inv i x1 →
    ∃ r : List Bool, (∀ k, d < k → intervalmonref28_Truths.l0 k x0 x1 acc (i : Int) = some r) ∧ r.length = x0.length ∧ ∀ j, j < x0.length → Rel (x0.getD j 0) (r.getD j false) := by
  intro d
  induction d with
  | zero =>
    intro i acc x1 hi ha hR hI
    obtain rfl : i = x0.length := by omega
    refine ⟨acc, ?_, ha, hR⟩
    intro k hk
    obtain ⟨k, rfl⟩ : ∃ j, k = j + 1 := ⟨k - 1, by omega⟩
    rw [intervalmonref28_Truths.l0, if_neg (by omega)]
  | succ d ih =>
    intro i acc x1 hi ha hR hI
    by_cases c1 : x0.getD i 0 = 1
    · obtain ⟨k1, k2⟩ := h1 i x1 (by omega) hI c1
      obtain ⟨r, h, hrl, hRR⟩ := ih (i + 1) (acc ++ [(Int.tmod x1 2) == 1]) (wrap64 (Int.tdiv x1 2)) (by omega) (by simp [ha])
        (by intro j hj
            by_cases cj : j < i
            · rw [getD_snoc_lt acc _ false (by omega)]
              exact hR j cj
            · obtain rfl : j = i := by omega
              rw [getD_snoc_eq acc _ false ha.symm, c1]
              exact k2) k1
      refine ⟨r, ?_, hrl, hRR⟩
      intro k hk
      obtain ⟨k, rfl⟩ : ∃ j, k = j + 1 := ⟨k - 1, by omega⟩
      rw [intervalmonref28_Truths.l0, if_pos (by omega), if_pos (by omega), rdN, if_pos c1, if_pos (by omega), w1 (by omega)]
      exact h k (by omega)
    · obtain ⟨k1, k2⟩ := h2 i x1 (by omega) hI c1
      obtain ⟨r, h, hrl, hRR⟩ := ih (i + 1) (acc ++ [x0.getD i 0 == 2]) x1 (by omega) (by simp [ha])
        (by intro j hj
            by_cases cj : j < i
            · rw [getD_snoc_lt acc _ false (by omega)]
              exact hR j cj
            · obtain rfl : j = i := by omega
              rw [getD_snoc_eq acc _ false ha.symm]
              exact k2) k1
      refine ⟨r, ?_, hrl, hRR⟩
      intro k hk
      obtain ⟨k, rfl⟩ : ∃ j, k = j + 1 := ⟨k - 1, by omega⟩
      rw [intervalmonref28_Truths.l0, if_pos (by omega), if_pos (by omega), rdN, if_neg c1, if_pos (by omega), w1 (by omega)]
      exact h k (by omega)

/-- how many of the d values from i on are 1 -/
def cnt (x0 : List Int) : Nat → Nat → Nat
  | 0, _ => 0
  | d + 1, i => (if x0.getD i 0 = 1 then 1 else 0) + cnt x0 d (i + 1)
theorem cnt_le (x0 : List Int) : ∀ d i, cnt x0 d i ≤ d := by
  intro d
  induction d with
  | zero => intro i; exact Nat.le_refl _
  | succ d ih => intro i; have := ih (i + 1); unfold cnt; split <;> omega

theorem mays_l0 {x0 : List Int} (hl : x0.length < 1000000) : ∀ (d i a : Nat), i + d = x0.length → a ≤ i → ∀ k, d < k → intervalmonref28_mays.l0 k x0 (a : Int) (i : Int) = some ((a + cnt x0 d i : Nat) : Int) := by
  intro d
  induction d with
  | zero =>
    intro i a hi ha k hk
    obtain ⟨k, rfl⟩ : ∃ j, k = j + 1 := ⟨k - 1, by omega⟩
    rw [intervalmonref28_mays.l0, if_neg (by omega)]
    rfl
  | succ d ih =>
    intro i a hi ha k hk
    obtain ⟨k, rfl⟩ : ∃ j, k = j + 1 := ⟨k - 1, by omega⟩
    rw [intervalmonref28_mays.l0, if_pos (by omega), if_pos (by omega), rdN]
    have hwi := w1 (show i < 4611686018427387904 by omega)
    by_cases c1 : x0.getD i 0 = 1
    · rw [if_pos c1, hwi, w1 (show a < 4611686018427387904 by omega), ih (i + 1) (a + 1) (by omega) (by omega) k (by omega)]
      have : cnt x0 (d + 1) i = 1 + cnt x0 d (i + 1) := by rw [cnt, if_pos c1]
      rw [this, Nat.add_assoc]
    · rw [if_neg c1, hwi, ih (i + 1) a (by omega) (by omega) k (by omega)]
      have : cnt x0 (d + 1) i = 0 + cnt x0 d (i + 1) := by rw [cnt, if_neg c1]
      rw [this, Nat.zero_add]

theorem mays_ok {x0 : List Int} (hl : x0.length < 1000000) {k : Nat} (hk : x0.length < k) : intervalmonref28_mays.f k x0 = some ((cnt x0 x0.length 0 : Nat) : Int) := by
  have := mays_l0 hl x0.length 0 0 (by omega) (by omega) k hk
  rw [Nat.zero_add] at this
  exact this

theorem truths_any {x0 : List Int} (hl : x0.length < 140737488355328) (x1 : Int) : ∃ r : List Bool, (∀ k, x0.length < k → intervalmonref28_Truths.f k x0 x1 = some r) ∧ r.length = x0.length ∧ ∀ j, j < x0.length → (x0.getD j 0 = 2 → r.getD j false = true) ∧ (x0.getD j 0 = 0 → r.getD j false = false) := by
  obtain ⟨r, h, hl', hR⟩ := truths_gen hl (fun x b => (x = 2 → b = true) ∧ (x = 0 → b = false)) (fun _ _ => True) (fun _ _ _ _ _ => ⟨trivial, by omega, by omega⟩) (fun i _ _ _ _ => ⟨trivial, by intro h; rw [h]; rfl, by intro h; rw [h]; rfl⟩) x0.length 0 [] x1 (by omega) rfl (fun j hj => by omega) trivial
  exact ⟨r, h, hl', hR⟩

theorem truths_min {x0 : List Int} (hl : x0.length < 140737488355328) : ∃ r : List Bool, (∀ k, x0.length < k → intervalmonref28_Truths.f k x0 0 = some r) ∧ r.length = x0.length ∧ ∀ j, j < x0.length → r.getD j false = (x0.getD j 0 == 2) := by
  obtain ⟨r, h, hl', hR⟩ := truths_gen hl (fun x b => b = (x == 2)) (fun _ x => x = 0) (fun i x1 _ hx _ => by subst hx; exact ⟨by decide +kernel, by decide +kernel⟩) (fun i x1 _ hx _ => ⟨hx, rfl⟩) x0.length 0 [] 0 (by omega) rfl (fun j hj => by omega) rfl
  exact ⟨r, h, hl', hR⟩

theorem pow_pos' (c : Nat) : 1 ≤ 2 ^ c := Nat.one_le_two_pow
theorem truths_max {x0 : List Int} (hl : x0.length ≤ 40) : ∃ r : List Bool, (∀ k, x0.length < k → intervalmonref28_Truths.f k x0 (((2 ^ cnt x0 x0.length 0 : Nat) : Int) - 1) = some r) ∧ r.length = x0.length ∧ ∀ j, j < x0.length → (x0.getD j 0 ≤ 2 → 0 ≤ x0.getD j 0 → r.getD j false = (x0.getD j 0 != 0)) := by
  obtain ⟨r, h, hl', hR⟩ := truths_gen (x0 := x0) (by omega) (fun x b => x ≤ 2 → 0 ≤ x → b = (x != 0)) (fun i x => x = ((2 ^ cnt x0 (x0.length - i) i : Nat) : Int) - 1)
    (fun i x1 hi hx c1 => by
      obtain ⟨d, hd⟩ : ∃ d, x0.length - i = d + 1 := ⟨x0.length - i - 1, by omega⟩
      have hd' : x0.length - (i + 1) = d := by omega
      have hc : cnt x0 (d + 1) i = cnt x0 d (i + 1) + 1 := by rw [cnt, if_pos c1]; omega
      rw [hd, hc, Nat.pow_succ] at hx
      rw [hd']
      have hp := pow_pos' (cnt x0 d (i + 1))
      have hle := cnt_le x0 d (i + 1)
      have hub : 2 ^ cnt x0 d (i + 1) ≤ 2 ^ 40 := Nat.pow_le_pow_right (by omega) (by omega)
      generalize 2 ^ cnt x0 d (i + 1) = q at *
      have ed : Int.tdiv x1 2 = (q : Int) - 1 := by
        rw [Int.tdiv_eq_ediv_of_nonneg (by omega)]; omega
      have em : Int.tmod x1 2 = 1 := by
        rw [Int.tmod_eq_emod_of_nonneg (by omega)]; omega
      refine ⟨?_, ?_⟩
      · rw [ed, w64 (by omega) (by omega)]
      · rw [em]; intro _ _; rfl)
    (fun i x1 hi hx c1 => by
      obtain ⟨d, hd⟩ : ∃ d, x0.length - i = d + 1 := ⟨x0.length - i - 1, by omega⟩
      have hd' : x0.length - (i + 1) = d := by omega
      have hc : cnt x0 (d + 1) i = cnt x0 d (i + 1) := by rw [cnt, if_neg c1]; omega
      rw [hd, hc] at hx
      rw [hd']
      refine ⟨hx, ?_⟩
      intro h2 h0
      generalize x0.getD i 0 = y at *
      have hy : y = 0 ∨ y = 2 := by omega
      rcases hy with rfl | rfl <;> rfl)
    x0.length 0 [] (((2 ^ cnt x0 x0.length 0 : Nat) : Int) - 1) (by omega) rfl (fun j hj => by omega) rfl
  exact ⟨r, h, hl', hR⟩

end Go.Proofs.YtbbddeilbcpmiaaDoor.Pure
