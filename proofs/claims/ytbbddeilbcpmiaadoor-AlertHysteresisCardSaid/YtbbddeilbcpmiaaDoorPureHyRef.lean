/- Plain facts for AlertHysteresis: what the reference computes by trying all truths. -/
import Derived.Test.YtbbddeilbcpmiaaDoorPureHy
namespace Go.Proofs.YtbbddeilbcpmiaaDoor.Pure
open Go.RowKit Go.Proofs.YtbbddeilbcpmiaaDoor.Q Go.Proofs.YtbbddeilbcpmiaaDoorW.PrintWords Go.Proofs.YtbbddeilbcpmiaaDoorW.PrintLast Go.Proofs.YtbbddeilbcpmiaaDoorW.PrintMore
set_option linter.unusedVariables false
set_option linter.unusedSimpArgs false

theorem take_getD {s : List Int} {n j : Nat} (h : j < n) : (s.take n).getD j 0 = s.getD j 0 := by
  rw [List.getD_eq_getElem?_getD, List.getD_eq_getElem?_getD, List.getElem?_take_of_lt h]
theorem take_len {s : List Int} {n : Nat} (h : n ≤ s.length) : (s.take n).length = n := by
  rw [List.length_take]; omega

theorem out_val (l g : Bool) : hyOut l g = 0 ∨ hyOut l g = 1 ∨ hyOut l g = 2 := by cases l <;> cases g <;> decide
theorem max_key {x y : Int} (hx : x = 0 ∨ x = 1 ∨ x = 2) (hy : y = 0 ∨ y = 1 ∨ y = 2) : ∀ (l g b : Bool), b = g → (l = true → g = true) →
    (((x != 0) || (b && !(y == 2))) = ((x != 0) || (g && !(y == 2))) ∧ (((x == 2) || (l && !(y != 0))) = true → ((x != 0) || (g && !(y == 2))) = true)) ∧
    (((x != 0) || (b && !(y == 2))) = false → hyOut ((x == 2) || (l && !(y != 0))) ((x != 0) || (g && !(y == 2))) = 0) := by
  rcases hx with rfl | rfl | rfl <;> rcases hy with rfl | rfl | rfl <;> decide
theorem min_out (l g : Bool) (h : l = true) : hyOut l g = 2 := by subst h; rfl

def hyH (s c : List Int) (n : Nat) : List Int := hyGo s c n 0 false false []

theorem pair_ok {s c : List Int} {n : Nat} (hs : n ≤ s.length) (hc : n ≤ c.length) (hn : n ≤ 5) (hr : ∀ j, j < n → goodAt s c j) (x15 x16 : Int) :
    ∃ T U L : List Bool, (∀ k, n < k → intervalmonref28_Truths.f k (s.take n) x15 = some T) ∧ (∀ k, n < k → intervalmonref28_Truths.f k (c.take n) x16 = some U) ∧ (∀ k, n < k → intervalmonref28_Latch.f k T U = some L) ∧ L.length = n ∧ (hyH s c n).length = n ∧
      (∀ j, j < n → ((hyH s c n).getD j 0 = 2 → L.getD j false = true) ∧ ((hyH s c n).getD j 0 = 0 → L.getD j false = false) ∧ ((hyH s c n).getD j 0 = 0 ∨ (hyH s c n).getD j 0 = 1 ∨ (hyH s c n).getD j 0 = 2)) ∧
      (x15 = 0 → x16 = ((2 ^ cnt (c.take n) n 0 : Nat) : Int) - 1 → ∀ j, j < n → L.getD j false = true → (hyH s c n).getD j 0 = 2) ∧
      (x15 = ((2 ^ cnt (s.take n) n 0 : Nat) : Int) - 1 → x16 = 0 → ∀ j, j < n → L.getD j false = false → (hyH s c n).getD j 0 = 0) := by
  have ls := take_len hs
  have lc := take_len hc
  obtain ⟨T, hT, hTl, hTR⟩ := truths_any (x0 := s.take n) (by omega) x15
  obtain ⟨U, hU, hUl, hUR⟩ := truths_any (x0 := c.take n) (by omega) x16
  rw [ls] at hT hTl hTR
  rw [lc] at hU hUl hUR
  obtain ⟨L, hL, hHl, hLl, hLR⟩ := latch_gen (s := s) (c := c) hTl hUl (by omega) hr (fun x b => (x = 2 → b = true) ∧ (x = 0 → b = false) ∧ (x = 0 ∨ x = 1 ∨ x = 2)) (fun l g b => (l = true → b = true) ∧ (b = true → g = true))
    (by intro j hj l g b ⟨i1, i2⟩
        have hg := hr j hj
        unfold goodAt at hg
        have tr := hTR j hj
        have ur := hUR j hj
        rw [take_getD hj] at tr ur
        have key := latch_key (show s.getD j 0 = 0 ∨ s.getD j 0 = 1 ∨ s.getD j 0 = 2 by omega) (show c.getD j 0 = 0 ∨ c.getD j 0 = 1 ∨ c.getD j 0 = 2 by omega) (T.getD j false) (U.getD j false) l g b tr.1 tr.2 ur.1 ur.2 i1 i2
        exact ⟨key, out_two _ _ _ key.1, out_zero _ _ _ key.2, out_val _ _⟩)
    n 0 [] [] false false false (by omega) rfl rfl (fun j hj => by omega) ⟨fun h => h, fun h => h⟩
  refine ⟨T, U, L, hT, hU, hL, hLl, hHl, hLR, ?_, ?_⟩
  · rintro rfl rfl
    obtain ⟨T', hT', hTl', hTR'⟩ := truths_min (x0 := s.take n) (by omega)
    obtain ⟨U', hU', hUl', hUR'⟩ := truths_max (x0 := c.take n) (by omega)
    rw [ls] at hT' hTl' hTR'
    rw [lc] at hU' hUl' hUR'
    obtain rfl : T = T' := by
      have e1 := hT (n + 1) (by omega)
      have e2 := hT' (n + 1) (by omega)
      rw [e1] at e2
      exact Option.some.inj e2
    obtain rfl : U = U' := by
      have e1 := hU (n + 1) (by omega)
      have e2 := hU' (n + 1) (by omega)
      rw [e1] at e2
      exact Option.some.inj e2
    obtain ⟨L', hL', _, _, hLR'⟩ := latch_gen (s := s) (c := c) hTl hUl (by omega) hr (fun x b => b = true → x = 2) (fun l g b => b = l)
      (by intro j hj l g b hb
          have hg := hr j hj
          unfold goodAt at hg
          have tr := hTR' j hj
          have ur := hUR' j hj
          rw [take_getD hj] at tr ur
          rw [tr, ur (by omega) (by omega), hb]
          exact ⟨rfl, fun h => min_out _ _ h⟩)
      n 0 [] [] false false false (by omega) rfl rfl (fun j hj => by omega) rfl
    obtain rfl : L = L' := by
      have e1 := hL (n + 1) (by omega)
      have e2 := hL' (n + 1) (by omega)
      rw [e1] at e2
      exact Option.some.inj e2
    exact hLR'
  · rintro rfl rfl
    obtain ⟨T', hT', hTl', hTR'⟩ := truths_max (x0 := s.take n) (by omega)
    obtain ⟨U', hU', hUl', hUR'⟩ := truths_min (x0 := c.take n) (by omega)
    rw [ls] at hT' hTl' hTR'
    rw [lc] at hU' hUl' hUR'
    obtain rfl : T = T' := by
      have e1 := hT (n + 1) (by omega)
      have e2 := hT' (n + 1) (by omega)
      rw [e1] at e2
      exact Option.some.inj e2
    obtain rfl : U = U' := by
      have e1 := hU (n + 1) (by omega)
      have e2 := hU' (n + 1) (by omega)
      rw [e1] at e2
      exact Option.some.inj e2
    obtain ⟨L', hL', _, _, hLR'⟩ := latch_gen (s := s) (c := c) hTl hUl (by omega) hr (fun x b => b = false → x = 0) (fun l g b => b = g ∧ (l = true → g = true))
      (by intro j hj l g b hb
          have hg := hr j hj
          unfold goodAt at hg
          have tr := hTR' j hj
          have ur := hUR' j hj
          rw [take_getD hj] at tr ur
          rw [tr (by omega) (by omega), ur]
          exact max_key (show s.getD j 0 = 0 ∨ s.getD j 0 = 1 ∨ s.getD j 0 = 2 by omega) (show c.getD j 0 = 0 ∨ c.getD j 0 = 1 ∨ c.getD j 0 = 2 by omega) l g b hb.1 hb.2)
      n 0 [] [] false false false (by omega) rfl rfl (fun j hj => by omega) ⟨rfl, fun h => h⟩
    obtain rfl : L = L' := by
      have e1 := hL (n + 1) (by omega)
      have e2 := hL' (n + 1) (by omega)
      rw [e1] at e2
      exact Option.some.inj e2
    exact hLR'

theorem set_getD {xs : List Bool} {i j : Nat} {v : Bool} (h : i < xs.length) : (xs.set i v).getD j false = if i = j then v else xs.getD j false := by
  rw [List.getD_eq_getElem?_getD, List.getD_eq_getElem?_getD, List.getElem?_set]
  by_cases c : i = j
  · rw [if_pos c, if_pos c, if_pos (by omega)]; rfl
  · rw [if_neg c, if_neg c]

theorem hy_l6 {s c : List Int} {n : Nat} (hn : n ≤ 5) {L : List Bool} (hL : L.length = n) {x11 x13 x15 x16 : Int} {r : List Int} : ∀ (d i : Nat) (x8 x9 : List Bool), i + d = n → x8.length = n → x9.length = n →
    (∀ y8 y9 : List Bool, y8.length = n → y9.length = n → (∀ j, j < n → y8.getD j false = if i ≤ j then (x8.getD j false || L.getD j false) else x8.getD j false) → (∀ j, j < n → y9.getD j false = if i ≤ j then (x9.getD j false && L.getD j false) else x9.getD j false) →
      Ev (fun k => intervalmonref28_Hysteresis.l5 k s c (n : Int) y8 y9 x11 x13 x15 (wrap64 (x16 + 1))) r) →
    Ev (fun k => intervalmonref28_Hysteresis.l6 k s c (n : Int) x8 x9 x11 x13 x15 x16 L (i : Int)) r := by
  intro d
  induction d with
  | zero =>
    intro i x8 x9 hi h8 h9 hk
    refine stepK 0 (fun k _ => ?_) (hk x8 x9 h8 h9 (fun j hj => by rw [if_neg (by omega)]) (fun j hj => by rw [if_neg (by omega)]))
    rw [intervalmonref28_Hysteresis.l6, if_neg (by omega)]
  | succ d ih =>
    intro i x8 x9 hi h8 h9 hk
    have hrec := ih (i + 1) (x8.set i (x8.getD i false || L.getD i false)) (x9.set i (x9.getD i false && L.getD i false)) (by omega) (by rw [List.length_set]; exact h8) (by rw [List.length_set]; exact h9)
      (fun y8 y9 l8 l9 e8 e9 => hk y8 y9 l8 l9
        (fun j hj => by
          rw [e8 j hj, set_getD (by omega)]
          by_cases c1 : i + 1 ≤ j
          · rw [if_pos c1, if_neg (show ¬ i = j by omega), if_pos (show i ≤ j by omega)]
          · by_cases c2 : i = j
            · subst c2
              rw [if_neg c1, if_pos rfl, if_pos (Nat.le_refl _)]
            · rw [if_neg c1, if_neg c2, if_neg (by omega)])
        (fun j hj => by
          rw [e9 j hj, set_getD (by omega)]
          by_cases c1 : i + 1 ≤ j
          · rw [if_pos c1, if_neg (show ¬ i = j by omega), if_pos (show i ≤ j by omega)]
          · by_cases c2 : i = j
            · subst c2
              rw [if_neg c1, if_pos rfl, if_pos (Nat.le_refl _)]
            · rw [if_neg c1, if_neg c2, if_neg (by omega)]))
    refine stepK 0 (fun k _ => ?_) hrec
    rw [intervalmonref28_Hysteresis.l6, if_pos (by omega), if_pos (by omega), if_pos (by omega), rdB, rdB, rdB, w1 (by omega), Int.toNat_natCast]
    by_cases c8 : x8.getD i false = true
    · rw [if_pos c8, c8, Option.bind_some, if_pos (by omega), Bool.true_or]
      by_cases c9 : x9.getD i false = true
      · rw [if_pos c9, if_pos (by omega), c9, Bool.true_and]
      · rw [if_neg c9, Bool.eq_false_iff.mpr c9, Bool.false_and]
    · rw [if_neg c8, if_pos (by omega), Option.bind_some, if_pos (by omega), Bool.eq_false_iff.mpr c8, Bool.false_or]
      by_cases c9 : x9.getD i false = true
      · rw [if_pos c9, c9, Bool.true_and]
      · rw [if_neg c9, Bool.eq_false_iff.mpr c9, Bool.false_and]

/-- what holds of the two rows, before the pair (a, b) of truths is tried -/
structure HyInv (H : List Int) (n M1 M2 a b : Nat) (x8 x9 : List Bool) : Prop where
  l8 : x8.length = n
  l9 : x9.length = n
  may : ∀ j, j < n → x8.getD j false = true → H.getD j 0 ≠ 0
  must : ∀ j, j < n → H.getD j 0 = 2 → x9.getD j false = true
  mustOnly : (0 < a ∨ (a = 0 ∧ M2 ≤ b)) → ∀ j, j < n → x9.getD j false = true → H.getD j 0 = 2
  mayAll : (M1 ≤ a ∨ (a + 1 = M1 ∧ 0 < b)) → ∀ j, j < n → H.getD j 0 ≠ 0 → x8.getD j false = true

theorem hy_l5 {s c : List Int} {n : Nat} (hs : n ≤ s.length) (hc : n ≤ c.length) (hn : n ≤ 5) (hr : ∀ j, j < n → goodAt s c j) {M1 M2 : Nat} (hM1 : M1 = 2 ^ cnt (s.take n) n 0) (hM2 : M2 = 2 ^ cnt (c.take n) n 0) (hb1 : M1 ≤ 32) (hb2 : M2 ≤ 32) {r : List Int} {a : Nat} : ∀ (d b : Nat) (x8 x9 : List Bool), b + d = M2 → HyInv (hyH s c n) n M1 M2 a b x8 x9 →
    (∀ y8 y9 : List Bool, HyInv (hyH s c n) n M1 M2 a M2 y8 y9 → Ev (fun k => intervalmonref28_Hysteresis.l4 k s c (n : Int) y8 y9 (M1 : Int) (M2 : Int) (wrap64 ((a : Int) + 1))) r) →
    Ev (fun k => intervalmonref28_Hysteresis.l5 k s c (n : Int) x8 x9 (M1 : Int) (M2 : Int) (a : Int) (b : Int)) r := by
  intro d
  induction d with
  | zero =>
    intro b x8 x9 hb hI hk
    obtain rfl : b = M2 := by omega
    refine stepK 0 (fun k _ => ?_) (hk x8 x9 hI)
    rw [intervalmonref28_Hysteresis.l5, if_neg (by omega)]
  | succ d ih =>
    intro b x8 x9 hb hI hk
    obtain ⟨T, U, L, hT, hU, hL, hLl, hHl, hrel, hmin, hmax⟩ := pair_ok hs hc hn hr (a : Int) (b : Int)
    refine stepK (n + 1) (f := fun k => intervalmonref28_Hysteresis.l6 k s c (n : Int) x8 x9 (M1 : Int) (M2 : Int) (a : Int) (b : Int) L ((0 : Nat) : Int)) (fun k hkk => ?_) ?_
    · rw [intervalmonref28_Hysteresis.l5, if_pos (by omega), if_pos (by omega), if_pos (by omega), Int.toNat_natCast, hT k (by omega), Option.bind_some, if_pos (by omega), hU k (by omega), Option.bind_some, hL k (by omega), Option.bind_some]
      rfl
    · refine hy_l6 hn hLl n 0 x8 x9 (by omega) hI.l8 hI.l9 (fun y8 y9 e8 e9 h8 h9 => ?_)
      rw [w1 (by omega)]
      refine ih (b + 1) y8 y9 (by omega) ⟨e8, e9, ?_, ?_, ?_, ?_⟩ hk
      · intro j hj hy
        rw [h8 j hj, if_pos (by omega)] at hy
        rcases Bool.or_eq_true _ _ |>.mp hy with h | h
        · exact hI.may j hj h
        · intro h0
          rw [(hrel j hj).2.1 h0] at h
          cases h
      · intro j hj h2
        rw [h9 j hj, if_pos (by omega), hI.must j hj h2, (hrel j hj).1 h2]
        rfl
      · intro hf j hj hy
        rw [h9 j hj, if_pos (by omega)] at hy
        have hy2 := Bool.and_eq_true _ _ |>.mp hy
        by_cases cold : 0 < a ∨ (a = 0 ∧ M2 ≤ b)
        · exact hI.mustOnly cold j hj hy2.1
        · exact hmin (by omega) (by rw [← hM2]; omega) j hj hy2.2
      · intro hf j hj h0
        rw [h8 j hj, if_pos (by omega)]
        by_cases cold : M1 ≤ a ∨ (a + 1 = M1 ∧ 0 < b)
        · rw [hI.mayAll cold j hj h0]; rfl
        · have hLt : L.getD j false = true := by
            cases hx : L.getD j false
            · exact absurd (hmax (by rw [← hM1]; omega) (by omega) j hj hx) h0
            · rfl
          rw [hLt, Bool.or_true]

theorem hy_l4 {s c : List Int} {n : Nat} (hs : n ≤ s.length) (hc : n ≤ c.length) (hn : n ≤ 5) (hr : ∀ j, j < n → goodAt s c j) {M1 M2 : Nat} (hM1 : M1 = 2 ^ cnt (s.take n) n 0) (hM2 : M2 = 2 ^ cnt (c.take n) n 0) (hb1 : M1 ≤ 32) (hb2 : M2 ≤ 32) (hp2 : 1 ≤ M2) {r : List Int} : ∀ (d a : Nat) (x8 x9 : List Bool), a + d = M1 → HyInv (hyH s c n) n M1 M2 a 0 x8 x9 →
    (∀ y8 y9 : List Bool, HyInv (hyH s c n) n M1 M2 M1 0 y8 y9 → Ev (fun k => intervalmonref28_Hysteresis.l7 k (n : Int) ([] : List Int) y8 y9 0) r) →
    Ev (fun k => intervalmonref28_Hysteresis.l4 k s c (n : Int) x8 x9 (M1 : Int) (M2 : Int) (a : Int)) r := by
  intro d
  induction d with
  | zero =>
    intro a x8 x9 ha hI hk
    obtain rfl : a = M1 := by omega
    refine stepK 0 (fun k _ => ?_) (hk x8 x9 hI)
    rw [intervalmonref28_Hysteresis.l4, if_neg (by omega)]
  | succ d ih =>
    intro a x8 x9 ha hI hk
    refine stepK 0 (f := fun k => intervalmonref28_Hysteresis.l5 k s c (n : Int) x8 x9 (M1 : Int) (M2 : Int) (a : Int) ((0 : Nat) : Int)) (fun k _ => ?_) ?_
    · rw [intervalmonref28_Hysteresis.l4, if_pos (by omega)]
      rfl
    · refine hy_l5 hs hc hn hr hM1 hM2 hb1 hb2 M2 0 x8 x9 (by omega) hI (fun y8 y9 hJ => ?_)
      rw [w1 (by omega)]
      refine ih (a + 1) y8 y9 (by omega) ⟨hJ.l8, hJ.l9, hJ.may, hJ.must, fun _ => hJ.mustOnly (by omega), fun hf => hJ.mayAll (by omega)⟩ hk

theorem take_snoc {H : List Int} {i : Nat} (h : i < H.length) : H.take (i + 1) = H.take i ++ [H.getD i 0] := by
  rw [List.take_add_one, List.getD_eq_getElem?_getD, List.getElem?_eq_getElem h]
  rfl

theorem hy_l7 {H : List Int} {n : Nat} (hn : n ≤ 5) (hH : H.length = n) {x8 x9 : List Bool} (h8 : x8.length = n) (h9 : x9.length = n)
    (hv : ∀ j, j < n → H.getD j 0 = 0 ∨ H.getD j 0 = 1 ∨ H.getD j 0 = 2) (e8 : ∀ j, j < n → (x8.getD j false = true ↔ H.getD j 0 ≠ 0)) (e9 : ∀ j, j < n → (x9.getD j false = true ↔ H.getD j 0 = 2)) : ∀ (d i : Nat), i + d = n →
    Ev (fun k => intervalmonref28_Hysteresis.l7 k (n : Int) (H.take i) x8 x9 (i : Int)) H := by
  intro d
  induction d with
  | zero =>
    intro i hi
    refine stepK 0 (f := fun _ => some H) (fun k _ => ?_) (Ev.now H)
    rw [intervalmonref28_Hysteresis.l7, if_neg (by omega), List.take_of_length_le (by omega)]
  | succ d ih =>
    intro i hi
    have hrec := ih (i + 1) (by omega)
    rw [take_snoc (by omega)] at hrec
    refine stepK 0 (fun k _ => ?_) hrec
    have hl : (H.take i).length = i := by rw [List.length_take]; omega
    rw [intervalmonref28_Hysteresis.l7, if_pos (by omega), if_pos (by omega), if_pos (by omega), rdB, rdB, w1 (by omega)]
    by_cases c9 : x9.getD i false = true
    · rw [if_pos c9, if_pos (by omega), (e9 i (by omega)).mp c9]
    · rw [if_neg c9, if_pos (by omega)]
      have n2 : ¬ H.getD i 0 = 2 := fun h => c9 ((e9 i (by omega)).mpr h)
      by_cases c8 : x8.getD i false = true
      · have n0 := (e8 i (by omega)).mp c8
        have h1 : H.getD i 0 = 1 := by have := hv i (by omega); omega
        rw [if_pos c8, if_pos (by omega), h1]
      · have h0 : H.getD i 0 = 0 := by
          by_cases hz : H.getD i 0 = 0
          · exact hz
          · exact absurd ((e8 i (by omega)).mpr hz) c8
        rw [if_neg c8, if_pos (by omega), h0]

theorem hy_l3 {s c : List Int} {n : Nat} (hc : n ≤ c.length) (hn : n ≤ 5) {x8 x9 : List Bool} {x11 : Int} {r : List Int}
    (hk : Ev (fun k => intervalmonref28_Hysteresis.l4 k s c (n : Int) x8 x9 x11 ((2 ^ cnt (c.take n) n 0 : Nat) : Int) 0) r) : ∀ (d j : Nat), j + d = cnt (c.take n) n 0 →
    Ev (fun k => intervalmonref28_Hysteresis.l3 k s c (n : Int) x8 x9 x11 ((2 ^ j : Nat) : Int) (j : Int)) r := by
  have lc := take_len hc
  have hmays : ∀ k, n < k → intervalmonref28_mays.f k (c.take n) = some ((cnt (c.take n) n 0 : Nat) : Int) := fun k hk => by
    have := mays_ok (x0 := c.take n) (by omega) (k := k) (by omega)
    rw [lc] at this
    exact this
  have hle := cnt_le (c.take n) n 0
  intro d
  induction d with
  | zero =>
    intro j hj
    refine stepK (n + 1) (fun k hkk => ?_) hk
    rw [intervalmonref28_Hysteresis.l3, if_pos (by omega), if_pos (by omega), Int.toNat_natCast, hmays k (by omega), Option.bind_some, if_neg (by omega)]
    rw [show j = cnt (c.take n) n 0 by omega]
  | succ d ih =>
    intro j hj
    refine stepK (n + 1) (fun k hkk => ?_) (ih (j + 1) (by omega))
    have hub : 2 ^ j ≤ 2 ^ 5 := Nat.pow_le_pow_right (by omega) (by omega)
    rw [intervalmonref28_Hysteresis.l3, if_pos (by omega), if_pos (by omega), Int.toNat_natCast, hmays k (by omega), Option.bind_some, if_pos (by omega), w1 (by omega)]
    rw [show wrap64 (2 * ((2 ^ j : Nat) : Int)) = ((2 ^ (j + 1) : Nat) : Int) from by rw [Nat.pow_succ]; generalize 2 ^ j = q at *; rw [w64 (by omega) (by omega)]; omega]

theorem hy_l2 {s c : List Int} {n : Nat} (hs : n ≤ s.length) (hn : n ≤ 5) {x8 x9 : List Bool} {r : List Int}
    (hk : Ev (fun k => intervalmonref28_Hysteresis.l3 k s c (n : Int) x8 x9 ((2 ^ cnt (s.take n) n 0 : Nat) : Int) 1 0) r) : ∀ (d j : Nat), j + d = cnt (s.take n) n 0 →
    Ev (fun k => intervalmonref28_Hysteresis.l2 k s c (n : Int) x8 x9 ((2 ^ j : Nat) : Int) (j : Int)) r := by
  have lc := take_len hs
  have hmays : ∀ k, n < k → intervalmonref28_mays.f k (s.take n) = some ((cnt (s.take n) n 0 : Nat) : Int) := fun k hk => by
    have := mays_ok (x0 := s.take n) (by omega) (k := k) (by omega)
    rw [lc] at this
    exact this
  have hle := cnt_le (s.take n) n 0
  intro d
  induction d with
  | zero =>
    intro j hj
    refine stepK (n + 1) (fun k hkk => ?_) hk
    rw [intervalmonref28_Hysteresis.l2, if_pos (by omega), if_pos (by omega), Int.toNat_natCast, hmays k (by omega), Option.bind_some, if_neg (by omega)]
    rw [show j = cnt (s.take n) n 0 by omega]
  | succ d ih =>
    intro j hj
    refine stepK (n + 1) (fun k hkk => ?_) (ih (j + 1) (by omega))
    have hub : 2 ^ j ≤ 2 ^ 5 := Nat.pow_le_pow_right (by omega) (by omega)
    rw [intervalmonref28_Hysteresis.l2, if_pos (by omega), if_pos (by omega), Int.toNat_natCast, hmays k (by omega), Option.bind_some, if_pos (by omega), w1 (by omega)]
    rw [show wrap64 (2 * ((2 ^ j : Nat) : Int)) = ((2 ^ (j + 1) : Nat) : Int) from by rw [Nat.pow_succ]; generalize 2 ^ j = q at *; rw [w64 (by omega) (by omega)]; omega]

theorem hy_l1 {s c : List Int} {n : Nat} (hn : n ≤ 5) {x8 : List Bool} {r : List Int} : ∀ (d i : Nat) (x9 : List Bool), i + d = n → x9.length = n → (∀ j, j < i → x9.getD j false = true) →
    (∀ y9 : List Bool, y9.length = n → (∀ j, j < n → y9.getD j false = true) → Ev (fun k => intervalmonref28_Hysteresis.l2 k s c (n : Int) x8 y9 1 0) r) →
    Ev (fun k => intervalmonref28_Hysteresis.l1 k s c (n : Int) x8 x9 (i : Int)) r := by
  intro d
  induction d with
  | zero =>
    intro i x9 hi h9 hv hk
    obtain rfl : i = n := by omega
    refine stepK 0 (fun k _ => ?_) (hk x9 h9 hv)
    rw [intervalmonref28_Hysteresis.l1, if_neg (by omega)]
  | succ d ih =>
    intro i x9 hi h9 hv hk
    refine stepK 0 (fun k _ => ?_) (ih (i + 1) (x9.set i true) (by omega) (by rw [List.length_set]; exact h9) (fun j hj => ?_) hk)
    · rw [intervalmonref28_Hysteresis.l1, if_pos (by omega), if_pos (by omega), if_pos (by omega), w1 (by omega), Int.toNat_natCast]
    · rw [set_getD (by omega)]
      by_cases cj : i = j
      · rw [if_pos cj]
      · rw [if_neg cj]; exact hv j (by omega)

theorem hy_l0 {s c : List Int} {n : Nat} (hs : n ≤ s.length) (hc : n ≤ c.length) (hn : n ≤ 5) (hr : ∀ j, j < n → goodAt s c j) {r : List Int}
    (hk : Ev (fun k => intervalmonref28_Hysteresis.l1 k s c (n : Int) (List.replicate n false) (List.replicate n false) 0) r) : ∀ (d i : Nat), i + d = n →
    Ev (fun k => intervalmonref28_Hysteresis.l0 k s c (n : Int) (i : Int)) r := by
  intro d
  induction d with
  | zero =>
    intro i hi
    refine stepK 0 (fun k _ => ?_) hk
    rw [intervalmonref28_Hysteresis.l0, if_neg (by omega), if_pos (by omega), if_pos (by omega), Int.toNat_natCast]
  | succ d ih =>
    intro i hi
    have hg := hr i (by omega)
    unfold goodAt at hg
    refine stepK 0 (fun k _ => ?_) (ih (i + 1) (by omega))
    rw [intervalmonref28_Hysteresis.l0, if_pos (by omega), if_pos (by omega), if_pos (by omega), rdN, if_neg (by omega), if_neg (by omega), if_pos (by omega), rdN, if_neg (by omega), if_neg (by omega), w1 (by omega)]

theorem rep_false (n j : Nat) : (List.replicate n false).getD j false = false := by
  rw [List.getD_eq_getElem?_getD, List.getElem?_replicate]
  split <;> rfl

theorem hy_good {s c : List Int} {n : Nat} (hm : n = min s.length c.length) (hn : n ≤ 5) (hr : ∀ j, j < n → goodAt s c j) : Ev (fun k => intervalmonref28_Hysteresis.f k s c) (hyH s c n) := by
  have hs : n ≤ s.length := by omega
  have hc : n ≤ c.length := by omega
  have hmn : mn (s.length : Int) (c.length : Int) = (n : Int) := by unfold mn; split <;> omega
  have b1 : 2 ^ cnt (s.take n) n 0 ≤ 2 ^ 5 := Nat.pow_le_pow_right (by omega) (by have := cnt_le (s.take n) n 0; omega)
  have b2 : 2 ^ cnt (c.take n) n 0 ≤ 2 ^ 5 := Nat.pow_le_pow_right (by omega) (by have := cnt_le (c.take n) n 0; omega)
  have p1 := pow_pos' (cnt (s.take n) n 0)
  have p2 := pow_pos' (cnt (c.take n) n 0)
  obtain ⟨_, _, _, _, _, _, _, hHl, hrel, _, _⟩ := pair_ok hs hc hn hr 0 0
  unfold intervalmonref28_Hysteresis.f
  rw [hmn]
  refine hy_l0 hs hc hn hr ?_ n 0 (by omega)
  refine hy_l1 hn n 0 _ (by omega) (List.length_replicate ..) (fun j hj => by omega) (fun y9 l9 v9 => ?_)
  refine hy_l2 hs hn ?_ (cnt (s.take n) n 0) 0 (by omega)
  refine hy_l3 hc hn ?_ (cnt (c.take n) n 0) 0 (by omega)
  refine hy_l4 hs hc hn hr rfl rfl b1 b2 p2 (2 ^ cnt (s.take n) n 0) 0 _ _ (by omega) ⟨List.length_replicate .., l9, ?_, fun j hj _ => v9 j hj, ?_, ?_⟩ (fun z8 z9 hI => ?_)
  · intro j hj h
    rw [rep_false] at h
    cases h
  · intro h
    omega
  · intro h
    omega
  · have h7 := hy_l7 (H := hyH s c n) hn hHl hI.l8 hI.l9 (fun j hj => (hrel j hj).2.2) (fun j hj => ⟨hI.may j hj, hI.mayAll (by omega) j hj⟩) (fun j hj => ⟨hI.mustOnly (by omega) j hj, hI.must j hj⟩) n 0 (by omega)
    exact h7

theorem hyGo_badAt {s c : List Int} : ∀ (d i : Nat) (l g : Bool) (acc : List Int) (j : Nat), i ≤ j → j < i + d → ¬ goodAt s c j → hyGo s c d (i : Int) l g acc = [] := by
  intro d
  induction d with
  | zero => intro i l g acc j h1 h2 _; omega
  | succ d ih =>
    intro i l g acc j h1 h2 hb
    by_cases hg : goodAt s c i
    · have hgo := hyGo_go s c d (i : Int) l g acc (s.getD i 0) (c.getD i 0) (rdN s i) (rdN c i) _ _ rfl rfl hg
      rw [hgo]
      have hne : i ≠ j := fun h => hb (h ▸ hg)
      have hcast : ((i : Int) + 1) = ((i + 1 : Nat) : Int) := by omega
      rw [hcast]
      exact ih (i + 1) _ _ _ j (by omega) (by omega) hb
    · refine hyGo_bad s c d (i : Int) l g acc ?_
      rw [rdN, rdN]
      unfold goodAt at hg
      omega

theorem hy_l0_bad {s c : List Int} {n : Nat} (hs : n ≤ s.length) (hc : n ≤ c.length) (hn : n ≤ 5) : ∀ (d i j : Nat), i + d = n → i ≤ j → j < n → ¬ goodAt s c j →
    Ev (fun k => intervalmonref28_Hysteresis.l0 k s c (n : Int) (i : Int)) [] := by
  intro d
  induction d with
  | zero => intro i j hi h1 h2 _; omega
  | succ d ih =>
    intro i j hi h1 h2 hb
    by_cases hg : goodAt s c i
    · have hne : i ≠ j := fun h => hb (h ▸ hg)
      unfold goodAt at hg
      refine stepK 0 (fun k _ => ?_) (ih (i + 1) j (by omega) (by omega) h2 hb)
      rw [intervalmonref28_Hysteresis.l0, if_pos (by omega), if_pos (by omega), if_pos (by omega), rdN, if_neg (by omega), if_neg (by omega), if_pos (by omega), rdN, if_neg (by omega), if_neg (by omega), w1 (by omega)]
    · refine stepK 0 (f := fun _ => some []) (fun k _ => ?_) (Ev.now [])
      unfold goodAt at hg
      rw [intervalmonref28_Hysteresis.l0, if_pos (by omega), if_pos (by omega), if_pos (by omega), rdN]
      by_cases c1 : s.getD i 0 < 0
      · rw [if_pos c1]
      · by_cases c2 : s.getD i 0 > 2
        · rw [if_neg c1, if_pos c2]
        · rw [if_neg c1, if_neg c2, if_pos (by omega), rdN]
          by_cases c3 : c.getD i 0 < 0
          · rw [if_pos c3]
          · rw [if_neg c3, if_pos (by omega)]

/-- The reference and the program's latch agree, and what they tell has no more values than either row. -/
theorem hy_both {s c : List Int} (hls : s.length ≤ 5) (hlc : c.length ≤ 5) : ∃ r : List Int, alert_Hysteresis.f s c = some r ∧ Ev (fun k => intervalmonref28_Hysteresis.f k s c) r ∧ r.length ≤ 5 := by
  refine ⟨hyH s c (min s.length c.length), ?_, ?_⟩
  · unfold alert_Hysteresis.f
    rw [if_pos (by omega)]
    rfl
  · by_cases hall : ∀ j, j < min s.length c.length → goodAt s c j
    · refine ⟨hy_good rfl (by omega) hall, ?_⟩
      obtain ⟨_, _, _, _, _, _, _, hHl, _⟩ := pair_ok (s := s) (c := c) (n := min s.length c.length) (by omega) (by omega) (by omega) hall 0 0
      omega
    · obtain ⟨j, hj⟩ := Classical.not_forall.mp hall
      have hj1 : j < min s.length c.length := Classical.byContradiction fun h => hj (fun h' => absurd h' h)
      have hj2 : ¬ goodAt s c j := fun h => hj (fun _ => h)
      have e : hyH s c (min s.length c.length) = [] := hyGo_badAt (min s.length c.length) 0 false false [] j (by omega) (by omega) hj2
      rw [e]
      have hmn : mn (s.length : Int) (c.length : Int) = ((min s.length c.length : Nat) : Int) := by unfold mn; split <;> omega
      refine ⟨?_, by simp⟩
      unfold intervalmonref28_Hysteresis.f
      rw [hmn]
      exact hy_l0_bad (by omega) (by omega) (by omega) (min s.length c.length) 0 j (by omega) (by omega) hj1 hj2

end Go.Proofs.YtbbddeilbcpmiaaDoor.Pure
