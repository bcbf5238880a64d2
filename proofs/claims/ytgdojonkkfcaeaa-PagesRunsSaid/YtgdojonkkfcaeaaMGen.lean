/- The generators' plain functions: Around, Pick, Verdicts, Runs, Has, Starts. -/
import Derived.Test.YtgdojonkkfcaeaaMLivP
import Derived.Test.YtgdojonkkfcaeaaQ23
import Derived.Test.YtgdojonkkfcaeaaQ33
import Derived.Test.YtgdojonkkfcaeaaQ34
namespace Go.Proofs.Ytgdojonkkfcaeaa.Q
open Go.RowKit Go.Proofs.YtgdojonkkfcaeaaW.PrintWords Go.Proofs.YtgdojonkkfcaeaaW.PrintLast Go.Proofs.YtgdojonkkfcaeaaW.PrintMore
set_option linter.unusedVariables false
set_option linter.unusedSimpArgs false
namespace gen
def Wf (x : Int) : Prop := (Lit.int .i64 x).wf = true
theorem wf_iff {x : Int} : Wf x ↔ -9223372036854775808 ≤ x ∧ x ≤ 9223372036854775807 := by
  have e1 : IntKind.i64.min = -9223372036854775808 := rfl
  have e2 : IntKind.i64.max = 9223372036854775807 := rfl
  unfold Wf
  simp [Lit.wf, e1, e2]
def aroundV (n m : Int) : Int := if n < 0 then (-(n + 1)) % m else n % m
theorem aroundV_range (n m : Int) (hm : 0 < m) : 0 ≤ aroundV n m ∧ aroundV n m < m := by
  unfold aroundV
  split
  · exact ⟨Int.emod_nonneg _ (by omega), Int.emod_lt_of_pos _ hm⟩
  · exact ⟨Int.emod_nonneg _ (by omega), Int.emod_lt_of_pos _ hm⟩
theorem around_f (n m : Int) (hn : Wf n) (hm : 0 < m) : intervalmonref01_Around.f n m = some (aroundV n m) := by
  rw [wf_iff] at hn
  unfold intervalmonref01_Around.f aroundV
  by_cases h : n < 0
  · rw [if_pos h, if_pos h, if_neg (by omega)]
    have e1 : wrap64 (n + 1) = n + 1 := by unfold wrap64; omega
    have e2 : wrap64 (-(n + 1)) = -(n + 1) := by unfold wrap64; omega
    rw [e1, e2, Int.tmod_eq_emod_of_nonneg (by omega)]
  · rw [if_neg h, if_neg h, if_neg (by omega), Int.tmod_eq_emod_of_nonneg (by omega)]
def pickV (l : List Int) (i m : Int) : Int := if i < 0 ∨ i ≥ l.length then 0 else aroundV (l.getD i.toNat 0) m
theorem pickV_range (l : List Int) (i m : Int) (hm : 0 < m) : 0 ≤ pickV l i m ∧ pickV l i m < m := by
  unfold pickV
  split
  · omega
  · exact aroundV_range _ _ hm
theorem getD_mem {l : List Int} {i : Nat} (h : i < l.length) : l.getD i 0 ∈ l := by
  rw [List.getD_eq_getElem?_getD, List.getElem?_eq_getElem h]
  exact List.getElem_mem h
theorem pick_f (l : List Int) (i m : Int) (hl : ∀ x ∈ l, Wf x) (hm : 0 < m) : intervalmonref01_Pick.f l i m = some (pickV l i m) := by
  unfold intervalmonref01_Pick.f pickV
  by_cases h : i < 0
  · rw [if_pos h, if_pos (.inl h)]
  · rw [if_neg h]
    by_cases h2 : i ≥ l.length
    · rw [if_pos h2, if_pos (.inr h2)]
    · rw [if_neg h2, if_pos (by omega), if_pos (by omega), if_neg (by omega)]
      show (intervalmonref01_Around.f (l.getD i.toNat 0) m).bind _ = _
      rw [around_f _ _ (hl _ (getD_mem (by omega))) hm]
      rfl
theorem rd_nat (l : List Int) (i : Nat) : YtgdojonkkfcaeaaW.PrintWords.rd l (i : Int) = l.getD i 0 := rfl
theorem verdicts_l0 (l : List Int) (hl : ∀ x ∈ l, Wf x) : ∀ d i : Nat, i + d = 30 → ∀ acc : List Int, acc.length = i → ∀ k, d < k → ∃ r, intervalmonref28_Verdicts.l0 k l 30 acc (i : Int) = some r ∧ r.length ≤ 30
  | 0, i, hi, acc, ha, k, hk => by
    obtain ⟨k, rfl⟩ : ∃ m, k = m + 1 := ⟨k - 1, by omega⟩
    simp only [intervalmonref28_Verdicts.l0]
    by_cases h : (i : Int) < l.length
    · rw [if_pos h, if_neg (by omega)]
      exact ⟨acc, rfl, by omega⟩
    · rw [if_neg h]
      exact ⟨acc, rfl, by omega⟩
  | d + 1, i, hi, acc, ha, k, hk => by
    obtain ⟨k, rfl⟩ : ∃ m, k = m + 1 := ⟨k - 1, by omega⟩
    simp only [intervalmonref28_Verdicts.l0]
    by_cases h : (i : Int) < l.length
    · have e : wrap64 ((i : Int) + 1) = ((i + 1 : Nat) : Int) := by unfold wrap64; omega
      rw [if_pos h, if_pos (by omega), if_pos (by omega), rd_nat, around_f _ _ (hl _ (getD_mem (by omega))) (by omega), Option.bind_some, if_pos (by omega), e]
      exact verdicts_l0 l hl d (i + 1) (by omega) _ (by simp [ha]) k (by omega)
    · rw [if_neg h]
      exact ⟨acc, rfl, by omega⟩
theorem verdicts_f (l : List Int) (hl : ∀ x ∈ l, Wf x) : ∃ r, intervalmonref28_Verdicts.f 31 l 30 = some r ∧ r.length ≤ 30 := by
  obtain ⟨r, h1, h2⟩ := verdicts_l0 l hl 30 0 (by omega) [] rfl 31 (by omega)
  exact ⟨r, h1, h2⟩
theorem inc_snoc {l : List Int} {x : Int} (h : l.Pairwise (· < ·)) (hx : ∀ y ∈ l, y < x) : (l ++ [x]).Pairwise (· < ·) := by
  rw [List.pairwise_append]
  exact ⟨h, by simp, fun a ha b hb => by simp at hb; rw [hb]; exact hx a ha⟩
theorem runs_l0 (n : Int) (l : List Int) (hn : 0 ≤ n ∧ n ≤ 1000000000) (hl : l.length ≤ 1000) : ∀ d i : Nat, i + d = l.length → ∀ acc : List Int, acc.length ≤ i → acc.Pairwise (· < ·) → (∀ x ∈ acc, n ≤ x ∧ x < n + i) → ∀ k, d < k →
    ∃ r, alert_Runs.l0 k n l acc l (l.length : Int) (i : Int) = some r ∧ r.Pairwise (· < ·) ∧ (∀ x ∈ r, n ≤ x ∧ x < n + l.length) ∧ r.length ≤ l.length
  | 0, i, hi, acc, ha, hp, hm, k, hk => by
    obtain ⟨k, rfl⟩ : ∃ m, k = m + 1 := ⟨k - 1, by omega⟩
    simp only [alert_Runs.l0]
    rw [if_neg (by omega)]
    exact ⟨acc, rfl, hp, fun x hx => by have := hm x hx; omega, by omega⟩
  | d + 1, i, hi, acc, ha, hp, hm, k, hk => by
    obtain ⟨k, rfl⟩ : ∃ m, k = m + 1 := ⟨k - 1, by omega⟩
    have e : wrap64 ((i : Int) + 1) = ((i + 1 : Nat) : Int) := by unfold wrap64; omega
    have e2 : wrap64 (n + (i : Int)) = n + i := by unfold wrap64; omega
    have yes := fun k hk => runs_l0 n l hn hl d (i + 1) (by omega) (acc ++ [n + i]) (by simp; omega) (inc_snoc hp (fun y hy => (hm y hy).2)) (fun x hx => by
      rw [List.mem_append, List.mem_singleton] at hx
      rcases hx with hx | rfl
      · have := hm x hx; omega
      · omega) k hk
    have no := fun k hk => runs_l0 n l hn hl d (i + 1) (by omega) acc (by omega) hp (fun x hx => by have := hm x hx; omega) k hk
    simp only [alert_Runs.l0]
    rw [if_pos (by omega), if_pos (by omega), if_pos (by omega), e, e2]
    by_cases h2 : YtgdojonkkfcaeaaW.PrintWords.rd l (i : Int) = 2
    · rw [if_pos h2]
      by_cases h0 : (i : Int) = 0
      · rw [if_pos h0, if_pos (by omega)]
        exact yes k (by omega)
      · have e3 : wrap64 ((i : Int) - 1) = (i : Int) - 1 := by unfold wrap64; omega
        rw [if_neg h0, e3, if_pos (by omega), if_pos (by omega)]
        by_cases h3 : YtgdojonkkfcaeaaW.PrintWords.rd l ((i : Int) - 1) = 2
        · rw [if_pos h3]
          exact no k (by omega)
        · rw [if_neg h3, if_pos (by omega)]
          exact yes k (by omega)
    · rw [if_neg h2]
      exact no k (by omega)
theorem runs_f (n : Int) (l : List Int) (hn : 0 ≤ n ∧ n ≤ 1000000000) (hl : l.length ≤ 1000) : ∃ r, alert_Runs.f (l.length + 1) n l = some r ∧ r.Pairwise (· < ·) ∧ (∀ x ∈ r, n ≤ x ∧ x < n + l.length) ∧ r.length ≤ l.length :=
  runs_l0 n l hn hl l.length 0 (by omega) [] (Nat.zero_le _) (by simp) (by simp) _ (by omega)
theorem has_l0 (l : List Int) (a : Int) (hl : l.length ≤ 4611686018427387904) : ∀ d i : Nat, i + d = l.length → ∀ k, d < k → intervalmonref01_Has.l0 k l a (i : Int) = some ((l.drop i).contains a)
  | 0, i, hi, k, hk => by
    obtain ⟨k, rfl⟩ : ∃ m, k = m + 1 := ⟨k - 1, by omega⟩
    simp only [intervalmonref01_Has.l0]
    rw [if_neg (by omega), List.drop_of_length_le (by omega)]
    rfl
  | d + 1, i, hi, k, hk => by
    obtain ⟨k, rfl⟩ : ∃ m, k = m + 1 := ⟨k - 1, by omega⟩
    have hil : i < l.length := by omega
    have hr : YtgdojonkkfcaeaaW.PrintWords.rd l (i : Int) = l[i] := by
      rw [rd_nat, List.getD_eq_getElem?_getD, List.getElem?_eq_getElem hil]; rfl
    have e : wrap64 ((i : Int) + 1) = ((i + 1 : Nat) : Int) := by unfold wrap64; omega
    simp only [intervalmonref01_Has.l0]
    rw [if_pos (by omega), if_pos (by omega), hr, List.drop_eq_getElem_cons hil, List.contains_cons]
    by_cases h : l[i] = a
    · rw [if_pos h, show (a == l[i]) = true from by simp [h]]; rfl
    · rw [if_neg h, e, has_l0 l a hl d (i + 1) (by omega) k (by omega), show (a == l[i]) = false from by simp; exact fun e => h e.symm, Bool.false_or]
/-- intervalmonref01.Has. -/
theorem has_f (l : List Int) (a : Int) (hl : l.length ≤ 4611686018427387904) : intervalmonref01_Has.f (l.length + 1) l a = some (l.contains a) := has_l0 l a hl l.length 0 (by omega) _ (by omega)
theorem hasC (A : Option Addr) (c : Nat) (l : List Int) (a : Int) (w : World) (hr : Kd.C (Kd.int .i64) w A l.length l) (hc : l.length ≤ c) (hl : l.length ≤ 4611686018427387904) :
    Calls Try.prog 15 #[.slice A l.length c, .int .i64 a] w fun e w' => e = .returned (.bool (l.contains a)) ∧ Below w.heap.size w w' := by
  refine (intervalmonref01_Has.calls _ A c l a _ w hr hc (has_f l a hl)).mono ?_
  rintro e w' ⟨rfl, h⟩
  exact ⟨rfl, h.below⟩
theorem sameC (A : Option Addr) (c : Nat) (a : List Int) (B : Option Addr) (d : Nat) (b : List Int) (w : World) (hr : Kd.C (Kd.int .i64) w A a.length a) (hc : a.length ≤ c) (hr2 : Kd.C (Kd.int .i64) w B b.length b) (hd : b.length ≤ d) (hl : a.length ≤ 4611686018427387904) :
    Calls Try.prog 24 #[.slice A a.length c, .slice B b.length d] w fun e w' => e = .returned (.bool (a == b)) ∧ Below w.heap.size w w' := by
  refine (intervalmonref01_SameInts.calls _ A c a B d b _ w hr hc hr2 hd (led.same_f a b hl)).mono ?_
  rintro e w' ⟨rfl, h⟩
  exact ⟨rfl, h.below⟩
theorem aroundC (n m : Int) (hn : Wf n) (hm : 0 < m) (w : World) : Calls Try.prog 11 #[.int .i64 n, .int .i64 m] w fun e w' => e = .returned (.int .i64 (aroundV n m)) ∧ Below w.heap.size w w' := by
  refine (intervalmonref01_Around.calls n m _ w (around_f n m hn hm)).mono ?_
  rintro e w' ⟨rfl, h⟩
  exact ⟨rfl, h.below⟩
end gen
end Go.Proofs.Ytgdojonkkfcaeaa.Q
