/- slices.Compact over a row of ints of one's own, slices.Contains over a row that is read: what they come to; and what Amend goes through. -/
import Derived.Test.YtgdojonkkfcaeaaMVal
import Derived.Test.YtgdojonkkfcaeaaQ16
namespace Go.Proofs.Ytgdojonkkfcaeaa.Q
open Go.RowKit Go.Sort Go.Proofs.YtgdojonkkfcaeaaW.PrintWords Go.Proofs.YtgdojonkkfcaeaaW.PrintLast Go.Proofs.YtgdojonkkfcaeaaW.PrintMore
set_option linter.unusedVariables false
set_option linter.unusedSimpArgs false
namespace si
theorem compact_length (l : List Int) : (Lib.compact l).length ≤ l.length := by
  unfold Lib.compact Lib.compactUpTo
  rw [List.length_map]
  exact Nat.le_trans (List.length_filter_le _ _) (by simp)
theorem compact_int (v : Value) (l : List Int) (w0 w : World) (base : Nat) (ok : Nat → Prop) (HO : Kd.R (Kd.int .i64) 3 w base ok v l) (HB : Below base w0 w) (hl : l.length < 4611686018427387904) :
    Calls Try.prog 36 #[v] w fun e w' => ∃ u, e = .returned u ∧ Kd.R (Kd.int .i64) 3 w' base ok u (Lib.compact l) ∧ Below base w0 w' ∧ w.grownBy w' v.ownBlock := by
  have hcl := compact_length l
  rcases holdsK_of_R (enc := encI) (fun _ => rfl) M_int HO with ⟨rfl, rfl⟩ | ⟨g, c, rfl, hg, hlt, hH⟩
  · refine (Try.slices_Compact_int_empty _ _ _).mono ?_
    rintro e w' ⟨rfl, rfl⟩
    exact ⟨_, rfl, HO, HB, grown_of_below (Below.refl _ _) _⟩
  · have hH2 : Holds (Value.int .i64) w g 0 l.toArray := by
      intro j hj
      have h2 := hH j (by rw [size_flatK, show (Kd.int .i64).sz = 1 from rfl]; omega)
      have e : (flatK encI 1 l.toArray)[j]! = Value.int .i64 l.toArray[j]! := by
        rw [get_flatK _ _ _ _ (by omega)]
        simp [encI, Nat.mod_one]
      rw [show (Kd.int .i64).sz = 1 from rfl] at h2
      rw [e] at h2
      exact h2
    have hcap : l.length ≤ c := (Kd.R_reads' HO).2.1
    refine (Try.slices_Compact_int g 0 c l w hH2 (by omega) hcap).mono ?_
    rintro e w' ⟨rfl, n, rfl⟩
    have ew : putRow (Value.int .i64) (Sort.ahead w n) g 0 (Lib.compact l ++ List.replicate (l.length - (Lib.compact l).length) 0).toArray = sortWorldK encI 1 w g 0 n (Lib.compact l ++ List.replicate (l.length - (Lib.compact l).length) 0).toArray #[] := by
      rw [← world1]
      generalize putRow (Value.int .i64) (Sort.ahead w n) g 0 _ = W
      show W = { W with heap := W.heap ++ #[] }
      rw [Array.append_empty]
    rw [ew]
    have hR := R_of_sortK (d := Kd.int .i64) (enc := encI) (fun _ => rfl) M_int int_M HO n (Lib.compact l ++ List.replicate (l.length - (Lib.compact l).length) 0).toArray (by simp; omega) #[]
    have hR2 := Kd.R_take (m := (Lib.compact l).length) hR (by simp)
    refine ⟨_, rfl, ?_, below_sortK encI 1 HB hg hlt n _ #[], grown_sortK encI 1 hlt n _ #[]⟩
    rw [show (Kd.int .i64).sz = 1 from rfl] at hR2
    simpa using hR2
theorem keeps_iff (l : List Int) (j : Nat) : Lib.keeps l.toArray j = true ↔ (j = 0 ∨ l.getD j 0 ≠ l.getD (j - 1) 0) := by
  unfold Lib.keeps
  have e : ∀ i, l.toArray[i]! = l.getD i 0 := fun i => by simp [List.getD]
  rw [decide_eq_true_iff, e, e]
theorem mem_compactUpTo (l : List Int) (m : Nat) (hm : m ≤ l.length) (x : Int) : x ∈ Lib.compactUpTo l.toArray m ↔ x ∈ l.take m := by
  induction m with
  | zero => simp [Lib.compactUpTo]
  | succ m ih =>
    have hml : m < l.length := by omega
    rw [Lib.compactUpTo_succ, List.mem_append, ih (by omega), List.take_succ_eq_append_getElem hml, List.mem_append, List.mem_singleton]
    have e : l.toArray[m]! = l[m] := by rw [getElem!_pos _ m (by simpa using hml)]; simp
    rw [e]
    by_cases hk : Lib.keeps l.toArray m = true
    · rw [if_pos hk]; simp
    · rw [if_neg hk]
      simp only [List.not_mem_nil, or_false]
      refine ⟨fun h => .inl h, fun h => ?_⟩
      rcases h with h | h
      · exact h
      · rw [keeps_iff] at hk
        have h0 : m ≠ 0 := fun e => hk (.inl e)
        have h1 : l.getD m 0 = l.getD (m - 1) 0 := Classical.byContradiction fun h => hk (.inr h)
        rw [List.getD_eq_getElem?_getD, List.getD_eq_getElem?_getD, List.getElem?_eq_getElem hml, List.getElem?_eq_getElem (show m - 1 < l.length by omega)] at h1
        simp only [Option.getD_some] at h1
        rw [h, h1, List.mem_take_iff_getElem]
        exact ⟨m - 1, by omega, rfl⟩
theorem mem_compact (l : List Int) (x : Int) : x ∈ Lib.compact l ↔ x ∈ l := by
  unfold Lib.compact
  rw [mem_compactUpTo l l.length (Nat.le_refl _), List.take_length]
theorem inc_compactUpTo (l : List Int) (hs : l.Pairwise (· ≤ ·)) (m : Nat) (hm : m ≤ l.length) : (Lib.compactUpTo l.toArray m).Pairwise (· < ·) := by
  induction m with
  | zero => simp [Lib.compactUpTo]
  | succ m ih =>
    have hml : m < l.length := by omega
    rw [Lib.compactUpTo_succ]
    have e : l.toArray[m]! = l[m] := by rw [getElem!_pos _ m (by simpa using hml)]; simp
    rw [e]
    by_cases hk : Lib.keeps l.toArray m = true
    · rw [if_pos hk, List.pairwise_append]
      refine ⟨ih (by omega), by simp, fun a ha b hb => ?_⟩
      rw [List.mem_singleton] at hb
      subst hb
      rw [mem_compactUpTo l m (by omega), List.mem_take_iff_getElem] at ha
      obtain ⟨i, hi, rfl⟩ := ha
      have hm0 : m ≠ 0 := by omega
      rw [keeps_iff] at hk
      have h1 := hk.resolve_left hm0
      rw [List.getD_eq_getElem?_getD, List.getD_eq_getElem?_getD, List.getElem?_eq_getElem hml, List.getElem?_eq_getElem (show m - 1 < l.length by omega)] at h1
      simp only [Option.getD_some] at h1
      have hp := List.pairwise_iff_getElem.1 hs
      have h2 : l[m - 1] ≤ l[m] := hp _ _ _ _ (by omega)
      have h3 : l[i] ≤ l[m - 1] := by
        by_cases hi2 : i = m - 1
        · subst hi2; exact Int.le_refl _
        · exact hp _ _ _ _ (by omega)
      omega
    · rw [if_neg hk, List.append_nil]
      exact ih (by omega)
theorem inc_compact (l : List Int) (hs : l.Pairwise (· ≤ ·)) : (Lib.compact l).Pairwise (· < ·) := inc_compactUpTo l hs l.length (Nat.le_refl _)
theorem index_eq (l : List Int) (a : Int) (hl : l.length ≤ 4611686018427387904) : ∀ d i : Nat, i + d = l.length → ∀ k, d < k → ∃ r, slices_Index_int_int.l0 k l a (l.length : Int) (i : Int) = some r ∧ (decide (r ≥ 0) = (l.drop i).contains a)
  | 0, i, hi, k, hk => by
    obtain ⟨k, rfl⟩ : ∃ m, k = m + 1 := ⟨k - 1, by omega⟩
    refine ⟨-1, ?_, ?_⟩
    · simp only [slices_Index_int_int.l0]
      rw [if_neg (by omega)]
    · rw [List.drop_of_length_le (by omega)]; rfl
  | d + 1, i, hi, k, hk => by
    obtain ⟨k, rfl⟩ : ∃ m, k = m + 1 := ⟨k - 1, by omega⟩
    have hil : i < l.length := by omega
    have hrd : YtgdojonkkfcaeaaW.PrintWords.rd l (i : Int) = l[i] := by
      unfold YtgdojonkkfcaeaaW.PrintWords.rd
      rw [Int.toNat_natCast, List.getD_eq_getElem?_getD, List.getElem?_eq_getElem hil]; rfl
    simp only [slices_Index_int_int.l0]
    rw [if_pos (by omega), if_pos (by omega), if_pos (by omega), hrd, List.drop_eq_getElem_cons hil, List.contains_cons]
    by_cases ha : a = l[i]
    · rw [if_pos ha]
      exact ⟨_, rfl, by rw [show (a == l[i]) = true from by simp [ha]]; simp⟩
    · rw [if_neg ha]
      have e : wrap64 ((i : Int) + 1) = ((i + 1 : Nat) : Int) := by unfold wrap64; omega
      rw [e, show (a == l[i]) = false from by simp [ha], Bool.false_or]
      exact index_eq l a hl d (i + 1) (by omega) k (by omega)
theorem contains_f (l : List Int) (a : Int) (hl : l.length ≤ 4611686018427387904) : slices_Contains_int_int.f (l.length + 1) l a = some (l.contains a) := by
  obtain ⟨r, h1, h2⟩ := index_eq l a hl l.length 0 (by omega) (l.length + 1) (by omega)
  unfold slices_Contains_int_int.f slices_Index_int_int.f
  rw [show ((0 : Nat) : Int) = 0 from rfl] at h1
  rw [h1, Option.bind_some, h2, List.drop_zero]
theorem contains_int (A : Option Addr) (c : Nat) (l : List Int) (a : Int) (w : World) (hr : Kd.C (Kd.int .i64) w A l.length l) (hc : l.length ≤ c) (hl : l.length ≤ 4611686018427387904) :
    Calls Try.prog 39 #[.slice A l.length c, .int .i64 a] w fun e w' => e = .returned (.bool (l.contains a)) ∧ Below w.heap.size w w' := by
  refine (slices_Contains_int_int.calls _ A c l a _ w hr hc (contains_f l a hl)).mono ?_
  rintro e w' ⟨rfl, h⟩
  exact ⟨rfl, h.below⟩
end si
end Go.Proofs.Ytgdojonkkfcaeaa.Q
