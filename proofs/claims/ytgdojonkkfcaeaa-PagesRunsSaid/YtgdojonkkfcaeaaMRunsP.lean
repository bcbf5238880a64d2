/- Runs that are paged, in plain lists. -/
import Derived.Test.YtgdojonkkfcaeaaMGen
import Derived.Test.YtgdojonkkfcaeaaMAmL
import Derived.Test.YtgdojonkkfcaeaaMLives
namespace Go.Proofs.Ytgdojonkkfcaeaa.Q
open Go.RowKit Go.Maps Go.Proofs.YtgdojonkkfcaeaaW.PrintWords Go.Proofs.YtgdojonkkfcaeaaW.PrintLast Go.Proofs.YtgdojonkkfcaeaaW.PrintMore
set_option linter.unusedVariables false
set_option linter.unusedSimpArgs false
namespace led
attribute [local instance] Classical.propDecidable
/-- The pages of these starts. -/
def esW (ts : List Int) : List S31 := ts.map fun t => one 0 t t
theorem esW_snoc (ts : List Int) (t : Int) : esW (ts ++ [t]) = esW ts ++ [one 0 t t] := by simp [esW]
theorem esW_length (ts : List Int) : (esW ts).length = ts.length := by simp [esW]
theorem allW {ts : List Int} (h : ∀ x ∈ ts, 0 ≤ x ∧ x ≤ 2000) : AllOf hot 1 [] (esW ts) := all_one (fun x hx => by
  obtain ⟨t, ht, rfl⟩ := List.mem_map.1 hx
  have := h t ht
  exact ⟨_, _, _, rfl, by omega, by omega⟩)
theorem lastS_esW (ts : List Int) (s : Int) : lastS (esW ts) s = if s ∈ ts then some true else none := by
  induction ts using snoc_indI with
  | h0 => simp [esW, lastS]
  | h1 ts t ih =>
    rw [esW_snoc, lastS_snoc, ih]
    by_cases h : t = s
    · subst h; simp [one]
    · have h2 : ¬ s = t := fun e => h e.symm
      simp [one, h, h2]
theorem fireW {ts : List Int} {t : Int} (h : ∀ x ∈ ts, 0 ≤ x ∧ x ≤ 2000) (ht : 0 ≤ t ∧ t ≤ 2000) (hn : t ∉ ts) : fireE (esW ts) true (one 0 t t) = 0 ∧ fireL (esW ts) true (one 0 t t) = esW (ts ++ [t]) := by
  have hl : lastB (esW ts) (keyP (one 0 t t)) = none := (lb_one (allW h) 0 t t (wf_small (by omega) (by omega))).trans (by rw [lastS_esW, if_neg hn])
  unfold fireE fireL
  rw [if_pos ⟨rfl, rfl⟩, hl, if_pos ⟨rfl, rfl, rfl⟩, esW_snoc]
  exact ⟨rfl, rfl⟩
theorem valsW {ts : List Int} (hi : ts.Pairwise (· < ·)) (h : ∀ x ∈ ts, 0 ≤ x ∧ x ≤ 2000) : Vals (esW ts) hot 1 (tx.textB []) ts := vals_same (allW h) hot_size wf1 text0 hi (fun s => by
  rw [lastS_esW]
  constructor
  · intro hs
    have := h s hs
    exact ⟨wf_small (by omega) (by omega), by rw [if_pos hs]⟩
  · rintro ⟨_, hs⟩
    by_cases hm : s ∈ ts
    · exact hm
    · rw [if_neg hm] at hs; cases hs)
theorem tick_small {t : Int} (h : 0 ≤ t ∧ t ≤ 2000) : tickB t = true := by
  unfold tickB
  simp only [Bool.and_eq_true, decide_eq_true_eq]
  omega
theorem okW {t : Int} (h : 0 ≤ t ∧ t ≤ 2000) : okB true hot 1 t t ⟨#[]⟩ = true := by
  unfold okB
  rw [tick_small h, hot_name]
  rfl
theorem amOKW {ss : List Int} {sent : Int} (h : ∀ x ∈ ss, 0 ≤ x ∧ x ≤ 2000) (hs : 0 ≤ sent ∧ sent ≤ 2000) : amOK true hot 1 sent ss = true := by
  unfold amOK okB
  rw [tick_small hs, hot_name, show ss.all tickB = true from List.all_eq_true.2 (fun x hx => tick_small (h x hx))]
  rfl
theorem compact_self {l : List Int} (h : l.Pairwise (· < ·)) : Lib.compact (si.sortI l) = l := inc_unique (si.inc_compact _ (si.sorted_sortI _)) h (fun s => by rw [si.mem_compact, si.mem_sortI])
end led
end Go.Proofs.Ytgdojonkkfcaeaa.Q
