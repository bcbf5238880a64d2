/- What a key of the ledger's map is. -/
import Derived.Test.YtgdojonkkfcaeaaMFireP
namespace Go.Proofs.Ytgdojonkkfcaeaa.Q
open Go.RowKit Go.Maps Go.Proofs.YtgdojonkkfcaeaaW.PrintWords Go.Proofs.YtgdojonkkfcaeaaW.PrintLast Go.Proofs.YtgdojonkkfcaeaaW.PrintMore
set_option linter.unusedVariables false
set_option linter.unusedSimpArgs false
namespace led
theorem lits9_inv {d : Nat} {x : Value} {ls : List Lit} (h : Try.prog.keyLits (d + 1) 9 [x] = some ls) : ∃ s, x = .string s ∧ s.size ≤ maxLen := by
  unfold Program.keyLits at h
  simp only [Try.underlying9] at h
  cases x with
  | string s =>
    by_cases hs : s.size ≤ maxLen
    · exact ⟨s, rfl, hs⟩
    · simp [hs] at h
  | _ => simp at h
theorem lits3_inv {d : Nat} {x : Value} {ls : List Lit} (h : Try.prog.keyLits (d + 1) 3 [x] = some ls) : ∃ n, x = .int .i64 n ∧ (Lit.int .i64 n).wf = true := by
  unfold Program.keyLits at h
  simp only [Try.underlying3] at h
  cases x with
  | int q n =>
    simp only at h
    split at h
    · rename_i hq
      obtain ⟨rfl, hw⟩ := hq
      exact ⟨n, rfl, hw⟩
    · cases h
  | _ => simp at h
set_option maxRecDepth 100000 in
theorem keyV_inv {key : Value} {kl : Lit} (h : keyOf Try.prog 66 key = some kl) : ∃ r v t s, key = keyV r v t s ∧ kl = keyL r v t s ∧ r.size ≤ maxLen ∧ (Lit.int .i64 v).wf = true ∧ t.size ≤ maxLen ∧ (Lit.int .i64 s).wf = true := by
  have h0 := h
  unfold keyOf at h
  simp only [Try.underlying66] at h
  split at h
  · rename_i hf
    rw [size_types] at h
    simp only [Bool.and_eq_true] at hf
    have hf2 := hf.2
    unfold Value.formed at hf2
    simp only [Try.underlying66] at hf2
    cases key with
    | agg cs =>
      simp [cells66] at hf2
      obtain ⟨l⟩ := cs
      match l, hf2 with
      | [c0, c1, c2, c3], _ =>
        have e : (Try.prog.keyLits (160 + 2) 66 [c0, c1, c2, c3]).map (fun ls => Lit.string (keyBytes ls)) = some kl := h
        cases hl : Try.prog.keyLits (160 + 2) 66 [c0, c1, c2, c3] with
        | none => rw [hl] at e; cases e
        | some ls =>
          unfold Program.keyLits at hl
          simp only [Try.underlying66] at hl
          simp [cells66, cells9, cells3] at hl
          have key4 : (∃ a, Try.prog.keyLits 161 9 [c0] = some a) ∧ (∃ a, Try.prog.keyLits 161 3 [c1] = some a) ∧ (∃ a, Try.prog.keyLits 161 9 [c2] = some a) ∧ (∃ a, Try.prog.keyLits 161 3 [c3] = some a) := by
            cases a0 : Try.prog.keyLits 161 9 [c0] with
            | none => rw [a0] at hl; simp at hl
            | some b0 =>
              cases a1 : Try.prog.keyLits 161 3 [c1] with
              | none => rw [a0, a1] at hl; simp at hl
              | some b1 =>
                cases a2 : Try.prog.keyLits 161 9 [c2] with
                | none => rw [a0, a1, a2] at hl; simp at hl
                | some b2 =>
                  cases a3 : Try.prog.keyLits 161 3 [c3] with
                  | none => rw [a0, a1, a2, a3] at hl; simp at hl
                  | some b3 => exact ⟨⟨_, rfl⟩, ⟨_, rfl⟩, ⟨_, rfl⟩, ⟨_, rfl⟩⟩
          obtain ⟨⟨b0, a0⟩, ⟨b1, a1⟩, ⟨b2, a2⟩, ⟨b3, a3⟩⟩ := key4
          obtain ⟨r, rfl, hr⟩ := lits9_inv (d := 160) a0
          obtain ⟨v, rfl, hv⟩ := lits3_inv (d := 160) a1
          obtain ⟨t, rfl, ht⟩ := lits9_inv (d := 160) a2
          obtain ⟨u, rfl, hu⟩ := lits3_inv (d := 160) a3
          have h1 := keyOf_mk hr hv ht hu
          exact ⟨r, v, t, u, rfl, Option.some.inj (h0.symm.trans h1), hr, hv, ht, hu⟩
    | _ => simp at hf2
  · cases h
end led
end Go.Proofs.Ytgdojonkkfcaeaa.Q
