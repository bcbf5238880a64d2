/- labels.Name: what it computes, and that the code computes it. -/
import Derived.Test.YtbbddeilbcpmiaaDoorQ0
import Derived.Laws.RangeString
import Derived.Laws.RangeAny
import Derived.Lib.IndexBytes
import Derived.Outline
namespace Go.Proofs.YtbbddeilbcpmiaaDoor.Q
open Go.RowKit Go.Proofs.YtbbddeilbcpmiaaDoorW.PrintWords Go.Proofs.YtbbddeilbcpmiaaDoorW.PrintLast Go.Proofs.YtbbddeilbcpmiaaDoorW.PrintMore
set_option linter.unusedVariables false
set_option linter.unusedSimpArgs false
/-- May the byte c stand at place i of a name? -/
def nmC (i : Nat) (c : Int) : Bool := (decide (97 ≤ c) && decide (c ≤ 122)) || (decide (i ≠ 0) && ((decide (48 ≤ c) && decide (c ≤ 57)) || decide (c = 95)))
def nmTo (s : ByteArray) (n : Nat) : Bool := (List.range n).all fun i => nmC i (bt s i)
def nameB (s : ByteArray) : Bool := decide (1 ≤ s.size) && decide (s.size ≤ 16) && nmTo s s.size
def labels_Name.f (a0 : ByteArray) : Option Bool := some (nameB a0)
theorem nmTo_succ (s : ByteArray) (n : Nat) : nmTo s (n + 1) = (nmTo s n && nmC n (bt s n)) := by
  unfold nmTo
  rw [List.range_succ, List.all_append]
  simp
theorem nmTo_false (s : ByteArray) (n m : Nat) (h : n < m) (hc : nmC n (bt s n) = false) : nmTo s m = false := by
  unfold nmTo
  rw [List.all_eq_false]
  exact ⟨n, List.mem_range.2 h, by simp [hc]⟩
/-- What the code asks of a rune r at place i. -/
def nmR (i : Nat) (r : Int) : Bool := nmC i r
theorem nmC_high (i : Nat) (c : Int) (h : 128 ≤ c) : nmC i c = false := by
  unfold nmC
  have h1 : decide (c ≤ 122) = false := decide_eq_false (by omega)
  have h2 : decide (c ≤ 57) = false := decide_eq_false (by omega)
  have h3 : decide (c = 95) = false := decide_eq_false (by omega)
  rw [h1, h2, h3]
  simp
/-- The rune at place p: the byte itself, or both are beyond ASCII. -/
theorem rune_at (s : ByteArray) (p : Nat) (h : p < s.size) : nmC p (Utf8.decode s p).1 = nmC p (bt s p) ∧ ((bt s p : Int) < 128 → (Utf8.decode s p).2 = 1) ∧ 0 ≤ ((Utf8.decode s p).1 : Int) ∧ ((Utf8.decode s p).1 : Int) ≤ 2147483647 := by
  have e : bt s p = ((s[p]'h).toNat : Int) := by unfold bt; simp [h]
  have hl := decide_eq_true (decode_le s p)
  refine ⟨?_, ?_, by omega, by have := decode_le s p; omega⟩
  · by_cases ha : (s[p]'h).toNat < 128
    · rw [decode_ascii s p h ha, e]
    · rw [nmC_high p (bt s p) (by omega), nmC_high p _ (by have := (decode_high s p h (by omega)).1; omega)]
  · intro hb
    rw [decode_ascii s p h (by omega)]
theorem nmC_lt (i : Nat) (c : Int) (h : nmC i c = true) : c < 128 := by
  apply Decidable.byContradiction
  intro hn
  rw [nmC_high i c (by omega)] at h
  exact absurd h (by simp)
theorem nm_yes (p : Nat) (c : Int) (h : nmC p c = true) : (97 ≤ c ∧ c ≤ 122) ∨ (p ≠ 0 ∧ 48 ≤ c ∧ c ≤ 57) ∨ (p ≠ 0 ∧ c = 95) := by
  unfold nmC at h
  simp only [Bool.or_eq_true, Bool.and_eq_true, decide_eq_true_eq] at h
  omega
theorem nm_no (p : Nat) (c : Int) (h : nmC p c = false) : 122 < c ∨ (p = 0 ∧ c < 97) ∨ (p ≠ 0 ∧ c < 48) ∨ (p ≠ 0 ∧ 57 < c ∧ c < 97 ∧ c ≠ 95) := by
  unfold nmC at h
  simp only [Bool.or_eq_false_iff, Bool.and_eq_false_iff, decide_eq_false_iff_not] at h
  omega
set_option maxHeartbeats 8000000 in
set_option maxRecDepth 100000 in
theorem labels_Name.calls (a0 : ByteArray) (r : Bool) (w : World) (h : labels_Name.f a0 = some r) :
    Calls Tryd.prog 44 #[.string a0] w fun e w' => e = .returned (.bool r) ∧ Below w.heap.size w w' := by
  obtain rfl : nameB a0 = r := Option.some.inj h
  clear h
  by_cases h0 : a0.size = 0
  · have e0 : a0.toList = [] := by
      rw [Lib.toList_data]
      exact List.eq_nil_of_length_eq_zero (by simpa using h0)
    have e1 : nameB a0 = false := by unfold nameB; rw [h0]; rfl
    rw [e1]
    clear h0 e1
    go_enter Tryd.func44, Tryd.ntmps44
    go_wp2
    go_ret
    exact ⟨rfl, Below.refl _ _⟩
  have hne : a0.toList.isEmpty = false := by
    rw [Lib.toList_data]
    cases hd : a0.data.toList with
    | nil => exact absurd (by simpa using congrArg List.length hd) h0
    | cons => rfl
  by_cases h1 : 16 < a0.size
  · have e1 : nameB a0 = false := by unfold nameB; rw [decide_eq_false (show ¬ a0.size ≤ 16 by omega)]; simp
    rw [e1]
    clear h0 e1
    have h1b : decide ((16 : Int) < (a0.size : Int)) = true := decide_eq_true (by omega)
    go_enter Tryd.func44, Tryd.ntmps44
    go_wp2
    go_ret
    exact ⟨rfl, Below.refl _ _⟩
  have hn1 : ¬ 16 < a0.size := h1
  have e1 : nameB a0 = nmTo a0 a0.size := by
    unfold nameB
    rw [decide_eq_true (show 1 ≤ a0.size by omega), decide_eq_true (show a0.size ≤ 16 by omega)]
    rfl
  rw [e1]
  have h1b : decide ((16 : Int) < (a0.size : Int)) = false := decide_eq_false (by omega)
  have HN := Aside0.mk hn1
  clear e1 h1 hn1 h0
  go_enter Tryd.func44, Tryd.ntmps44
  go_wp2
  go_loopw [2] (fun v2 w' => ∃ pos : Nat, v2 = .bool false ∧ w' = w.iter a0 pos ∧ pos ≤ a0.size ∧ Aside0 (nmTo a0 pos = true)) (fun _ w' => a0.size - w'.iterPos w.heap.size)
  case atStart => exact ⟨0, rfl, rfl, Nat.zero_le _, ⟨rfl⟩⟩
  case round =>
    obtain ⟨pos, rfl, rfl, hple, HT⟩ := hrel
    by_cases hp : pos < a0.size
    · have hnx : ∀ ty, (Instr.next (.pointer (some ⟨w.heap.size, 0, none⟩)) true ty).run Tryd.prog (w.iter a0 pos) = _ := fun ty => run_next_any w a0 pos ty hp
      have HR := Aside0.mk (rune_at a0 pos hp)
      generalize hc : (Utf8.decode a0 pos).1 = c at hnx HR
      generalize hd : (Utf8.decode a0 pos).2 = d at hnx HR
      clear hc hd
      have hc0 : 0 ≤ (c : Int) := HR.out.2.2.1
      have hc1 : (c : Int) ≤ 2147483647 := HR.out.2.2.2
      cases hq : nmC pos c with
      | true =>
        have hb : nmC pos (bt a0 pos) = true := by rw [← HR.out.1]; exact hq
        obtain rfl : d = 1 := HR.out.2.1 (nmC_lt _ _ hb)
        have HN1 := Aside0.mk (show nmTo a0 (pos + 1) = true by rw [nmTo_succ, HT.out, hb]; rfl)
        have HP := Aside0.mk hp
        clear HR hb HT hple hp
        rcases nm_yes _ _ hq with ⟨x1, x2⟩ | ⟨x0, x1, x2⟩ | ⟨x0, x1⟩
        · have y1 : decide (97 ≤ (c : Int)) = true := decide_eq_true x1
          have y2 : decide ((c : Int) ≤ 122) = true := decide_eq_true x2
          have y3 : decide (48 ≤ (c : Int)) = true := decide_eq_true (by omega)
          have y4 : decide ((c : Int) ≤ 57) = false := decide_eq_false (by omega)
          have y5 : ((c : Int) == 95) = false := beq_eq_false_iff_ne.mpr (by omega)
          clear hq x1 x2
          go_wp2
          all_goals
            go_roundw
            case rel => exact ⟨pos + 1, rfl, rfl, by have := HP.out; omega, HN1⟩
            case measure => have := HP.out; simp; omega
        · have y1 : decide (97 ≤ (c : Int)) = false := decide_eq_false (by omega)
          have y3 : decide (48 ≤ (c : Int)) = true := decide_eq_true x1
          have y4 : decide ((c : Int) ≤ 57) = true := decide_eq_true x2
          have y6 : ((pos : Int) == 0) = false := beq_eq_false_iff_ne.mpr (by omega)
          clear hq x1 x2 x0
          go_wp2
          all_goals
            go_roundw
            case rel => exact ⟨pos + 1, rfl, rfl, by have := HP.out; omega, HN1⟩
            case measure => have := HP.out; simp; omega
        · have y1 : decide (97 ≤ (c : Int)) = false := decide_eq_false (by omega)
          have y3 : decide (48 ≤ (c : Int)) = true := decide_eq_true (by omega)
          have y4 : decide ((c : Int) ≤ 57) = false := decide_eq_false (by omega)
          have y5 : ((c : Int) == 95) = true := beq_iff_eq.mpr x1
          have y6 : ((pos : Int) == 0) = false := beq_eq_false_iff_ne.mpr (by omega)
          clear hq x1 x0
          go_wp2
          all_goals
            go_roundw
            case rel => exact ⟨pos + 1, rfl, rfl, by have := HP.out; omega, HN1⟩
            case measure => have := HP.out; simp; omega
      | false =>
        have HF := Aside0.mk (show nmTo a0 a0.size = false from nmTo_false a0 pos _ hp (by rw [← HR.out.1]; exact hq))
        clear HR HT hple hp
        rcases nm_no _ _ hq with x1 | ⟨rfl, x1⟩ | ⟨x0, x1⟩ | ⟨x0, x1, x2, x3⟩
        · have y1 : decide (97 ≤ (c : Int)) = true := decide_eq_true (by omega)
          have y2 : decide ((c : Int) ≤ 122) = false := decide_eq_false (by omega)
          have y3 : decide (48 ≤ (c : Int)) = true := decide_eq_true (by omega)
          have y4 : decide ((c : Int) ≤ 57) = false := decide_eq_false (by omega)
          have y5 : ((c : Int) == 95) = false := beq_eq_false_iff_ne.mpr (by omega)
          clear hq x1
          by_cases hz : pos = 0
          · subst hz
            go_wp2
            all_goals go_ret
            all_goals exact ⟨congrArg (fun b => Ending.returned (Value.bool b)) HF.out.symm, (Below.refl _ _).alloc (Nat.le_refl _) _⟩
          · have y6 : ((pos : Int) == 0) = false := beq_eq_false_iff_ne.mpr (by omega)
            clear hz
            go_wp2
            all_goals go_ret
            all_goals exact ⟨congrArg (fun b => Ending.returned (Value.bool b)) HF.out.symm, (Below.refl _ _).alloc (Nat.le_refl _) _⟩
        · have y1 : decide (97 ≤ (c : Int)) = false := decide_eq_false (by omega)
          clear hq x1
          go_wp2
          all_goals go_ret
          all_goals exact ⟨congrArg (fun b => Ending.returned (Value.bool b)) HF.out.symm, (Below.refl _ _).alloc (Nat.le_refl _) _⟩
        · have y1 : decide (97 ≤ (c : Int)) = false := decide_eq_false (by omega)
          have y3 : decide (48 ≤ (c : Int)) = false := decide_eq_false (by omega)
          have y5 : ((c : Int) == 95) = false := beq_eq_false_iff_ne.mpr (by omega)
          have y6 : ((pos : Int) == 0) = false := beq_eq_false_iff_ne.mpr (by omega)
          clear hq x1 x0
          go_wp2
          all_goals go_ret
          all_goals exact ⟨congrArg (fun b => Ending.returned (Value.bool b)) HF.out.symm, (Below.refl _ _).alloc (Nat.le_refl _) _⟩
        · have y1 : decide (97 ≤ (c : Int)) = false := decide_eq_false (by omega)
          have y3 : decide (48 ≤ (c : Int)) = true := decide_eq_true (by omega)
          have y4 : decide ((c : Int) ≤ 57) = false := decide_eq_false (by omega)
          have y5 : ((c : Int) == 95) = false := beq_eq_false_iff_ne.mpr x3
          have y6 : ((pos : Int) == 0) = false := beq_eq_false_iff_ne.mpr (by omega)
          clear hq x1 x0 x2 x3
          go_wp2
          all_goals go_ret
          all_goals exact ⟨congrArg (fun b => Ending.returned (Value.bool b)) HF.out.symm, (Below.refl _ _).alloc (Nat.le_refl _) _⟩
    · have hnx : ∀ ty, (Instr.next (.pointer (some ⟨w.heap.size, 0, none⟩)) true ty).run Tryd.prog (w.iter a0 pos) = _ := fun ty => run_next_end w a0 pos ty hp
      obtain rfl : pos = a0.size := by omega
      clear hp hple
      go_wp2
      go_ret
      exact ⟨congrArg (fun b => Ending.returned (Value.bool b)) HT.out.symm, (Below.refl _ _).alloc (Nat.le_refl _) _⟩
end Go.Proofs.YtbbddeilbcpmiaaDoor.Q
