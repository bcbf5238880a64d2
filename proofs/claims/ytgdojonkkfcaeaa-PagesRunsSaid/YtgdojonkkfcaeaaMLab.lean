/- Texts of this seat, joined: MLabelsName, MLabelsValue, MLabelsHas, MCloneLab, MLabelsCmp, MSortKit, MSortLab, MLabelsNew. -/
import Derived.Test.YtgdojonkkfcaeaaQ0
import Derived.Laws.RangeString
import Derived.Laws.RangeAny
import Derived.Lib.IndexBytes
import Derived.Outline
import Derived.Test.YtgdojonkkfcaeaaShelf
import Derived.WalkSpells
import Derived.WalkLawsBesides
import Derived.Shelf.SlSortCmp.SmallK
import Derived.Test.YtgdojonkkfcaeaaSortShelf
/- labels.Name: what it computes, and that the code computes it. -/
namespace Go.Proofs.Ytgdojonkkfcaeaa.Q
open Go.RowKit Go.Proofs.YtgdojonkkfcaeaaW.PrintWords Go.Proofs.YtgdojonkkfcaeaaW.PrintLast Go.Proofs.YtgdojonkkfcaeaaW.PrintMore
set_option linter.unusedVariables false
set_option linter.unusedSimpArgs false
/-- May the byte c stand at place i of a name? -/
def nmC (i : Nat) (c : Int) : Bool := (decide (97 ≤ c) && decide (c ≤ 122)) || (decide (i ≠ 0) && ((decide (48 ≤ c) && decide (c ≤ 57)) || decide (c = 95)))
def nmTo (s : ByteArray) (n : Nat) : Bool := (List.range n).all fun i => nmC i (bt s i)
def nameB (s : ByteArray) : Bool := decide (1 ≤ s.size) && decide (s.size ≤ 16) && nmTo s s.size
def labels_Name.f (a0 : ByteArray) : Option Bool := some (nameB a0)
theorem nmTo_succ (s : ByteArray) (n : Nat) : nmTo s (n + 1) = (nmTo s n && nmC n (bt s n)) := by
  unfold nmTo
  rw [List.range_succ, List.all_append]
  simp
theorem nmTo_false (s : ByteArray) (n m : Nat) (h : n < m) (hc : nmC n (bt s n) = false) : nmTo s m = false := by
  unfold nmTo
  rw [List.all_eq_false]
  exact ⟨n, List.mem_range.2 h, by simp [hc]⟩
/-- What the code asks of a rune r at place i. -/
def nmR (i : Nat) (r : Int) : Bool := nmC i r
theorem nmC_high (i : Nat) (c : Int) (h : 128 ≤ c) : nmC i c = false := by
  unfold nmC
  have h1 : decide (c ≤ 122) = false := decide_eq_false (by omega)
  have h2 : decide (c ≤ 57) = false := decide_eq_false (by omega)
  have h3 : decide (c = 95) = false := decide_eq_false (by omega)
  rw [h1, h2, h3]
  simp
/-- The rune at place p: the byte itself, or both are beyond ASCII. -/
theorem rune_at (s : ByteArray) (p : Nat) (h : p < s.size) : nmC p (Utf8.decode s p).1 = nmC p (bt s p) ∧ ((bt s p : Int) < 128 → (Utf8.decode s p).2 = 1) ∧ 0 ≤ ((Utf8.decode s p).1 : Int) ∧ ((Utf8.decode s p).1 : Int) ≤ 2147483647 := by
  have e : bt s p = ((s[p]'h).toNat : Int) := by unfold bt; simp [h]
  have hl := decide_eq_true (decode_le s p)
  refine ⟨?_, ?_, by omega, by have := decode_le s p; omega⟩
  · by_cases ha : (s[p]'h).toNat < 128
    · rw [decode_ascii s p h ha, e]
    · rw [nmC_high p (bt s p) (by omega), nmC_high p _ (by have := (decode_high s p h (by omega)).1; omega)]
  · intro hb
    rw [decode_ascii s p h (by omega)]
theorem nmC_lt (i : Nat) (c : Int) (h : nmC i c = true) : c < 128 := by
  apply Decidable.byContradiction
  intro hn
  rw [nmC_high i c (by omega)] at h
  exact absurd h (by simp)
theorem nm_yes (p : Nat) (c : Int) (h : nmC p c = true) : (97 ≤ c ∧ c ≤ 122) ∨ (p ≠ 0 ∧ 48 ≤ c ∧ c ≤ 57) ∨ (p ≠ 0 ∧ c = 95) := by
  unfold nmC at h
  simp only [Bool.or_eq_true, Bool.and_eq_true, decide_eq_true_eq] at h
  omega
theorem nm_no (p : Nat) (c : Int) (h : nmC p c = false) : 122 < c ∨ (p = 0 ∧ c < 97) ∨ (p ≠ 0 ∧ c < 48) ∨ (p ≠ 0 ∧ 57 < c ∧ c < 97 ∧ c ≠ 95) := by
  unfold nmC at h
  simp only [Bool.or_eq_false_iff, Bool.and_eq_false_iff, decide_eq_false_iff_not] at h
  omega
set_option maxHeartbeats 8000000 in
set_option maxRecDepth 100000 in
theorem labels_Name.calls (a0 : ByteArray) (r : Bool) (w : World) (h : labels_Name.f a0 = some r) :
    Calls Try.prog 61 #[.string a0] w fun e w' => e = .returned (.bool r) ∧ Below w.heap.size w w' := by
  obtain rfl : nameB a0 = r := Option.some.inj h
  clear h
  by_cases h0 : a0.size = 0
  · have e0 : a0.toList = [] := by
      rw [Lib.toList_data]
      exact List.eq_nil_of_length_eq_zero (by simpa using h0)
    have e1 : nameB a0 = false := by unfold nameB; rw [h0]; rfl
    rw [e1]
    clear h0 e1
    go_enter Try.func61, Try.ntmps61
    go_wp2
    go_ret
    exact ⟨rfl, Below.refl _ _⟩
  have hne : a0.toList.isEmpty = false := by
    rw [Lib.toList_data]
    cases hd : a0.data.toList with
    | nil => exact absurd (by simpa using congrArg List.length hd) h0
    | cons => rfl
  by_cases h1 : 16 < a0.size
  · have e1 : nameB a0 = false := by unfold nameB; rw [decide_eq_false (show ¬ a0.size ≤ 16 by omega)]; simp
    rw [e1]
    clear h0 e1
    have h1b : decide ((16 : Int) < (a0.size : Int)) = true := decide_eq_true (by omega)
    go_enter Try.func61, Try.ntmps61
    go_wp2
    go_ret
    exact ⟨rfl, Below.refl _ _⟩
  have hn1 : ¬ 16 < a0.size := h1
  have e1 : nameB a0 = nmTo a0 a0.size := by
    unfold nameB
    rw [decide_eq_true (show 1 ≤ a0.size by omega), decide_eq_true (show a0.size ≤ 16 by omega)]
    rfl
  rw [e1]
  have h1b : decide ((16 : Int) < (a0.size : Int)) = false := decide_eq_false (by omega)
  have HN := Aside0.mk hn1
  clear e1 h1 hn1 h0
  go_enter Try.func61, Try.ntmps61
  go_wp2
  go_loopw [2] (fun v2 w' => ∃ pos : Nat, v2 = .bool false ∧ w' = w.iter a0 pos ∧ pos ≤ a0.size ∧ Aside0 (nmTo a0 pos = true)) (fun _ w' => a0.size - w'.iterPos w.heap.size)
  case atStart => exact ⟨0, rfl, rfl, Nat.zero_le _, ⟨rfl⟩⟩
  case round =>
    obtain ⟨pos, rfl, rfl, hple, HT⟩ := hrel
    by_cases hp : pos < a0.size
    · have hnx : ∀ ty, (Instr.next (.pointer (some ⟨w.heap.size, 0, none⟩)) true ty).run Try.prog (w.iter a0 pos) = _ := fun ty => run_next_any w a0 pos ty hp
      have HR := Aside0.mk (rune_at a0 pos hp)
      generalize hc : (Utf8.decode a0 pos).1 = c at hnx HR
      generalize hd : (Utf8.decode a0 pos).2 = d at hnx HR
      clear hc hd
      have hc0 : 0 ≤ (c : Int) := HR.out.2.2.1
      have hc1 : (c : Int) ≤ 2147483647 := HR.out.2.2.2
      cases hq : nmC pos c with
      | true =>
        have hb : nmC pos (bt a0 pos) = true := by rw [← HR.out.1]; exact hq
        obtain rfl : d = 1 := HR.out.2.1 (nmC_lt _ _ hb)
        have HN1 := Aside0.mk (show nmTo a0 (pos + 1) = true by rw [nmTo_succ, HT.out, hb]; rfl)
        have HP := Aside0.mk hp
        clear HR hb HT hple hp
        rcases nm_yes _ _ hq with ⟨x1, x2⟩ | ⟨x0, x1, x2⟩ | ⟨x0, x1⟩
        · have y1 : decide (97 ≤ (c : Int)) = true := decide_eq_true x1
          have y2 : decide ((c : Int) ≤ 122) = true := decide_eq_true x2
          have y3 : decide (48 ≤ (c : Int)) = true := decide_eq_true (by omega)
          have y4 : decide ((c : Int) ≤ 57) = false := decide_eq_false (by omega)
          have y5 : ((c : Int) == 95) = false := beq_eq_false_iff_ne.mpr (by omega)
          clear hq x1 x2
          go_wp2
          all_goals
            go_roundw
            case rel => exact ⟨pos + 1, rfl, rfl, by have := HP.out; omega, HN1⟩
            case measure => have := HP.out; simp; omega
        · have y1 : decide (97 ≤ (c : Int)) = false := decide_eq_false (by omega)
          have y3 : decide (48 ≤ (c : Int)) = true := decide_eq_true x1
          have y4 : decide ((c : Int) ≤ 57) = true := decide_eq_true x2
          have y6 : ((pos : Int) == 0) = false := beq_eq_false_iff_ne.mpr (by omega)
          clear hq x1 x2 x0
          go_wp2
          all_goals
            go_roundw
            case rel => exact ⟨pos + 1, rfl, rfl, by have := HP.out; omega, HN1⟩
            case measure => have := HP.out; simp; omega
        · have y1 : decide (97 ≤ (c : Int)) = false := decide_eq_false (by omega)
          have y3 : decide (48 ≤ (c : Int)) = true := decide_eq_true (by omega)
          have y4 : decide ((c : Int) ≤ 57) = false := decide_eq_false (by omega)
          have y5 : ((c : Int) == 95) = true := beq_iff_eq.mpr x1
          have y6 : ((pos : Int) == 0) = false := beq_eq_false_iff_ne.mpr (by omega)
          clear hq x1 x0
          go_wp2
          all_goals
            go_roundw
            case rel => exact ⟨pos + 1, rfl, rfl, by have := HP.out; omega, HN1⟩
            case measure => have := HP.out; simp; omega
      | false =>
        have HF := Aside0.mk (show nmTo a0 a0.size = false from nmTo_false a0 pos _ hp (by rw [← HR.out.1]; exact hq))
        clear HR HT hple hp
        rcases nm_no _ _ hq with x1 | ⟨rfl, x1⟩ | ⟨x0, x1⟩ | ⟨x0, x1, x2, x3⟩
        · have y1 : decide (97 ≤ (c : Int)) = true := decide_eq_true (by omega)
          have y2 : decide ((c : Int) ≤ 122) = false := decide_eq_false (by omega)
          have y3 : decide (48 ≤ (c : Int)) = true := decide_eq_true (by omega)
          have y4 : decide ((c : Int) ≤ 57) = false := decide_eq_false (by omega)
          have y5 : ((c : Int) == 95) = false := beq_eq_false_iff_ne.mpr (by omega)
          clear hq x1
          by_cases hz : pos = 0
          · subst hz
            go_wp2
            all_goals go_ret
            all_goals exact ⟨congrArg (fun b => Ending.returned (Value.bool b)) HF.out.symm, (Below.refl _ _).alloc (Nat.le_refl _) _⟩
          · have y6 : ((pos : Int) == 0) = false := beq_eq_false_iff_ne.mpr (by omega)
            clear hz
            go_wp2
            all_goals go_ret
            all_goals exact ⟨congrArg (fun b => Ending.returned (Value.bool b)) HF.out.symm, (Below.refl _ _).alloc (Nat.le_refl _) _⟩
        · have y1 : decide (97 ≤ (c : Int)) = false := decide_eq_false (by omega)
          clear hq x1
          go_wp2
          all_goals go_ret
          all_goals exact ⟨congrArg (fun b => Ending.returned (Value.bool b)) HF.out.symm, (Below.refl _ _).alloc (Nat.le_refl _) _⟩
        · have y1 : decide (97 ≤ (c : Int)) = false := decide_eq_false (by omega)
          have y3 : decide (48 ≤ (c : Int)) = false := decide_eq_false (by omega)
          have y5 : ((c : Int) == 95) = false := beq_eq_false_iff_ne.mpr (by omega)
          have y6 : ((pos : Int) == 0) = false := beq_eq_false_iff_ne.mpr (by omega)
          clear hq x1 x0
          go_wp2
          all_goals go_ret
          all_goals exact ⟨congrArg (fun b => Ending.returned (Value.bool b)) HF.out.symm, (Below.refl _ _).alloc (Nat.le_refl _) _⟩
        · have y1 : decide (97 ≤ (c : Int)) = false := decide_eq_false (by omega)
          have y3 : decide (48 ≤ (c : Int)) = true := decide_eq_true (by omega)
          have y4 : decide ((c : Int) ≤ 57) = false := decide_eq_false (by omega)
          have y5 : ((c : Int) == 95) = false := beq_eq_false_iff_ne.mpr x3
          have y6 : ((pos : Int) == 0) = false := beq_eq_false_iff_ne.mpr (by omega)
          clear hq x1 x0 x2 x3
          go_wp2
          all_goals go_ret
          all_goals exact ⟨congrArg (fun b => Ending.returned (Value.bool b)) HF.out.symm, (Below.refl _ _).alloc (Nat.le_refl _) _⟩
    · have hnx : ∀ ty, (Instr.next (.pointer (some ⟨w.heap.size, 0, none⟩)) true ty).run Try.prog (w.iter a0 pos) = _ := fun ty => run_next_end w a0 pos ty hp
      obtain rfl : pos = a0.size := by omega
      clear hp hple
      go_wp2
      go_ret
      exact ⟨congrArg (fun b => Ending.returned (Value.bool b)) HT.out.symm, (Below.refl _ _).alloc (Nat.le_refl _) _⟩
end Go.Proofs.Ytgdojonkkfcaeaa.Q

/- labels.Value: what it computes, and that the code computes it. -/
namespace Go.Proofs.Ytgdojonkkfcaeaa.Q
open Go.RowKit Go.Proofs.YtgdojonkkfcaeaaW.PrintWords Go.Proofs.YtgdojonkkfcaeaaW.PrintLast Go.Proofs.YtgdojonkkfcaeaaW.PrintMore
set_option linter.unusedVariables false
set_option linter.unusedSimpArgs false
/-- May the byte c stand in a value? -/
def vlC (c : Int) : Bool := decide (32 < c) && decide (c ≤ 126) && !(decide (c = 34) || decide (c = 92) || decide (c = 44) || decide (c = 123) || decide (c = 125))
def vlTo (s : ByteArray) (n : Nat) : Bool := (List.range n).all fun i => vlC (bt s i)
def valueB (s : ByteArray) : Bool := decide (s.size ≤ 16) && vlTo s s.size
def labels_Value.f (a0 : ByteArray) : Option Bool := some (valueB a0)
theorem vlTo_succ (s : ByteArray) (n : Nat) : vlTo s (n + 1) = (vlTo s n && vlC (bt s n)) := by
  unfold vlTo
  rw [List.range_succ, List.all_append]
  simp
theorem vlTo_false (s : ByteArray) (n m : Nat) (h : n < m) (hc : vlC (bt s n) = false) : vlTo s m = false := by
  unfold vlTo
  rw [List.all_eq_false]
  exact ⟨n, List.mem_range.2 h, by simp [hc]⟩
theorem vlC_high (c : Int) (h : 128 ≤ c) : vlC c = false := by
  unfold vlC
  rw [decide_eq_false (show ¬ c ≤ 126 by omega)]
  simp
theorem rune_atV (s : ByteArray) (p : Nat) (h : p < s.size) : vlC (Utf8.decode s p).1 = vlC (bt s p) ∧ ((bt s p : Int) < 128 → (Utf8.decode s p).2 = 1) ∧ 0 ≤ ((Utf8.decode s p).1 : Int) ∧ ((Utf8.decode s p).1 : Int) ≤ 2147483647 := by
  have e : bt s p = ((s[p]'h).toNat : Int) := by unfold bt; simp [h]
  refine ⟨?_, ?_, by omega, by have := decode_le s p; omega⟩
  · by_cases ha : (s[p]'h).toNat < 128
    · rw [decode_ascii s p h ha, e]
    · rw [vlC_high (bt s p) (by omega), vlC_high _ (by have := (decode_high s p h (by omega)).1; omega)]
  · intro hb
    rw [decode_ascii s p h (by omega)]
theorem vlC_lt (c : Int) (h : vlC c = true) : c < 128 := by
  apply Decidable.byContradiction
  intro hn
  rw [vlC_high c (by omega)] at h
  exact absurd h (by simp)
/-- The bytes that a value does not contain. -/
def resS : ByteArray := ⟨#[34, 92, 44, 123, 125]⟩
theorem res_has (c : Nat) (h0 : 32 < c) (h1 : c ≤ 126) : decide (0 ≤ Lib.indexByte resS.data.toList ((c : Int).toNat.toUInt8)) = !(vlC c) := by
  have : ∀ c : Fin 127, 32 < c.val → decide (0 ≤ Lib.indexByte resS.data.toList ((c.val : Int).toNat.toUInt8)) = !(vlC c.val) := by decide +kernel
  exact this ⟨c, by omega⟩ h0
theorem vl_no (c : Int) (h : vlC c = false) : c ≤ 32 ∨ 126 < c ∨ (32 < c ∧ c ≤ 126) := by omega
set_option maxHeartbeats 8000000 in
set_option maxRecDepth 100000 in
theorem labels_Value.calls (a0 : ByteArray) (r : Bool) (w : World) (h : labels_Value.f a0 = some r) :
    Calls Try.prog 71 #[.string a0] w fun e w' => e = .returned (.bool r) ∧ Below w.heap.size w w' := by
  obtain rfl : valueB a0 = r := Option.some.inj h
  clear h
  by_cases h1 : 16 < a0.size
  · have e1 : valueB a0 = false := by unfold valueB; rw [decide_eq_false (show ¬ a0.size ≤ 16 by omega)]; simp
    rw [e1]
    clear e1
    have h1b : decide ((16 : Int) < (a0.size : Int)) = true := decide_eq_true (by omega)
    clear h1
    go_enter Try.func71, Try.ntmps71
    go_wp2
    go_ret
    exact ⟨rfl, Below.refl _ _⟩
  have hn1 : ¬ 16 < a0.size := h1
  have e1 : valueB a0 = vlTo a0 a0.size := by
    unfold valueB
    rw [decide_eq_true (show a0.size ≤ 16 by omega)]
    rfl
  rw [e1]
  have h1b : decide ((16 : Int) < (a0.size : Int)) = false := decide_eq_false (by omega)
  clear e1 h1 hn1
  go_enter Try.func71, Try.ntmps71
  go_wp2
  go_loopw [2] (fun v2 w' => ∃ pos : Nat, v2 = .bool false ∧ w' = w.iter a0 pos ∧ pos ≤ a0.size ∧ Aside0 (vlTo a0 pos = true)) (fun _ w' => a0.size - w'.iterPos w.heap.size)
  case atStart => exact ⟨0, rfl, rfl, Nat.zero_le _, ⟨rfl⟩⟩
  case round =>
    obtain ⟨pos, rfl, rfl, hple, HT⟩ := hrel
    by_cases hp : pos < a0.size
    · have hnx : ∀ ty, (Instr.next (.pointer (some ⟨w.heap.size, 0, none⟩)) true ty).run Try.prog (w.iter a0 pos) = _ := fun ty => run_next_any w a0 pos ty hp
      have HR := Aside0.mk (rune_atV a0 pos hp)
      generalize hc : (Utf8.decode a0 pos).1 = c at hnx HR
      generalize hd : (Utf8.decode a0 pos).2 = d at hnx HR
      clear hc hd
      have hc0 : 0 ≤ (c : Int) := HR.out.2.2.1
      have hc1 : (c : Int) ≤ 2147483647 := HR.out.2.2.2
      by_cases x1 : (c : Int) ≤ 32
      · have HF := Aside0.mk (show vlTo a0 a0.size = false from vlTo_false a0 pos _ hp (by rw [← HR.out.1]; unfold vlC; rw [decide_eq_false (show ¬ 32 < (c : Int) by omega)]; rfl))
        have y1 : decide ((c : Int) ≤ 32) = true := decide_eq_true x1
        clear HR HT hple hp x1
        go_wp2
        all_goals go_ret
        all_goals exact ⟨congrArg (fun b => Ending.returned (Value.bool b)) HF.out.symm, (Below.refl _ _).alloc (Nat.le_refl _) _⟩
      by_cases x2 : 126 < (c : Int)
      · have HF := Aside0.mk (show vlTo a0 a0.size = false from vlTo_false a0 pos _ hp (by rw [← HR.out.1]; unfold vlC; rw [decide_eq_false (show ¬ (c : Int) ≤ 126 by omega)]; simp))
        have y1 : decide ((c : Int) ≤ 32) = false := decide_eq_false x1
        have y2 : decide (126 < (c : Int)) = true := decide_eq_true x2
        clear HR HT hple hp x1 x2
        go_wp2
        all_goals go_ret
        all_goals exact ⟨congrArg (fun b => Ending.returned (Value.bool b)) HF.out.symm, (Below.refl _ _).alloc (Nat.le_refl _) _⟩
      have y1 : decide ((c : Int) ≤ 32) = false := decide_eq_false x1
      have y2 : decide (126 < (c : Int)) = false := decide_eq_false x2
      have CR := fun W => Try.strings_ContainsRune_ascii resS c W hc0 (by omega)
      rw [res_has c (by omega) (by omega)] at CR
      cases hq : vlC c with
      | true =>
        have hb : vlC (bt a0 pos) = true := by rw [← HR.out.1]; exact hq
        obtain rfl : d = 1 := HR.out.2.1 (vlC_lt _ hb)
        have HN1 := Aside0.mk (show vlTo a0 (pos + 1) = true by rw [vlTo_succ, HT.out, hb]; rfl)
        have HP := Aside0.mk hp
        rw [hq] at CR
        clear HR hb HT hple hp hq x1 x2
        go_wp2_with (go_at_call 90; refine (CR _).mono ?_; rintro e w' ⟨rfl, rfl⟩)
        all_goals
          go_roundw
          case rel => exact ⟨pos + 1, rfl, rfl, by have := HP.out; omega, HN1⟩
          case measure => have := HP.out; simp; omega
      | false =>
        have HF := Aside0.mk (show vlTo a0 a0.size = false from vlTo_false a0 pos _ hp (by rw [← HR.out.1]; exact hq))
        rw [hq] at CR
        clear HR HT hple hp hq x1 x2
        go_wp2_with (go_at_call 90; refine (CR _).mono ?_; rintro e w' ⟨rfl, rfl⟩)
        all_goals go_ret
        all_goals exact ⟨congrArg (fun b => Ending.returned (Value.bool b)) HF.out.symm, (Below.refl _ _).alloc (Nat.le_refl _) _⟩
    · have hnx : ∀ ty, (Instr.next (.pointer (some ⟨w.heap.size, 0, none⟩)) true ty).run Try.prog (w.iter a0 pos) = _ := fun ty => run_next_end w a0 pos ty hp
      obtain rfl : pos = a0.size := by omega
      clear hp hple
      go_wp2
      go_ret
      exact ⟨congrArg (fun b => Ending.returned (Value.bool b)) HT.out.symm, (Below.refl _ _).alloc (Nat.le_refl _) _⟩
end Go.Proofs.Ytgdojonkkfcaeaa.Q

/- slices.ContainsFunc of labels, at the closure of labels.New that asks for the name of one label: what the code computes. -/
namespace Go.Proofs.Ytgdojonkkfcaeaa.Q
open Go.RowKit Go.Proofs.YtgdojonkkfcaeaaW.PrintWords Go.Proofs.YtgdojonkkfcaeaaW.PrintLast Go.Proofs.YtgdojonkkfcaeaaW.PrintMore
set_option linter.unusedVariables false
set_option linter.unusedSimpArgs false
abbrev Lab := S54
theorem bcellH {W w1 : World} (hb : Below W.heap.size W w1) : (∀ b o, b < W.heap.size → w1.cell? ⟨b, o, none⟩ = W.cell? ⟨b, o, none⟩) :=
  fun b o h => hb.cell (p := ⟨b, o, none⟩) h
set_option maxHeartbeats 4000000 in
set_option maxRecDepth 100000 in
theorem new_same (y x : Lab) (g : Nat) (W : World) (hx : W.heap[g]? = some (.cells #[.string x.f0, .string x.f1] 54 (0, 0))) :
    Calls Try.prog 73 #[.agg #[.string y.f0, .string y.f1], .pointer (some ⟨g, 0, none⟩)] W fun e w' => e = .returned (.bool (y.f0.toList == x.f0.toList)) ∧ Below W.heap.size W w' := by
  have hu := Try.underlying54
  have hc0 : W.cell? ⟨g, 0, none⟩ = some (.string x.f0) := (blk_cell hx 0).trans rfl
  have hlt : g < W.heap.size := blk_lt hx
  clear hx
  go_enter Try.func73, Try.ntmps73
  go_wp2
  go_ret
  exact ⟨rfl, (Below.refl _ _).alloc (Nat.le_refl _) _⟩
def hasN (xs : List Lab) (x : Lab) : Bool := xs.any fun y => y.f0.toList == x.f0.toList
theorem rd_lab (xs : List Lab) (i : Int) (h0 : 0 ≤ i) (h : i < xs.length) : ∃ h' : i.toNat < xs.length, rd_T54 xs i = xs[i.toNat] := by
  have h' : i.toNat < xs.length := by omega
  refine ⟨h', ?_⟩
  show xs.getD i.toNat _ = _
  simp [h']
theorem hasN_step (xs : List Lab) (x : Lab) (i : Int) (h0 : 0 ≤ i) (h : i < xs.length) : hasN (xs.take (i + 1).toNat) x = (hasN (xs.take i.toNat) x || ((rd_T54 xs i).f0.toList == x.f0.toList)) := by
  obtain ⟨h', e⟩ := rd_lab xs i h0 h
  rw [e]
  have e2 : (i + 1).toNat = i.toNat + 1 := by omega
  rw [e2]
  unfold hasN
  rw [List.take_succ_eq_append_getElem h', List.any_append]
  simp
theorem hasN_true (xs : List Lab) (x : Lab) (i : Int) (h0 : 0 ≤ i) (h : i < xs.length) (hy : ((rd_T54 xs i).f0.toList == x.f0.toList) = true) : hasN xs x = true := by
  obtain ⟨h', e⟩ := rd_lab xs i h0 h
  rw [e] at hy
  unfold hasN
  rw [List.any_eq_true]
  exact ⟨_, List.getElem_mem h', hy⟩
set_option maxHeartbeats 4000000 in
set_option maxRecDepth 100000 in
theorem new_index (A : Option Addr) (c : Nat) (xs : List Lab) (x : Lab) (g : Nat) (W : World) (hr : Kd.C k54 W A xs.length xs) (hl : xs.length ≤ 1000) (hx : W.heap[g]? = some (.cells #[.string x.f0, .string x.f1] 54 (0, 0))) :
    Calls Try.prog 91 #[.slice A xs.length c, .func (.func 73) #[] #[.pointer (some ⟨g, 0, none⟩)]] W fun e w' => ∃ r : Int, e = .returned (.int .i64 r) ∧ Aside0 (decide (0 ≤ r) = hasN xs x) ∧ Below W.heap.size W w' := by
  have hu := Try.underlying54
  have HR := Aside0.mk hr
  have HX := Aside0.mk hx
  clear hr hx
  go_enter Try.func91, Try.ntmps91
  go_wp2
  go_loopw [8] (fun v8 w' => ∃ i : Int, v8 = .int .i64 i ∧ 0 ≤ i ∧ i ≤ xs.length ∧ Aside0 (hasN (xs.take i.toNat) x = false) ∧ Aside0 (Below W.heap.size W w')) (fun v8 _ => xs.length - (intOf v8).toNat)
  case atStart => exact ⟨0, rfl, Int.le_refl _, by omega, ⟨rfl⟩, ⟨Below.refl _ _⟩⟩
  case round =>
    obtain ⟨i, rfl, hi0, hi, HN, HB⟩ := hrel
    have HI := Aside0.mk hi
    have hi1 : i ≤ 1000 := by omega
    by_cases hlt : i < xs.length
    · have hltb : decide (i < (xs.length : Int)) = true := decide_eq_true hlt
      have HRr := Kd.C_below HR.out HB.out
      have HXr := Aside0.mk (blk_below HX.out HB.out)
      obtain ⟨ad, e0, hx0, hx1⟩ := at_T54 HRr i hi0 hlt
      subst e0
      have hsn := Aside0.mk (hasN_step xs x i hi0 hlt)
      have htr := Aside0.mk (hasN_true xs x i hi0 hlt)
      clear HRr
      have CC := fun W' h' => new_same (rd_T54 xs i) x g W' h'
      have HLT := Aside0.mk hlt
      have p0 := eq_true hi0
      have q0 := eq_true hlt
      clear hlt hi
      cases hq : ((rd_T54 xs i).f0.toList == x.f0.toList) with
      | true =>
        rw [hq] at CC
        have HT := Aside0.mk (htr.out hq)
        clear hsn htr hq
        go_wp2_with (go_at_call 73; refine (CC _ HXr.out).mono ?_; rintro e w' ⟨rfl, hb⟩)
        go_ret
        exact ⟨i, rfl, ⟨by rw [HT.out]; exact decide_eq_true (of_eq_true p0)⟩, below_then HB.out HB.out.size hb⟩
      | false =>
        rw [hq] at CC
        have HT := Aside0.mk (show hasN (xs.take (i + 1).toNat) x = false by rw [hsn.out, HN.out, hq]; rfl)
        clear hsn htr hq
        go_wp2_with (go_at_call 73; refine (CC _ HXr.out).mono ?_; rintro e w' ⟨rfl, hb⟩)
        go_roundw
        case rel => exact ⟨i + 1, rfl, by have := of_eq_true p0; omega, by have := HLT.out; omega, HT, ⟨below_then HB.out HB.out.size hb⟩⟩
        case measure => have := HLT.out; have := of_eq_true p0; simp [intOf]; omega
    · have hltb : decide (i < (xs.length : Int)) = false := decide_eq_false hlt
      have HE := Aside0.mk (show hasN xs x = false by have := HN.out; rwa [List.take_of_length_le (by omega)] at this)
      clear hlt hi
      go_wp2
      go_ret
      exact ⟨-1, rfl, ⟨by rw [HE.out]; rfl⟩, HB.out⟩
set_option maxHeartbeats 4000000 in
set_option maxRecDepth 100000 in
theorem new_has (A : Option Addr) (c : Nat) (xs : List Lab) (x : Lab) (g : Nat) (W : World) (hr : Kd.C k54 W A xs.length xs) (hl : xs.length ≤ 1000) (hx : W.heap[g]? = some (.cells #[.string x.f0, .string x.f1] 54 (0, 0))) :
    Calls Try.prog 72 #[.slice A xs.length c, .func (.func 73) #[] #[.pointer (some ⟨g, 0, none⟩)]] W fun e w' => e = .returned (.bool (hasN xs x)) ∧ Below W.heap.size W w' := by
  have C1 := new_index A c xs x g W hr hl hx
  clear hr hl hx
  go_enter Try.func72, Try.ntmps72
  go_wp2_with (go_at_call 91; refine C1.mono ?_; rintro e w' ⟨r, rfl, hq, hb⟩)
  go_ret
  exact ⟨congrArg (fun b => Ending.returned (Value.bool b)) hq.out, hb⟩
end Go.Proofs.Ytgdojonkkfcaeaa.Q

/- slices.Clone of labels: what the code computes. -/
namespace Go.Proofs.Ytgdojonkkfcaeaa.Q
open Go.RowKit Go.Proofs.YtgdojonkkfcaeaaW.PrintWords Go.Proofs.YtgdojonkkfcaeaaW.PrintLast Go.Proofs.YtgdojonkkfcaeaaW.PrintMore
set_option linter.unusedVariables false
set_option linter.unusedSimpArgs false
set_option maxHeartbeats 4000000 in
set_option maxRecDepth 100000 in
theorem clone_lab (A : Option Addr) (c : Nat) (l : List S54) (w : World) (hr : Kd.C k54 w A l.length l) (hl : l.length < 4398046511104) :
    Calls Try.prog 37 #[.slice A l.length c] w fun e w' => ∃ v : Value, e = .returned v ∧ Kd.R k54 54 w' w.heap.size (fun _ => True) v l ∧ Below w.heap.size w w' := by
  have heq := Lib.run_eql_slice_nil (P := Try.prog) w 29 54 A l.length c 0 0 Try.underlying29
  have HL := Aside0.mk hl
  clear hl
  cases A with
  | none =>
    have hz : l = [] := by
      cases hn : l with
      | nil => rfl
      | cons x xs =>
        obtain ⟨ad, e, _⟩ := at_T54 hr 0 (by omega) (by rw [hn]; simp)
        cases e
    subst hz
    clear hr HL
    simp only [List.length_nil] at heq ⊢
    go_enter Try.func37, Try.ntmps37
    go_wp2
    go_ret
    exact ⟨_, rfl, Kd.R_nil _ _ _ _ _, Below.refl _ _⟩
  | some ad =>
    have HR := Aside0.mk hr
    clear hr
    go_enter Try.func37, Try.ntmps37
    go_wp2_with (first | ((with_reducible refine gate_dst (N := 5) rfl ?_); refine Kd.R_lit k54 _ 54 ?hg (N := 5) ?hd (xs := []) (inner := []) (ok := fun _ => True) (okp := fun _ => True) ?hr ?hp (fun _ hk => hk) trivial (Below.refl _ _) (Nat.le_refl _) (by simp) ?_; (case hd => rfl); (case hg => rfl); (case hr => first | (go_simp; done) | (go_simp; rfl)); (case hp => exact (Reps.none _ _)); intro v1 w1 ho hb hg_ hnew_; have HO := Aside0.mk ho; have HB := Aside0.mk hb; clear ho hb hg_ hnew_) | ((with_reducible refine gate_builtin (b := .append) (xs := #[.tmp 5, .tmp 6]) rfl ?_); at_builtin; refine Kd.R_append_rows k54 (w0 := w) w.heap.size rfl (.tmp 5) (.tmp 6) 29 54 (.agg #[(.string ⟨#[]⟩), (.string ⟨#[]⟩)]) 32 rfl Try.underlying29 info54 rfl (by decide) (by omega) v1 [] l _ _ _ (fun _ => True) (fun _ => False) rfl rfl HO.out ?aR (fun _ _ h => h) (fun _ h => h.elim) (fun _ _ => trivial) HB.out HB.out.size ?aL ?_; (case aR => exact Kd.C_below HR.out HB.out); (case aL => have := HL.out; simp; omega); intro v2 w2 ho hb hg hat; have HO2 := Aside0.mk ho; have HB2 := Aside0.mk hb; clear ho hb hg hat))
    go_ret
    exact ⟨_, rfl, HO2.out, HB2.out⟩
end Go.Proofs.Ytgdojonkkfcaeaa.Q

/- cmp.Compare at strings, and the order of labels by name: what the code computes. -/
namespace Go.Proofs.Ytgdojonkkfcaeaa.Q
open Go.RowKit Go.Proofs.YtgdojonkkfcaeaaW.PrintWords Go.Proofs.YtgdojonkkfcaeaaW.PrintLast Go.Proofs.YtgdojonkkfcaeaaW.PrintMore
set_option linter.unusedVariables false
set_option linter.unusedSimpArgs false
/-- -1, 0 or 1: the order of bytes. -/
def cmpS (a b : ByteArray) : Int := if Op.bytesLess a.toList b.toList = true then -1 else if (a.toList == b.toList) = true then 0 else 1
set_option maxHeartbeats 8000000 in
set_option maxRecDepth 100000 in
theorem cmp_string (a b : ByteArray) (w : World) :
    Calls Try.prog 50 #[.string a, .string b] w fun e w' => e = .returned (.int .i64 (cmpS a b)) ∧ w' = w := by
  unfold cmpS
  by_cases h1 : Op.bytesLess a.toList b.toList = true
  · rw [if_pos h1]
    go_enter Try.func50, Try.ntmps50
    go_wp2
    go_ret
    exact ⟨rfl, rfl⟩
  · rw [if_neg h1]
    have h1 : Op.bytesLess a.toList b.toList = false := by simpa using h1
    by_cases h2 : (a.toList == b.toList) = true
    · rw [if_pos h2]
      go_enter Try.func50, Try.ntmps50
      go_wp2
      go_ret
      exact ⟨rfl, rfl⟩
    · rw [if_neg h2]
      have h2 : (a.toList == b.toList) = false := by simpa using h2
      go_enter Try.func50, Try.ntmps50
      go_wp2
      go_ret
      exact ⟨rfl, rfl⟩
end Go.Proofs.Ytgdojonkkfcaeaa.Q

/- Between the print's word for a row of one's own (Kd.R) and the sort's words (HoldsK, sortWorldK): both ways, for elements that lead to no rows. -/
namespace Go.Proofs.Ytgdojonkkfcaeaa.Q
open Go.RowKit Go.Sort Go.Proofs.YtgdojonkkfcaeaaW.PrintWords
set_option linter.unusedVariables false
set_option linter.unusedSimpArgs false
theorem flat_get? {α : Type} [Inhabited α] (enc : α → List Value) (k : Nat) (d : Array α) (t : Nat) : (flatK enc k d).toList[t]? = if t < d.size * k then some ((enc d[t / k]!)[t % k]!) else none := by
  by_cases h : t < d.size * k
  · rw [if_pos h]
    have h2 : t < (flatK enc k d).size := by simpa using h
    rw [Array.getElem?_toList, Array.getElem?_eq_getElem h2]
    have := get_flatK enc k d t h
    rw [getElem!_pos _ t h2] at this
    rw [this]
  · rw [if_neg h]
    simp
    omega
theorem flat_seg {α : Type} [Inhabited α] (enc : α → List Value) (k : Nat) (hk : ∀ x, (enc x).length = k) (d : Array α) (j : Nat) (hj : j < d.size) : (((flatK enc k d).toList.drop (j * k)).take k) = enc d[j]! := by
  have hjk : j * k + k ≤ d.size * k := by
    have := Nat.mul_le_mul_right k (show j + 1 ≤ d.size from hj)
    rwa [Nat.add_mul, Nat.one_mul] at this
  apply List.ext_getElem?
  intro t
  rw [List.getElem?_take]
  by_cases ht : t < k
  · rw [if_pos ht, List.getElem?_drop, flat_get?, if_pos (by omega)]
    have k0 : 0 < k := by omega
    have e1 : (j * k + t) / k = j := (blk_iff k j _ k0).1 ⟨by omega, by omega⟩
    have e2 : (j * k + t) % k = t := by rw [Nat.mod_eq_sub_div_mul, e1]; omega
    rw [e1, e2]
    have hl : t < (enc d[j]!).length := by rw [hk]; exact ht
    rw [List.getElem?_eq_getElem hl, getElem!_pos _ t hl]
  · rw [if_neg ht, List.getElem?_eq_none (by rw [hk]; omega)]
theorem inner_flat {α : Type} [Inhabited α] {d : Kd α} {enc : α → List Value} (hk : ∀ x, (enc x).length = d.sz) {w : World} {base : Nat} {ok : Nat → Prop} {l : List α} {inner : List Value} (hM : ∀ x cs, d.M w base ok x cs → cs = enc x)
    (h : Reps (d.M w base ok) d.sz l inner) : inner = (flatK enc d.sz l.toArray).toList := by
  obtain ⟨h1, h2⟩ := h
  apply List.ext_getElem?
  intro t
  rw [flat_get?]
  by_cases ht : t < l.toArray.size * d.sz
  · rw [if_pos ht]
    have ht' : t < l.length * d.sz := by simpa using ht
    have k0 : 0 < d.sz := by
      rcases Nat.eq_zero_or_pos d.sz with e | e
      · rw [e] at ht'; simp at ht'
      · exact e
    have hj : t / d.sz < l.length := (Nat.div_lt_iff_lt_mul k0).2 ht'
    have h3 := hM _ _ (h2 (t / d.sz) _ (List.getElem?_eq_getElem hj))
    have hx : l.toArray[t / d.sz]! = l[t / d.sz] := by
      rw [getElem!_pos _ _ (by simpa using hj)]
      simp
    rw [hx]
    have hm : t % d.sz < d.sz := Nat.mod_lt _ k0
    have hl : t % d.sz < (enc l[t / d.sz]).length := by rw [hk]; exact hm
    have h4 : ((inner.drop (t / d.sz * d.sz)).take d.sz)[t % d.sz]? = (enc l[t / d.sz])[t % d.sz]? := by rw [h3]
    rw [List.getElem?_take, if_pos hm, List.getElem?_drop, Nat.div_add_mod', List.getElem?_eq_getElem hl] at h4
    rw [h4, getElem!_pos (enc l[t / d.sz]) (t % d.sz) hl]
  · rw [if_neg ht]
    have ht' : ¬ t < l.length * d.sz := by simpa using ht
    exact List.getElem?_eq_none (by omega)
/-- A row of one's own, in the sort's words. -/
theorem holdsK_of_R {α : Type} [Inhabited α] {d : Kd α} {enc : α → List Value} (hk : ∀ x, (enc x).length = d.sz) (hM : ∀ {w base ok} x cs, d.M w base ok x cs → cs = enc x) {w : World} {e base : Nat} {ok : Nat → Prop} {v : Value} {l : List α} (h : d.R e w base ok v l) :
    (v = .slice none 0 0 ∧ l = []) ∨ ∃ g c, v = .slice (some ⟨g, 0, none⟩) l.length c ∧ base ≤ g ∧ g < w.heap.size ∧ HoldsK enc d.sz w g 0 l.toArray := by
  obtain ⟨_, inner, ⟨h1, h2⟩, hr⟩ := h
  rcases h2 with ⟨rfl, h3⟩ | ⟨g, cap, cur, rfl, hb, hh, hc, hm, hs, hi⟩
  · exact .inl ⟨rfl, List.eq_nil_of_length_eq_zero h3⟩
  · refine .inr ⟨g, cap, rfl, hb, blk_lt hh, ?_⟩
    have hf := inner_flat hk (fun x cs => hM x cs) hr
    intro j hj
    rw [Nat.zero_add]
    refine ⟨?_, blk_frozen hh j⟩
    rw [blk_cell hh]
    have hj' : j < l.length * d.sz := by simpa using hj
    have e1 : inner[j]? = some ((flatK enc d.sz l.toArray)[j]!) := by
      rw [hf, flat_get?, if_pos (by simpa using hj'), get_flatK _ _ _ _ (by simpa using hj')]
    rw [← hi, List.getElem?_take, if_pos hj', Array.getElem?_toList] at e1
    exact e1
/-- .. and back: the row holds d', draws and new blocks behind it. -/
theorem R_of_sortK {α : Type} [Inhabited α] {d : Kd α} {enc : α → List Value} (hk : ∀ x, (enc x).length = d.sz) (hM : ∀ {w base ok} x cs, d.M w base ok x cs → cs = enc x) (hMk : ∀ {w base ok} x, d.M w base ok x (enc x)) {w : World} {e base : Nat} {ok : Nat → Prop} {g c : Nat} {l : List α} (h : d.R e w base ok (.slice (some ⟨g, 0, none⟩) l.length c) l) (n : Nat) (d' : Array α) (hd : d'.size = l.length) (os : Array Obj) :
    d.R e (sortWorldK enc d.sz w g 0 n d' os) base ok (.slice (some ⟨g, 0, none⟩) l.length c) d'.toList := by
  obtain ⟨h0, inner, ⟨h1, h2⟩, hr⟩ := h
  rcases h2 with ⟨h3, _⟩ | ⟨g', cap, cur, e1, hb, hh, hc, hm, hs, hi⟩
  · cases h3
  · obtain ⟨rfl, rfl⟩ : g = g' ∧ c = cap := by simpa using e1
    have hl : d'.toList.length = l.length := by simpa using hd
    refine ⟨h0, (flatK enc d.sz d').toList, ⟨by simp, .inr ⟨g, c, putCells id 0 (flatK enc d.sz d') cur, by rw [hl], hb, ?_, by rw [hl]; exact hc, hm, by simpa [putCells] using hs, ?_⟩⟩, by simp, fun j p hp => ?_⟩
    · have hlt : g < w.heap.size := blk_lt hh
      show ((putRowK enc d.sz (Sort.ahead w n) g 0 d').heap ++ os)[g]? = _
      have h5 : (putRowK enc d.sz (Sort.ahead w n) g 0 d').heap[g]? = some (.cells (putCells id 0 (flatK enc d.sz d') cur) e (0, 0)) := by
        show ((Sort.ahead w n).heap.modify g (onCells (putCells id 0 (flatK enc d.sz d'))))[g]? = _
        rw [Array.getElem?_modify, if_pos rfl]
        show Option.map _ (w.heap[g]?) = _
        rw [hh]
        rfl
      rw [Array.getElem?_append_left (Array.getElem?_eq_some_iff.1 h5).1, h5]
    · rw [hl]
      apply List.ext_getElem?
      intro t
      rw [List.getElem?_take]
      by_cases ht : t < l.length * d.sz
      · rw [if_pos ht, flat_get?, if_pos (by rw [hd]; exact ht)]
        have h6 : t < cur.size := by
          rw [hs]
          exact Nat.lt_of_lt_of_le ht (Nat.mul_le_mul_right _ hc)
        have h7 : t < (flatK enc d.sz d').size := by simp [hd]; exact ht
        simp only [putCells, Array.getElem?_toList, Array.getElem?_mapIdx, Array.getElem?_eq_getElem h6, Option.map_some, Nat.zero_le, true_and, Nat.zero_add, Nat.sub_zero]
        rw [if_pos h7, get_flatK _ _ _ _ (by rw [hd]; exact ht)]
        rfl
      · rw [if_neg ht, flat_get?, if_neg (by rw [hd]; exact ht)]
    · have hj : j < d'.size := by
        have := (List.getElem?_eq_some_iff.1 hp).1
        simpa using this
      rw [flat_seg enc d.sz hk d' j hj]
      have : d'[j]! = p := by
        rw [getElem!_pos _ j hj]
        have := (List.getElem?_eq_some_iff.1 hp).2
        simpa using this
      rw [this]
      exact hMk p
/-- What lay below the row stands behind the sort. -/
theorem below_sortK {α : Type} [Inhabited α] (enc : α → List Value) (k : Nat) {w0 w : World} {base g : Nat} (hb : Below base w0 w) (hg : base ≤ g) (hlt : g < w.heap.size) (n : Nat) (d' : Array α) (os : Array Obj) : Below base w0 (sortWorldK enc k w g 0 n d' os) := by
  have hsz : (putRowK enc k (Sort.ahead w n) g 0 d').heap.size = w.heap.size := by
    show ((Sort.ahead w n).heap.modify g _).size = _
    simp [Sort.ahead]
  refine ⟨hb.os, hb.tape, hb.output, ?_, fun i hi => ?_⟩
  · show w0.heap.size ≤ ((putRowK enc k (Sort.ahead w n) g 0 d').heap ++ os).size
    rw [Array.size_append, hsz]
    have := hb.size
    omega
  · rw [← hb.block i hi]
    show ((putRowK enc k (Sort.ahead w n) g 0 d').heap ++ os)[i]? = _
    rw [Array.getElem?_append_left (by rw [hsz]; have := hb.size; omega)]
    show ((Sort.ahead w n).heap.modify g _)[i]? = _
    rw [Array.getElem?_modify, if_neg (by omega)]
    rfl
end Go.Proofs.Ytgdojonkkfcaeaa.Q

/- slices.SortFunc of at most 12 labels by their names: what the code computes. -/
namespace Go.Proofs.Ytgdojonkkfcaeaa.Q
open Go.RowKit Go.Sort Go.Proofs.YtgdojonkkfcaeaaW.PrintWords Go.Proofs.YtgdojonkkfcaeaaW.PrintLast Go.Proofs.YtgdojonkkfcaeaaW.PrintMore
set_option linter.unusedVariables false
set_option linter.unusedSimpArgs false
instance : Inhabited S54 := ⟨z54⟩
def encLab (x : S54) : List Value := [.string x.f0, .string x.f1]
theorem lab_M {w : World} {base : Nat} {ok : Nat → Prop} (x : S54) (cs : List Value) (h : k54.M w base ok x cs) : cs = encLab x := k54_openM h
theorem lab_mk {w : World} {base : Nat} {ok : Nat → Prop} (x : S54) : k54.M w base ok x (encLab x) := k54_mkM w base ok x
def cmpLab (x y : S54) : Int := cmpS x.f0 y.f0
/-- The labels as the insertion sort lays them. -/
def sortLab (l : List S54) : List S54 := (Sort.insertionSort (ltOf cmpLab) l.toArray 0 l.toArray.size).toList
set_option maxHeartbeats 1000000 in
theorem new_cmp (x y : S54) (W : World) : Calls Try.prog 75 #[.agg (encLab x).toArray, .agg (encLab y).toArray] W fun e w' => e = .returned (.int .i64 (cmpLab x y)) ∧ ∃ q os', w' = Sort.grow (W.drewN q) os' := by
  have hcon := fun W' => cmp_string x.f0 y.f0 W'
  show Calls Try.prog 75 #[.agg #[.string x.f0, .string x.f1], .agg #[.string y.f0, .string y.f1]] W _
  unfold cmpLab
  generalize cmpS x.f0 y.f0 = r at hcon ⊢
  have hu := Try.underlying54
  go_enter Try.func75, Try.ntmps75
  go_wp2_with (go_at_call 50; refine (hcon _).mono ?_; rintro e w' ⟨rfl, rfl⟩)
  go_ret
  exact ⟨rfl, 0, _, by rw [alloc_eq_grow, alloc_eq_grow, grow_grow]; rfl⟩
theorem hlenL (n : Nat) (W : World) (h : n ≤ 12) : Calls Try.prog 60 #[.int .u64 n] W fun e w' => (∃ l : Int, e = .returned (.int .i64 l)) ∧ w' = W :=
  (Any.bits_Len Try.bitsLen n W (by omega) (by omega)).mono fun _ _ ⟨he, hw⟩ => ⟨⟨_, he⟩, hw⟩
theorem ltLab (x y : S54) : ltOf cmpLab x y = decide (x.f0.data.toList < y.f0.data.toList) := by
  unfold ltOf cmpLab cmpS
  rw [Lib.toList_data, Lib.toList_data, Proofs.bytesLess_eq]
  by_cases h : x.f0.data.toList < y.f0.data.toList
  · simp [h]
  · simp only [h, decide_false, Bool.false_eq_true, if_false]
    by_cases h2 : (x.f0.data.toList == y.f0.data.toList) = true
    · rw [if_pos h2]; rfl
    · rw [if_neg h2]; rfl
theorem swoLab : SWO (ltOf cmpLab) where
  irrefl x := by rw [ltLab]; exact decide_eq_false (List.lt_irrefl _)
  trans x y z h1 h2 := by
    rw [ltLab, decide_eq_true_eq] at *
    exact List.lt_trans h1 h2
  ntrans x y z h1 h2 := by
    rw [ltLab, decide_eq_false_iff_not] at *
    rw [List.not_lt] at *
    exact List.le_trans h2 h1
theorem sortLab_size (l : List S54) : (Sort.insertionSort (ltOf cmpLab) l.toArray 0 l.toArray.size).size = l.length := by
  have h := (insertionSort_holds (lt := ltOf cmpLab) swoLab l.toArray 0 l.toArray.size (Nat.zero_le _) (Nat.le_refl _)).1.1
  rw [h]
  simp
set_option maxHeartbeats 4000000 in
set_option maxRecDepth 100000 in
theorem ins_none (W : World) : Calls Try.prog 101 #[.slice none 0 0, .int .i64 0, .int .i64 0, .func (.func 75) #[] #[]] W fun e w' => e = .returned (.tuple #[]) ∧ w' = W := by
  go_enter Try.func101, Try.ntmps101
  go_wp2
  refine wp_loop_rounds 1 ?_
  rw [rounds_succ]
  go_wp2
  go_end0
  exact ⟨rfl, rfl⟩
set_option maxHeartbeats 4000000 in
set_option maxRecDepth 100000 in
theorem pdq_none (l : Int) (W : World) : Calls Try.prog 92 #[.slice none 0 0, .int .i64 0, .int .i64 0, .int .i64 l, .func (.func 75) #[] #[]] W fun e w' => e = .returned (.tuple #[]) ∧ w' = W := by
  go_enter Try.func92, Try.ntmps92
  go_wp2
  refine wp_loop_rounds 1 ?_
  rw [rounds_succ]
  go_wp2_with (go_at_call 101; refine (ins_none _).mono ?_; rintro e w' ⟨rfl, rfl⟩)
  (try simp only [Exit.inBlock, Exit.then]); refine bodyPost_ret (results_none rfl _ _ _) rfl ?_
  exact ⟨rfl, rfl⟩
set_option maxHeartbeats 4000000 in
set_option maxRecDepth 100000 in
theorem sort_lab (v : Value) (l : List S54) (w0 w : World) (base : Nat) (ok : Nat → Prop) (HO : Kd.R k54 54 w base ok v l) (HB : Below base w0 w) (h12 : l.length ≤ 12) :
    Calls Try.prog 74 #[v, .func (.func 75) #[] #[]] w fun e w' => e = .returned (.tuple #[]) ∧ Kd.R k54 54 w' base ok v (sortLab l) ∧ Below base w0 w' := by
  rcases holdsK_of_R (fun _ => rfl) lab_M HO with ⟨rfl, rfl⟩ | ⟨g, c, rfl, hg, hlt, hH⟩
  · go_enter Try.func74, Try.ntmps74
    go_wp2_with (first | (go_at_call 60; refine (hlenL 0 _ (by omega)).mono ?_; rintro e w' ⟨⟨l, rfl⟩, rfl⟩) | (go_at_call 92; refine (pdq_none _ _).mono ?_; rintro e w' ⟨rfl, rfl⟩))
    go_end0
    have e : sortLab [] = [] := List.eq_nil_of_length_eq_zero (by unfold sortLab; rw [Array.length_toList, sortLab_size]; rfl)
    exact ⟨rfl, by rw [e]; exact HO, HB⟩
  · have eg : ∀ args w, (callFunc 75 args).run Try.prog w = .ok (.enter 75 args) w := enters_of Try.func75 (by kernel_rfl) rfl
    have hcon := AnyQ.slices_SortFunc_small Try.sortLab 2 Try.isAgg54 Try.sizeOf54 encLab (fun _ => rfl) (fun x v hv => by simp [encLab] at hv; rcases hv with rfl | rfl <;> rfl) cmpLab 75 #[] g 0 c l.toArray w eg (fun _ _ _ _ x y => new_cmp x y _) hH hlt (by simpa using h12) hlenL
    have hcon2 : Calls Try.prog 74 #[.slice (some ⟨g, 0, none⟩) l.length c, .func (.func 75) #[] #[]] w _ := hcon
    refine hcon2.mono ?_
    rintro e w' ⟨rfl, n, os, rfl⟩
    refine ⟨rfl, R_of_sortK (d := k54) (enc := encLab) (fun _ => rfl) lab_M lab_mk HO n _ ?_ os, below_sortK encLab 2 HB hg hlt n _ os⟩
    exact sortLab_size l
end Go.Proofs.Ytgdojonkkfcaeaa.Q

/- labels.New: what it computes, and that the code computes it. -/
namespace Go.Proofs.Ytgdojonkkfcaeaa.Q
open Go.RowKit Go.Proofs.YtgdojonkkfcaeaaW.PrintWords Go.Proofs.YtgdojonkkfcaeaaW.PrintLast Go.Proofs.YtgdojonkkfcaeaaW.PrintMore
set_option linter.unusedVariables false
set_option linter.unusedSimpArgs false
/-- What is wrong with label i: 8, 1, 10 or 0: nothing. -/
def newErrAt (l : List S54) (i : Int) : Int :=
  if nameB (rd_T54 l i).f0 = false then 8 else if (rd_T54 l i).f1.size = 0 then 1 else if valueB (rd_T54 l i).f1 = false then 1 else if hasN (l.take i.toNat) (rd_T54 l i) = true then 10 else 0
/-- The first thing that is wrong from label i on. -/
def newErr (l : List S54) : Nat → Int → Int
  | 0, _ => 0
  | d + 1, i => if newErrAt l i = 0 then newErr l d (i + 1) else newErrAt l i
def labels_New.f (l0 : List S54) : Option (List S54 × Int) :=
  if 8 < l0.length then some ([], 4) else if newErr l0 l0.length 0 = 0 then some (sortLab l0, 0) else some ([], newErr l0 l0.length 0)
theorem newErrAt_eq (l : List S54) (i : Int) (x : S54) (hx : rd_T54 l i = x) : newErrAt l i = if nameB x.f0 = false then 8 else if x.f1.size = 0 then 1 else if valueB x.f1 = false then 1 else if hasN (l.take i.toNat) x = true then 10 else 0 := by
  subst hx
  rfl
theorem newErr_here {l : List S54} {i : Int} (h0 : 0 ≤ i) (h : i < l.length) : newErr l (l.length - i.toNat) i = if newErrAt l i = 0 then newErr l (l.length - (i + 1).toNat) (i + 1) else newErrAt l i := by
  have e : l.length - i.toNat = (l.length - (i + 1).toNat) + 1 := by omega
  rw [e]
  rfl
theorem fin_err {l r1 : List S54} {r2 e i : Int} (h0 : 0 ≤ i) (h : i < l.length) (HN : newErr l l.length 0 = newErr l (l.length - i.toNat) i) (hE : newErrAt l i = e) (he : e ≠ 0)
    (HH : (if newErr l l.length 0 = 0 then some (sortLab l, (0 : Int)) else some ([], newErr l l.length 0)) = some (r1, r2)) : r1 = [] ∧ r2 = e := by
  rw [HN, newErr_here h0 h, hE, if_neg he, if_neg he] at HH
  obtain ⟨rfl, rfl⟩ := Prod.mk.inj (Option.some.inj HH)
  exact ⟨rfl, rfl⟩
theorem step_err {l : List S54} {i : Int} (h0 : 0 ≤ i) (h : i < l.length) (HN : newErr l l.length 0 = newErr l (l.length - i.toNat) i) (hE : newErrAt l i = 0) : newErr l l.length 0 = newErr l (l.length - (i + 1).toNat) (i + 1) := by
  rw [HN, newErr_here h0 h, if_pos hE]
theorem fin_ok {l r1 : List S54} {r2 i : Int} (h0 : 0 ≤ i) (h : ¬ i < l.length) (HN : newErr l l.length 0 = newErr l (l.length - i.toNat) i)
    (HH : (if newErr l l.length 0 = 0 then some (sortLab l, (0 : Int)) else some ([], newErr l l.length 0)) = some (r1, r2)) : r1 = sortLab l ∧ r2 = 0 := by
  have e : l.length - i.toNat = 0 := by omega
  have e2 : newErr l l.length 0 = 0 := by rw [HN, e]; rfl
  rw [if_pos e2] at HH
  obtain ⟨rfl, rfl⟩ := Prod.mk.inj (Option.some.inj HH)
  exact ⟨rfl, rfl⟩
theorem C_take {w : World} {A : Option Addr} {xs : List S54} (h : Kd.C k54 w A xs.length xs) (i : Nat) (hi : i ≤ xs.length) : Kd.C k54 w A (xs.take i).length (xs.take i) := by
  have hl : (xs.take i).length = i := by rw [List.length_take]; omega
  refine ⟨rfl, by have := h.2.1; omega, fun hp => ?_⟩
  obtain ⟨ad, e, hc⟩ := h.2.2 (by omega)
  refine ⟨ad, e, fun j p hj => hc j p ?_⟩
  rw [List.getElem?_take] at hj
  split at hj
  · exact hj
  · cases hj
set_option maxHeartbeats 16000000 in
set_option maxRecDepth 100000 in
theorem labels_New.calls (A0 : Option Addr) (c0 : Nat) (l0 : List S54) (r1 : List S54) (r2 : Int) (w : World) (hr0 : Kd.C k54 w A0 l0.length l0) (hc0 : l0.length ≤ c0) (h : labels_New.f l0 = some (r1, r2)) :
    Calls Try.prog 56 #[.slice A0 l0.length c0] w fun e w' => ∃ v0_ : Value, e = .returned (.tuple #[v0_, .int .i64 r2]) ∧ Kd.R k54 54 w' w.heap.size (fun _ => True) v0_ r1 ∧ Below w.heap.size w w' := by
  have hu := Try.underlying54
  unfold labels_New.f at h
  by_cases h8 : 8 < l0.length
  · rw [if_pos h8] at h
    obtain ⟨rfl, rfl⟩ := Prod.mk.inj (Option.some.inj h)
    have hb : decide ((8 : Int) < (l0.length : Int)) = true := decide_eq_true (by omega)
    clear h h8 hr0 hc0
    go_enter Try.func56, Try.ntmps56
    go_wp2
    go_ret2
    exact ⟨_, rfl, Kd.R_nil _ _ _ _ _, Below.refl _ _⟩
  rw [if_neg h8] at h
  have HR := Aside0.mk hr0
  have HC := Aside0.mk hc0
  have H8 := Aside0.mk h8
  have hb8 : decide ((8 : Int) < (l0.length : Int)) = false := decide_eq_false (by omega)
  have HH := Aside0.mk h
  clear h h8 hr0 hc0
  go_enter Try.func56, Try.ntmps56
  go_wp2
  go_loopw [12] (fun v12 w' => ∃ i : Int, v12 = .int .i64 i ∧ 0 ≤ i ∧ i ≤ l0.length ∧ Aside0 (newErr l0 l0.length 0 = newErr l0 (l0.length - i.toNat) i) ∧ Aside0 (Below w.heap.size w w')) (fun v12 _ => l0.length - (intOf v12).toNat)
  case atStart => exact ⟨0, rfl, Int.le_refl _, by omega, ⟨rfl⟩, ⟨Below.refl _ _⟩⟩
  case round =>
    obtain ⟨i, rfl, hi0, hi, HN, HB⟩ := hrel
    have HI := Aside0.mk hi
    have hi1 : i ≤ 8 := by have := H8.out; omega
    by_cases hlt : i < l0.length
    · have hltb : decide (i < (l0.length : Int)) = true := decide_eq_true hlt
      have HRr := Kd.C_below HR.out HB.out
      obtain ⟨ad, e0, hx0, hx1⟩ := at_T54 HRr i hi0 hlt
      subst e0
      clear HRr
      have HLT := Aside0.mk hlt
      have p0 := eq_true hi0
      have q0 := eq_true hlt
      clear hlt hi
      generalize hx : rd_T54 l0 i = x at hx0 hx1
      have HE := Aside0.mk (newErrAt_eq l0 i x hx)
      clear hx
      have HB1 : ∀ {w1 : World}, Below (wr.alloc (.cells #[.string x.f0, .string x.f1] 54)).heap.size (wr.alloc (.cells #[.string x.f0, .string x.f1] 54)) w1 → Below w.heap.size w w1 := fun hb => below_then (below_alloc HB.out _) (below_alloc HB.out _).size hb
      have HK1 : ∀ {w1 : World}, Below (wr.alloc (.cells #[.string x.f0, .string x.f1] 54)).heap.size (wr.alloc (.cells #[.string x.f0, .string x.f1] 54)) w1 → w1.heap[wr.heap.size]? = some (.cells #[.string x.f0, .string x.f1] 54 (0, 0)) := fun hb => blk_below (blk_new _ _) hb
      have HB1 := Aside0.mk @HB1
      have HK1 := Aside0.mk @HK1
      cases hn : nameB x.f0 with
      | false =>
        have C1 := fun W => labels_Name.calls x.f0 false W (by unfold labels_Name.f; rw [hn])
        have HF := Aside0.mk (fin_err hi0 HLT.out HN.out (show newErrAt l0 i = 8 by rw [HE.out, if_pos hn]) (by decide) HH.out)
        clear HE hn
        go_wp2_with (go_at_call 61; refine (C1 _).mono ?_; rintro e w1 ⟨rfl, hb⟩; have HB2 := Aside0.mk (HB1.out hb); clear hb)
        go_ret2
        obtain ⟨rfl, rfl⟩ := HF.out
        exact ⟨_, rfl, Kd.R_nil _ _ _ _ _, HB2.out⟩
      | true =>
        have C1 := fun W => labels_Name.calls x.f0 true W (by unfold labels_Name.f; rw [hn])
        have hnn : ¬ nameB x.f0 = false := by rw [hn]; decide
        by_cases hz : x.f1.size = 0
        · have e0 : x.f1.toList = [] := by
            rw [Lib.toList_data]
            exact List.eq_nil_of_length_eq_zero (by simpa using hz)
          have HF := Aside0.mk (fin_err hi0 HLT.out HN.out (show newErrAt l0 i = 1 by rw [HE.out, if_neg hnn, if_pos hz]) (by decide) HH.out)
          clear HE hn hnn hz
          go_wp2_with (go_at_call 61; refine (C1 _).mono ?_; rintro e w1 ⟨rfl, hb⟩; have HB2 := Aside0.mk (HB1.out hb); have hz1 := (blk_cell (HK1.out hb) 1).trans rfl; clear hb)
          go_ret2
          obtain ⟨rfl, rfl⟩ := HF.out
          exact ⟨_, rfl, Kd.R_nil _ _ _ _ _, HB2.out⟩
        · have hne : x.f1.toList.isEmpty = false := by
            rw [Lib.toList_data]
            cases hd : x.f1.data.toList with
            | nil => exact absurd (by simpa using congrArg List.length hd) hz
            | cons => rfl
          cases hv : valueB x.f1 with
          | false =>
            have C2 := fun W => labels_Value.calls x.f1 false W (by unfold labels_Value.f; rw [hv])
            have HF := Aside0.mk (fin_err hi0 HLT.out HN.out (show newErrAt l0 i = 1 by rw [HE.out, if_neg hnn, if_neg hz, if_pos hv]) (by decide) HH.out)
            clear HE hn hnn hz hv
            go_wp2_with (first | (go_at_call 61; refine (C1 _).mono ?_; rintro e w1 ⟨rfl, hb⟩; have HB2 := Aside0.mk (HB1.out hb); have hz1 := (blk_cell (HK1.out hb) 1).trans rfl; clear hb) | (go_at_call 71; refine (C2 _).mono ?_; rintro e w2 ⟨rfl, hb⟩; have HB3 := Aside0.mk (below_then HB2.out HB2.out.size hb); clear hb hz1))
            go_ret2
            obtain ⟨rfl, rfl⟩ := HF.out
            exact ⟨_, rfl, Kd.R_nil _ _ _ _ _, HB3.out⟩
          | true =>
            have C2 := fun W => labels_Value.calls x.f1 true W (by unfold labels_Value.f; rw [hv])
            have hvv : ¬ valueB x.f1 = false := by rw [hv]; decide
            have C3 := fun W h1 h2 => new_has (some ad) c0 (l0.take i.toNat) x wr.heap.size W h1 (by rw [List.length_take]; have := H8.out; omega) h2
            have hl : (l0.take i.toNat).length = i.toNat := by rw [List.length_take]; have := HLT.out; omega
            rw [hl] at C3
            have HT0 := C_take HR.out i.toNat (by have := HLT.out; omega)
            rw [hl] at HT0
            have HT := Aside0.mk HT0
            clear HT0
            clear hl
            have hic1 : i ≤ (c0 : Int) := by have := HLT.out; have := HC.out; omega
            have hic2 : i.toNat ≤ c0 := by omega
            cases hh : hasN (l0.take i.toNat) x with
            | true =>
              have HF := Aside0.mk (fin_err hi0 HLT.out HN.out (show newErrAt l0 i = 10 by rw [HE.out, if_neg hnn, if_neg hz, if_neg hvv, if_pos hh]) (by decide) HH.out)
              rw [hh] at C3
              clear HE hn hnn hz hv hvv hh
              go_wp2_with (first | (go_at_call 61; refine (C1 _).mono ?_; rintro e w1 ⟨rfl, hb⟩; have HB2 := Aside0.mk (HB1.out hb); have HK2 := Aside0.mk (HK1.out hb); have hz1 := (blk_cell HK2.out 1).trans rfl; clear hb) | (go_at_call 71; refine (C2 _).mono ?_; rintro e w2 ⟨rfl, hb⟩; have HB3 := Aside0.mk (below_then HB2.out HB2.out.size hb); have HK3 := Aside0.mk (blk_below HK2.out hb); clear hb hz1) | (go_at_call 72; refine (C3 _ (Kd.C_below HT.out HB3.out) HK3.out).mono ?_; rintro e w3 ⟨rfl, hb⟩; have HB4 := Aside0.mk (below_then HB3.out HB3.out.size hb); clear hb))
              go_ret2
              obtain ⟨rfl, rfl⟩ := HF.out
              exact ⟨_, rfl, Kd.R_nil _ _ _ _ _, HB4.out⟩
            | false =>
              have HS := Aside0.mk (step_err hi0 HLT.out HN.out (show newErrAt l0 i = 0 by rw [HE.out, if_neg hnn, if_neg hz, if_neg hvv, if_neg (by rw [hh]; decide)]))
              rw [hh] at C3
              clear HE hn hnn hz hv hvv hh
              go_wp2_with (first | (go_at_call 61; refine (C1 _).mono ?_; rintro e w1 ⟨rfl, hb⟩; have HB2 := Aside0.mk (HB1.out hb); have HK2 := Aside0.mk (HK1.out hb); have hz1 := (blk_cell HK2.out 1).trans rfl; clear hb) | (go_at_call 71; refine (C2 _).mono ?_; rintro e w2 ⟨rfl, hb⟩; have HB3 := Aside0.mk (below_then HB2.out HB2.out.size hb); have HK3 := Aside0.mk (blk_below HK2.out hb); clear hb hz1) | (go_at_call 72; refine (C3 _ (Kd.C_below HT.out HB3.out) HK3.out).mono ?_; rintro e w3 ⟨rfl, hb⟩; have HB4 := Aside0.mk (below_then HB3.out HB3.out.size hb); clear hb))
              go_roundw
              case rel => exact ⟨i + 1, rfl, by omega, by have := HLT.out; omega, HS, HB4⟩
              case measure => have := HLT.out; simp [intOf]; omega
    · have hltb : decide (i < (l0.length : Int)) = false := decide_eq_false hlt
      obtain ⟨rfl, rfl⟩ := fin_ok hi0 hlt HN.out HH.out
      have CC := fun W h => clone_lab A0 c0 l0 W h (by have := H8.out; omega)
      clear hlt hi
      go_wp2_with (first | (go_at_call 37; refine (CC _ (Kd.C_below HR.out HB.out)).mono ?_; rintro e w1 ⟨v, rfl, ho, hb⟩; have HO1 := Aside0.mk (Kd.R_lower ho HB.out.size); have HB2 := Aside0.mk (below_then HB.out HB.out.size hb); clear ho hb) | (go_at_call 74; refine (sort_lab _ l0 w _ w.heap.size (fun _ => True) HO1.out HB2.out (by have := H8.out; omega)).mono ?_; rintro e w2 ⟨rfl, ho, hb⟩; have HO2 := Aside0.mk ho; have HB3 := Aside0.mk hb; clear ho hb))
      go_ret2
      exact ⟨_, rfl, HO2.out, HB3.out⟩
end Go.Proofs.Ytgdojonkkfcaeaa.Q
