/- labels.Value: what it computes, and that the code computes it. -/
import Derived.Test.YtbbddeilbcpmiaaDoorQ0
import Derived.Test.YtbbddeilbcpmiaaDoorShelf
import Derived.Test.YtbbddeilbcpmiaaDoorMLabelsName
import Derived.Outline
namespace Go.Proofs.YtbbddeilbcpmiaaDoor.Q
open Go.RowKit Go.Proofs.YtbbddeilbcpmiaaDoorW.PrintWords Go.Proofs.YtbbddeilbcpmiaaDoorW.PrintLast Go.Proofs.YtbbddeilbcpmiaaDoorW.PrintMore
set_option linter.unusedVariables false
set_option linter.unusedSimpArgs false
/-- May the byte c stand in a value? -/
def vlC (c : Int) : Bool := decide (32 < c) && decide (c ≤ 126) && !(decide (c = 34) || decide (c = 92) || decide (c = 44) || decide (c = 123) || decide (c = 125))
def vlTo (s : ByteArray) (n : Nat) : Bool := (List.range n).all fun i => vlC (bt s i)
def valueB (s : ByteArray) : Bool := decide (s.size ≤ 16) && vlTo s s.size
def labels_Value.f (a0 : ByteArray) : Option Bool := some (valueB a0)
theorem vlTo_succ (s : ByteArray) (n : Nat) : vlTo s (n + 1) = (vlTo s n && vlC (bt s n)) := by
  unfold vlTo
  rw [List.range_succ, List.all_append]
  simp
theorem vlTo_false (s : ByteArray) (n m : Nat) (h : n < m) (hc : vlC (bt s n) = false) : vlTo s m = false := by
  unfold vlTo
  rw [List.all_eq_false]
  exact ⟨n, List.mem_range.2 h, by simp [hc]⟩
theorem vlC_high (c : Int) (h : 128 ≤ c) : vlC c = false := by
  unfold vlC
  rw [decide_eq_false (show ¬ c ≤ 126 by omega)]
  simp
theorem rune_atV (s : ByteArray) (p : Nat) (h : p < s.size) : vlC (Utf8.decode s p).1 = vlC (bt s p) ∧ ((bt s p : Int) < 128 → (Utf8.decode s p).2 = 1) ∧ 0 ≤ ((Utf8.decode s p).1 : Int) ∧ ((Utf8.decode s p).1 : Int) ≤ 2147483647 := by
  have e : bt s p = ((s[p]'h).toNat : Int) := by unfold bt; simp [h]
  refine ⟨?_, ?_, by omega, by have := decode_le s p; omega⟩
  · by_cases ha : (s[p]'h).toNat < 128
    · rw [decode_ascii s p h ha, e]
    · rw [vlC_high (bt s p) (by omega), vlC_high _ (by have := (decode_high s p h (by omega)).1; omega)]
  · intro hb
    rw [decode_ascii s p h (by omega)]
theorem vlC_lt (c : Int) (h : vlC c = true) : c < 128 := by
  apply Decidable.byContradiction
  intro hn
  rw [vlC_high c (by omega)] at h
  exact absurd h (by simp)
/-- The bytes that a value does not contain. -/
def resS : ByteArray := ⟨#[34, 92, 44, 123, 125]⟩
theorem res_has (c : Nat) (h0 : 32 < c) (h1 : c ≤ 126) : decide (0 ≤ Lib.indexByte resS.data.toList ((c : Int).toNat.toUInt8)) = !(vlC c) := by
  have : ∀ c : Fin 127, 32 < c.val → decide (0 ≤ Lib.indexByte resS.data.toList ((c.val : Int).toNat.toUInt8)) = !(vlC c.val) := by decide +kernel
  exact this ⟨c, by omega⟩ h0
theorem vl_no (c : Int) (h : vlC c = false) : c ≤ 32 ∨ 126 < c ∨ (32 < c ∧ c ≤ 126) := by omega
set_option maxHeartbeats 8000000 in
set_option maxRecDepth 100000 in
theorem labels_Value.calls (a0 : ByteArray) (r : Bool) (w : World) (h : labels_Value.f a0 = some r) :
    Calls Tryd.prog 78 #[.string a0] w fun e w' => e = .returned (.bool r) ∧ Below w.heap.size w w' := by
  obtain rfl : valueB a0 = r := Option.some.inj h
  clear h
  by_cases h1 : 16 < a0.size
  · have e1 : valueB a0 = false := by unfold valueB; rw [decide_eq_false (show ¬ a0.size ≤ 16 by omega)]; simp
    rw [e1]
    clear e1
    have h1b : decide ((16 : Int) < (a0.size : Int)) = true := decide_eq_true (by omega)
    clear h1
    go_enter Tryd.func78, Tryd.ntmps78
    go_wp2
    go_ret
    exact ⟨rfl, Below.refl _ _⟩
  have hn1 : ¬ 16 < a0.size := h1
  have e1 : valueB a0 = vlTo a0 a0.size := by
    unfold valueB
    rw [decide_eq_true (show a0.size ≤ 16 by omega)]
    rfl
  rw [e1]
  have h1b : decide ((16 : Int) < (a0.size : Int)) = false := decide_eq_false (by omega)
  clear e1 h1 hn1
  go_enter Tryd.func78, Tryd.ntmps78
  go_wp2
  go_loopw [2] (fun v2 w' => ∃ pos : Nat, v2 = .bool false ∧ w' = w.iter a0 pos ∧ pos ≤ a0.size ∧ Aside0 (vlTo a0 pos = true)) (fun _ w' => a0.size - w'.iterPos w.heap.size)
  case atStart => exact ⟨0, rfl, rfl, Nat.zero_le _, ⟨rfl⟩⟩
  case round =>
    obtain ⟨pos, rfl, rfl, hple, HT⟩ := hrel
    by_cases hp : pos < a0.size
    · have hnx : ∀ ty, (Instr.next (.pointer (some ⟨w.heap.size, 0, none⟩)) true ty).run Tryd.prog (w.iter a0 pos) = _ := fun ty => run_next_any w a0 pos ty hp
      have HR := Aside0.mk (rune_atV a0 pos hp)
      generalize hc : (Utf8.decode a0 pos).1 = c at hnx HR
      generalize hd : (Utf8.decode a0 pos).2 = d at hnx HR
      clear hc hd
      have hc0 : 0 ≤ (c : Int) := HR.out.2.2.1
      have hc1 : (c : Int) ≤ 2147483647 := HR.out.2.2.2
      by_cases x1 : (c : Int) ≤ 32
      · have HF := Aside0.mk (show vlTo a0 a0.size = false from vlTo_false a0 pos _ hp (by rw [← HR.out.1]; unfold vlC; rw [decide_eq_false (show ¬ 32 < (c : Int) by omega)]; rfl))
        have y1 : decide ((c : Int) ≤ 32) = true := decide_eq_true x1
        clear HR HT hple hp x1
        go_wp2
        all_goals go_ret
        all_goals exact ⟨congrArg (fun b => Ending.returned (Value.bool b)) HF.out.symm, (Below.refl _ _).alloc (Nat.le_refl _) _⟩
      by_cases x2 : 126 < (c : Int)
      · have HF := Aside0.mk (show vlTo a0 a0.size = false from vlTo_false a0 pos _ hp (by rw [← HR.out.1]; unfold vlC; rw [decide_eq_false (show ¬ (c : Int) ≤ 126 by omega)]; simp))
        have y1 : decide ((c : Int) ≤ 32) = false := decide_eq_false x1
        have y2 : decide (126 < (c : Int)) = true := decide_eq_true x2
        clear HR HT hple hp x1 x2
        go_wp2
        all_goals go_ret
        all_goals exact ⟨congrArg (fun b => Ending.returned (Value.bool b)) HF.out.symm, (Below.refl _ _).alloc (Nat.le_refl _) _⟩
      have y1 : decide ((c : Int) ≤ 32) = false := decide_eq_false x1
      have y2 : decide (126 < (c : Int)) = false := decide_eq_false x2
      have CR := fun W => Tryd.strings_ContainsRune_ascii resS c W hc0 (by omega)
      rw [res_has c (by omega) (by omega)] at CR
      cases hq : vlC c with
      | true =>
        have hb : vlC (bt a0 pos) = true := by rw [← HR.out.1]; exact hq
        obtain rfl : d = 1 := HR.out.2.1 (vlC_lt _ hb)
        have HN1 := Aside0.mk (show vlTo a0 (pos + 1) = true by rw [vlTo_succ, HT.out, hb]; rfl)
        have HP := Aside0.mk hp
        rw [hq] at CR
        clear HR hb HT hple hp hq x1 x2
        go_wp2_with (go_at_call 99; refine (CR _).mono ?_; rintro e w' ⟨rfl, rfl⟩)
        all_goals
          go_roundw
          case rel => exact ⟨pos + 1, rfl, rfl, by have := HP.out; omega, HN1⟩
          case measure => have := HP.out; simp; omega
      | false =>
        have HF := Aside0.mk (show vlTo a0 a0.size = false from vlTo_false a0 pos _ hp (by rw [← HR.out.1]; exact hq))
        rw [hq] at CR
        clear HR HT hple hp hq x1 x2
        go_wp2_with (go_at_call 99; refine (CR _).mono ?_; rintro e w' ⟨rfl, rfl⟩)
        all_goals go_ret
        all_goals exact ⟨congrArg (fun b => Ending.returned (Value.bool b)) HF.out.symm, (Below.refl _ _).alloc (Nat.le_refl _) _⟩
    · have hnx : ∀ ty, (Instr.next (.pointer (some ⟨w.heap.size, 0, none⟩)) true ty).run Tryd.prog (w.iter a0 pos) = _ := fun ty => run_next_end w a0 pos ty hp
      obtain rfl : pos = a0.size := by omega
      clear hp hple
      go_wp2
      go_ret
      exact ⟨congrArg (fun b => Ending.returned (Value.bool b)) HT.out.symm, (Below.refl _ _).alloc (Nat.le_refl _) _⟩
end Go.Proofs.YtbbddeilbcpmiaaDoor.Q
