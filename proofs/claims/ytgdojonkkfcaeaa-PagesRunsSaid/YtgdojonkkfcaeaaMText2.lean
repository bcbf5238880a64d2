/- labels.Text: its walk. -/
import Derived.Test.YtgdojonkkfcaeaaMText
namespace Go.Proofs.Ytgdojonkkfcaeaa.Q
open Go.RowKit Go.Proofs.YtgdojonkkfcaeaaW.PrintWords Go.Proofs.YtgdojonkkfcaeaaW.PrintLast Go.Proofs.YtgdojonkkfcaeaaW.PrintMore
set_option linter.unusedVariables false
set_option linter.unusedSimpArgs false
namespace tx
theorem fresh (w : World) : Lib.IsBuilder 90 5 w.heap.size w.heap.size [] (w.alloc (.cells #[.pointer none, .slice none 0 0] 90)) :=
  .inl ⟨Nat.le_refl _, _, heap_alloc_new w _, World.ownsRow_nil _ _ _ _, by simp [Value.ownBlock]⟩
set_option maxHeartbeats 4000000 in
set_option maxRecDepth 100000 in
theorem text (A : Option Addr) (c : Nat) (l : List S54) (w : World) (hr : Kd.C k54 w A l.length l) (hc : l.length ≤ c) (h8 : l.length ≤ 8) (hx : ∀ x ∈ l, x.f0.size ≤ 16 ∧ x.f1.size ≤ 16) :
    Calls Try.prog 32 #[.slice A l.length c] w fun e w' => e = .returned (.string (textB l)) ∧ Below w.heap.size w w' := by
  have HR := Lib.hid hr
  have HX := Lib.hid hx
  have HF := Lib.hid (fresh w)
  have HB0 := Lib.hid (below_alloc (Below.refl w.heap.size w) (.cells #[.pointer none, .slice none 0 0] 90))
  have HL := Lib.hid (len_tx l hx l.length (Nat.le_refl _))
  have u54 := run_underlying Try.underlying54
  have hlc : (l.length : Int) ≤ 8 := by omega
  clear hr hx hc
  go_enter Try.func32, Try.ntmps32
  go_wp2_with fail
  go_loopw [8] (fun v8 w' => ∃ i : Int, v8 = .int .i64 i ∧ 0 ≤ i ∧ i ≤ l.length ∧ Hid (Lib.IsBuilder 90 5 w.heap.size w.heap.size (Lib.byteCells (txTo l i.toNat)) w') ∧ Hid (Below w.heap.size w w')) (fun v8 _ => l.length - (intOf v8).toNat)
  case atStart => exact ⟨0, rfl, Int.le_refl _, by omega, HF, HB0⟩
  case round =>
    obtain ⟨i, rfl, hi0, hi, HD, HB⟩ := hrel
    have hi8 : i ≤ 8 := by omega
    have HI := Lib.hid hi
    have HLB := Lib.hid (show w.heap.size < wr.heap.size from by rcases HD.out with h | h <;> exact h.lt)
    by_cases hlt : i < l.length
    · have hltb : decide (i < (l.length : Int)) = true := decide_eq_true hlt
      have HLT := Lib.hid hlt
      have hm : rd_T54 l i ∈ l := by
        have h := rd_mem (l := l) (k := i.toNat) (by omega)
        rwa [Int.toNat_of_nonneg hi0] at h
      have HXk := Lib.hid (HX.out _ hm)
      have HE := Lib.hid (size_el _ HXk.out.1 HXk.out.2)
      have HKL := Lib.hid (len_tx l HX.out i.toNat (by omega))
      obtain ⟨ad, e0, hx0, hx1⟩ := at_T54 (Kd.C_below HR.out HB.out) i hi0 hlt
      subst e0
      have p0 := eq_true hi0
      have q0 := eq_true hlt
      have hA1 : ∀ W, (Op.stringOp .add (rd_T54 l i).f0 ⟨#[61, 34]⟩).run Try.prog W = .ok (.string ((rd_T54 l i).f0 ++ ⟨#[61, 34]⟩)) W := fun W => run_string_add_sum W _ _ (by have := HXk.out.1; show _ + 2 ≤ _; omega)
      have hA2 : ∀ W, (Op.stringOp .add ((rd_T54 l i).f0 ++ ⟨#[61, 34]⟩) (rd_T54 l i).f1).run Try.prog W = .ok (.string ((rd_T54 l i).f0 ++ ⟨#[61, 34]⟩ ++ (rd_T54 l i).f1)) W := fun W => run_string_add_sum W _ _ (by have := HXk.out; rw [ByteArray.size_append]; show _ + 2 + _ ≤ _; omega)
      have hA3 : ∀ W, (Op.stringOp .add ((rd_T54 l i).f0 ++ ⟨#[61, 34]⟩ ++ (rd_T54 l i).f1) ⟨#[34]⟩).run Try.prog W = .ok (.string (el (rd_T54 l i))) W := fun W => run_string_add_sum W _ _ (by have := HXk.out; rw [ByteArray.size_append, ByteArray.size_append]; show _ + 2 + _ + 1 ≤ _; omega)
      have BX := Lib.hid (heap_alloc_new wr (.cells #[.string (rd_T54 l i).f0, .string (rd_T54 l i).f1] 54))
      have HDa := Lib.hid (isb_below HD.out (below_alloc (Below.refl _ _) (.cells #[.string (rd_T54 l i).f0, .string (rd_T54 l i).f1] 54)))
      have HBa := Lib.hid (below_alloc HB.out (.cells #[.string (rd_T54 l i).f0, .string (rd_T54 l i).f1] 54))
      clear hlt hi hm
      by_cases hz : i > 0
      · have hzb : decide (i > 0) = true := decide_eq_true hz
        have HZ := Lib.hid (show i.toNat ≠ 0 by omega)
        clear hz
        go_wp2_with fail
        refine (writeL _ _ HDa.out (by have := HKL.out; show _ + 1 ≤ _; omega)).mono ?_
        rintro e w1 ⟨rfl, hd1, hb1, hk1⟩
        have BX1 := Lib.hid (hk1 _ _ _ BX.out (by decide) (Nat.ne_of_gt HLB.out))
        have HD1 := Lib.hid hd1
        have HB1 := Lib.hid (HBa.out.trans hb1)
        have z0 := blk_cell BX1.out 0
        have z1 := blk_cell BX1.out 1
        clear hd1 hb1 hk1 BX HDa HBa
        go_wp2_with fail
        refine (writeL _ _ HD1.out (by have := HKL.out; have := HE.out; simp only [List.length_append]; show _ + 1 + _ ≤ _; omega)).mono ?_
        rintro e w2 ⟨rfl, hd2, hb2, _⟩
        have HD2 := Lib.hid (show Lib.IsBuilder 90 5 w.heap.size w.heap.size (Lib.byteCells (txTo l (i + 1).toNat)) w2 from by
          rw [show (i + 1).toNat = i.toNat + 1 by omega, txTo, if_neg HZ.out, Int.toNat_of_nonneg (of_eq_true p0)]
          exact hd2)
        have HB2 := Lib.hid (HB1.out.trans hb2)
        clear hd2 hb2 BX1 HD1 HB1
        go_wp2_with fail
        go_roundw
        case rel => exact ⟨i + 1, rfl, by have := of_eq_true p0; omega, by have := HLT.out; omega, HD2, HB2⟩
        case measure => have := HLT.out; have := of_eq_true p0; simp [intOf]; omega
      · have hzb : decide (i > 0) = false := decide_eq_false hz
        have HZ := Lib.hid (show i.toNat = 0 by omega)
        clear hz
        go_wp2_with fail
        refine (writeL _ _ HDa.out (by have := HKL.out; have := HE.out; omega)).mono ?_
        rintro e w2 ⟨rfl, hd2, hb2, _⟩
        have HD2 := Lib.hid (show Lib.IsBuilder 90 5 w.heap.size w.heap.size (Lib.byteCells (txTo l (i + 1).toNat)) w2 from by
          rw [show (i + 1).toNat = i.toNat + 1 by omega, txTo, if_pos HZ.out, Int.toNat_of_nonneg (of_eq_true p0), List.append_nil]
          exact hd2)
        have HB2 := Lib.hid (HBa.out.trans hb2)
        clear hd2 hb2 BX HDa HBa
        go_wp2_with fail
        go_roundw
        case rel => exact ⟨i + 1, rfl, by have := of_eq_true p0; omega, by have := HLT.out; omega, HD2, HB2⟩
        case measure => have := HLT.out; have := of_eq_true p0; simp [intOf]; omega
    · have hltb : decide (i < (l.length : Int)) = false := decide_eq_false hlt
      have hE : i.toNat = l.length := by omega
      have HD1 := Lib.hid (hE ▸ HD.out)
      have hsz : ∀ W, (Op.stringOp .add ⟨#[123]⟩ ⟨(txTo l l.length).toArray⟩).run Try.prog W = .ok (.string (⟨#[123]⟩ ++ ⟨(txTo l l.length).toArray⟩)) W := fun W => run_string_add_sum W _ _ (by have := HL.out; show 1 + (txTo l l.length).toArray.size ≤ _; simp; omega)
      have hsz2 : ∀ W, (Op.stringOp .add (⟨#[123]⟩ ++ ⟨(txTo l l.length).toArray⟩) ⟨#[125]⟩).run Try.prog W = .ok (.string (textB l)) W := fun W => run_string_add_sum W _ _ (by have := HL.out; rw [ByteArray.size_append]; show 1 + (txTo l l.length).toArray.size + 1 ≤ _; simp; omega)
      clear hlt hi HD
      go_wp2_with fail
      refine (Try.Builder_String_any _ _ _ _ HD1.out (by have := HB.out.size; omega)).mono ?_
      rintro e w1 ⟨rfl, hb1⟩
      have HB1 := Lib.hid (HB.out.trans hb1)
      clear hb1
      go_wp2_with fail
      go_ret
      exact ⟨rfl, HB1.out⟩
end tx
end Go.Proofs.Ytgdojonkkfcaeaa.Q
