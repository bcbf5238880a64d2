/- pages.tick and pages.valid. -/
import Derived.Test.YtgdojonkkfcaeaaQ2
import Derived.Test.YtgdojonkkfcaeaaMAdd
namespace Go.Proofs.Ytgdojonkkfcaeaa.Q
open Go.RowKit Go.Maps Go.Proofs.YtgdojonkkfcaeaaW.PrintWords Go.Proofs.YtgdojonkkfcaeaaW.PrintLast Go.Proofs.YtgdojonkkfcaeaaW.PrintMore
attribute [local go_sem] max2_int min2_int max_two min_two max_three min_three max_four min_four   -- for this text's walks alone
set_option linter.unusedVariables false
set_option linter.unusedSimpArgs false
/-! ### pages_tick: function 34 -/
def pages_tick.f (a0 : Int) : Option (Bool) := if a0 ≥ 0 then (some (decide (a0 ≤ 1048576))) else (some false)
set_option maxHeartbeats 8000000 in
set_option maxRecDepth 100000 in
theorem pages_tick.calls (a0 : Int) (r : Bool) (w : World) (h : pages_tick.f a0 = some r) :
    Calls Try.prog 34 #[.int .i64 a0] w fun e w' => e = .returned (.bool r) ∧ Drawn0 w w' := by
  have H : (if a0 ≥ 0 then (some (decide (a0 ≤ 1048576))) else (some false)) = some r := h
  clear h
  by_cases c2 : a0 ≥ 0
  · rw [if_pos c2] at H
    have c2b0 : decide (0 ≤ a0) = true := decide_eq_true c2
    clear c2
    obtain rfl := Option.some.inj H
    go_enter Try.func34, Try.ntmps34
    go_wp2
    go_ret
    exact ⟨by first | rfl | (simp; done) | (simp [*]; done), by repeat (first | exact Drawn0.refl _ | apply Drawn0.step)⟩
  · rw [if_neg c2] at H
    have c2b0 : decide (0 ≤ a0) = false := decide_eq_false c2
    clear c2
    obtain rfl := Option.some.inj H
    go_enter Try.func34, Try.ntmps34
    go_wp2
    go_ret
    exact ⟨by first | rfl | (simp; done) | (simp [*]; done), by repeat (first | exact Drawn0.refl _ | apply Drawn0.step)⟩


namespace led
def tickB (t : Int) : Bool := decide (0 ≤ t) && decide (t ≤ 1048576)
theorem tick_eq (t : Int) : pages_tick.f t = some (tickB t) := by
  unfold pages_tick.f tickB
  by_cases h : 0 ≤ t <;> simp [h]
theorem tickC (t : Int) (b : Bool) (h : tickB t = b) (W : World) : Calls Try.prog 34 #[.int .i64 t] W fun e w' => e = .returned (.bool b) ∧ Below W.heap.size W w' := by
  refine (pages_tick.calls t b W (h ▸ tick_eq t)).mono ?_
  rintro e w' ⟨rfl, ⟨n, rfl⟩⟩
  exact ⟨rfl, pw_below_drewN (Below.refl _ _) n⟩
/-- pages.valid; b: labels.Valid of the labels. -/
def okB (b : Bool) (r : ByteArray) (v : Int) (s sent : Int) (q : ByteArray) : Bool := nameB r && decide (1 ≤ v) && b && tickB s && tickB sent && decide (q.size ≤ 16)
set_option maxHeartbeats 4000000 in
set_option maxRecDepth 100000 in
theorem validC {b : Bool} (k0 : Int) (r : ByteArray) (v : Int) (A : Option Addr) (c : Nat) (l : List S54) (s sent : Int) (q : ByteArray) (w : World) (hr : Kd.C k54 w A l.length l) (hc : l.length ≤ c) (hV : ∃ k, labels_Valid.f k l = some b) :
    Calls Try.prog 35 #[.agg (pgV k0 r v (.slice A l.length c) s sent q)] w fun e w' => e = .returned (.bool (okB b r v s sent q)) ∧ Below w.heap.size w w' := by
  obtain ⟨k, hV⟩ := hV
  have V := Lib.hid (fun W (h : Below w.heap.size w W) => labels_Valid.calls k A c l b W (Kd.C_below hr h) hc hV)
  have BX := Lib.hid (heap_alloc_new w (.cells #[.int .i64 k0, .string r, .int .i64 v, .slice A l.length c, .int .i64 s, .int .i64 sent, .string q] 31))
  have HB0 := Lib.hid (below_alloc (Below.refl w.heap.size w) (.cells #[.int .i64 k0, .string r, .int .i64 v, .slice A l.length c, .int .i64 s, .int .i64 sent, .string q] 31))
  clear hr hc hV
  unfold pgV okB
  cases hn : nameB r with
  | false =>
    simp only [Bool.and_false, Bool.false_and, Bool.and_true, Bool.true_and]
    go_enter Try.func35, Try.ntmps35
    obtain ⟨x0, x1, x2, x3, x4, x5, x6⟩ := blk7 BX.out
    go_wp2_with fail
    refine (labels_Name.calls r false _ (by rw [labels_Name.f, hn])).mono ?_
    rintro e w1 ⟨rfl, hb⟩
    have BX1 := Lib.hid (blk_below BX.out hb)
    have HB1 := Lib.hid (below_step HB0.out hb)
    clear hb x0 x1 x2 x3 x4 x5 x6 BX HB0
    obtain ⟨x0, x1, x2, x3, x4, x5, x6⟩ := blk7 BX1.out
    go_wp2_with fail
    go_ret
    exact ⟨rfl, HB1.out⟩
  | true =>
    cases hv : decide (1 ≤ v) with
    | false =>
      have hv1 : decide (v ≥ 1) = false := hv
      simp only [Bool.and_false, Bool.false_and, Bool.and_true, Bool.true_and]
      go_enter Try.func35, Try.ntmps35
      obtain ⟨x0, x1, x2, x3, x4, x5, x6⟩ := blk7 BX.out
      go_wp2_with fail
      refine (labels_Name.calls r true _ (by rw [labels_Name.f, hn])).mono ?_
      rintro e w1 ⟨rfl, hb⟩
      have BX1 := Lib.hid (blk_below BX.out hb)
      have HB1 := Lib.hid (below_step HB0.out hb)
      clear hb x0 x1 x2 x3 x4 x5 x6 BX HB0
      obtain ⟨x0, x1, x2, x3, x4, x5, x6⟩ := blk7 BX1.out
      go_wp2_with fail
      go_ret
      exact ⟨rfl, HB1.out⟩
    | true =>
      have hv1 : decide (v ≥ 1) = true := hv
      cases b with
      | false =>
        simp only [Bool.and_false, Bool.false_and, Bool.and_true, Bool.true_and]
        go_enter Try.func35, Try.ntmps35
        obtain ⟨x0, x1, x2, x3, x4, x5, x6⟩ := blk7 BX.out
        go_wp2_with fail
        refine (labels_Name.calls r true _ (by rw [labels_Name.f, hn])).mono ?_
        rintro e w1 ⟨rfl, hb⟩
        have BX1 := Lib.hid (blk_below BX.out hb)
        have HB1 := Lib.hid (below_step HB0.out hb)
        clear hb x0 x1 x2 x3 x4 x5 x6 BX HB0
        obtain ⟨x0, x1, x2, x3, x4, x5, x6⟩ := blk7 BX1.out
        go_wp2_with fail
        refine (V.out _ HB1.out).mono ?_
        rintro e w2 ⟨rfl, hb⟩
        have BX2 := Lib.hid (blk_below BX1.out hb)
        have HB2 := Lib.hid (below_step HB1.out hb)
        clear hb x0 x1 x2 x3 x4 x5 x6 BX1 HB1
        obtain ⟨x0, x1, x2, x3, x4, x5, x6⟩ := blk7 BX2.out
        go_wp2_with fail
        go_ret
        exact ⟨rfl, HB2.out⟩
      | true =>
        cases ht : tickB s with
        | false =>
          simp only [Bool.and_false, Bool.false_and, Bool.and_true, Bool.true_and]
          go_enter Try.func35, Try.ntmps35
          obtain ⟨x0, x1, x2, x3, x4, x5, x6⟩ := blk7 BX.out
          go_wp2_with fail
          refine (labels_Name.calls r true _ (by rw [labels_Name.f, hn])).mono ?_
          rintro e w1 ⟨rfl, hb⟩
          have BX1 := Lib.hid (blk_below BX.out hb)
          have HB1 := Lib.hid (below_step HB0.out hb)
          clear hb x0 x1 x2 x3 x4 x5 x6 BX HB0
          obtain ⟨x0, x1, x2, x3, x4, x5, x6⟩ := blk7 BX1.out
          go_wp2_with fail
          refine (V.out _ HB1.out).mono ?_
          rintro e w2 ⟨rfl, hb⟩
          have BX2 := Lib.hid (blk_below BX1.out hb)
          have HB2 := Lib.hid (below_step HB1.out hb)
          clear hb x0 x1 x2 x3 x4 x5 x6 BX1 HB1
          obtain ⟨x0, x1, x2, x3, x4, x5, x6⟩ := blk7 BX2.out
          go_wp2_with fail
          refine (tickC s false ht _).mono ?_
          rintro e w3 ⟨rfl, hb⟩
          have BX3 := Lib.hid (blk_below BX2.out hb)
          have HB3 := Lib.hid (below_step HB2.out hb)
          clear hb x0 x1 x2 x3 x4 x5 x6 BX2 HB2
          obtain ⟨x0, x1, x2, x3, x4, x5, x6⟩ := blk7 BX3.out
          go_wp2_with fail
          go_ret
          exact ⟨rfl, HB3.out⟩
        | true =>
          cases hu : tickB sent with
          | false =>
            simp only [Bool.and_false, Bool.false_and, Bool.and_true, Bool.true_and]
            go_enter Try.func35, Try.ntmps35
            obtain ⟨x0, x1, x2, x3, x4, x5, x6⟩ := blk7 BX.out
            go_wp2_with fail
            refine (labels_Name.calls r true _ (by rw [labels_Name.f, hn])).mono ?_
            rintro e w1 ⟨rfl, hb⟩
            have BX1 := Lib.hid (blk_below BX.out hb)
            have HB1 := Lib.hid (below_step HB0.out hb)
            clear hb x0 x1 x2 x3 x4 x5 x6 BX HB0
            obtain ⟨x0, x1, x2, x3, x4, x5, x6⟩ := blk7 BX1.out
            go_wp2_with fail
            refine (V.out _ HB1.out).mono ?_
            rintro e w2 ⟨rfl, hb⟩
            have BX2 := Lib.hid (blk_below BX1.out hb)
            have HB2 := Lib.hid (below_step HB1.out hb)
            clear hb x0 x1 x2 x3 x4 x5 x6 BX1 HB1
            obtain ⟨x0, x1, x2, x3, x4, x5, x6⟩ := blk7 BX2.out
            go_wp2_with fail
            refine (tickC s true ht _).mono ?_
            rintro e w3 ⟨rfl, hb⟩
            have BX3 := Lib.hid (blk_below BX2.out hb)
            have HB3 := Lib.hid (below_step HB2.out hb)
            clear hb x0 x1 x2 x3 x4 x5 x6 BX2 HB2
            obtain ⟨x0, x1, x2, x3, x4, x5, x6⟩ := blk7 BX3.out
            go_wp2_with fail
            refine (tickC sent false hu _).mono ?_
            rintro e w4 ⟨rfl, hb⟩
            have BX4 := Lib.hid (blk_below BX3.out hb)
            have HB4 := Lib.hid (below_step HB3.out hb)
            clear hb x0 x1 x2 x3 x4 x5 x6 BX3 HB3
            obtain ⟨x0, x1, x2, x3, x4, x5, x6⟩ := blk7 BX4.out
            go_wp2_with fail
            go_ret
            exact ⟨rfl, HB4.out⟩
          | true =>
            cases hq : decide (q.size ≤ 16) with
            | false =>
              have hq1 : decide ((q.size : Int) ≤ 16) = false := by simp at hq ⊢; omega
              simp only [Bool.and_false, Bool.false_and, Bool.and_true, Bool.true_and]
              go_enter Try.func35, Try.ntmps35
              obtain ⟨x0, x1, x2, x3, x4, x5, x6⟩ := blk7 BX.out
              go_wp2_with fail
              refine (labels_Name.calls r true _ (by rw [labels_Name.f, hn])).mono ?_
              rintro e w1 ⟨rfl, hb⟩
              have BX1 := Lib.hid (blk_below BX.out hb)
              have HB1 := Lib.hid (below_step HB0.out hb)
              clear hb x0 x1 x2 x3 x4 x5 x6 BX HB0
              obtain ⟨x0, x1, x2, x3, x4, x5, x6⟩ := blk7 BX1.out
              go_wp2_with fail
              refine (V.out _ HB1.out).mono ?_
              rintro e w2 ⟨rfl, hb⟩
              have BX2 := Lib.hid (blk_below BX1.out hb)
              have HB2 := Lib.hid (below_step HB1.out hb)
              clear hb x0 x1 x2 x3 x4 x5 x6 BX1 HB1
              obtain ⟨x0, x1, x2, x3, x4, x5, x6⟩ := blk7 BX2.out
              go_wp2_with fail
              refine (tickC s true ht _).mono ?_
              rintro e w3 ⟨rfl, hb⟩
              have BX3 := Lib.hid (blk_below BX2.out hb)
              have HB3 := Lib.hid (below_step HB2.out hb)
              clear hb x0 x1 x2 x3 x4 x5 x6 BX2 HB2
              obtain ⟨x0, x1, x2, x3, x4, x5, x6⟩ := blk7 BX3.out
              go_wp2_with fail
              refine (tickC sent true hu _).mono ?_
              rintro e w4 ⟨rfl, hb⟩
              have BX4 := Lib.hid (blk_below BX3.out hb)
              have HB4 := Lib.hid (below_step HB3.out hb)
              clear hb x0 x1 x2 x3 x4 x5 x6 BX3 HB3
              obtain ⟨x0, x1, x2, x3, x4, x5, x6⟩ := blk7 BX4.out
              go_wp2_with fail
              go_ret
              exact ⟨rfl, HB4.out⟩
            | true =>
              have hq1 : decide ((q.size : Int) ≤ 16) = true := by simp at hq ⊢; omega
              simp only [Bool.and_false, Bool.false_and, Bool.and_true, Bool.true_and]
              go_enter Try.func35, Try.ntmps35
              obtain ⟨x0, x1, x2, x3, x4, x5, x6⟩ := blk7 BX.out
              go_wp2_with fail
              refine (labels_Name.calls r true _ (by rw [labels_Name.f, hn])).mono ?_
              rintro e w1 ⟨rfl, hb⟩
              have BX1 := Lib.hid (blk_below BX.out hb)
              have HB1 := Lib.hid (below_step HB0.out hb)
              clear hb x0 x1 x2 x3 x4 x5 x6 BX HB0
              obtain ⟨x0, x1, x2, x3, x4, x5, x6⟩ := blk7 BX1.out
              go_wp2_with fail
              refine (V.out _ HB1.out).mono ?_
              rintro e w2 ⟨rfl, hb⟩
              have BX2 := Lib.hid (blk_below BX1.out hb)
              have HB2 := Lib.hid (below_step HB1.out hb)
              clear hb x0 x1 x2 x3 x4 x5 x6 BX1 HB1
              obtain ⟨x0, x1, x2, x3, x4, x5, x6⟩ := blk7 BX2.out
              go_wp2_with fail
              refine (tickC s true ht _).mono ?_
              rintro e w3 ⟨rfl, hb⟩
              have BX3 := Lib.hid (blk_below BX2.out hb)
              have HB3 := Lib.hid (below_step HB2.out hb)
              clear hb x0 x1 x2 x3 x4 x5 x6 BX2 HB2
              obtain ⟨x0, x1, x2, x3, x4, x5, x6⟩ := blk7 BX3.out
              go_wp2_with fail
              refine (tickC sent true hu _).mono ?_
              rintro e w4 ⟨rfl, hb⟩
              have BX4 := Lib.hid (blk_below BX3.out hb)
              have HB4 := Lib.hid (below_step HB3.out hb)
              clear hb x0 x1 x2 x3 x4 x5 x6 BX3 HB3
              obtain ⟨x0, x1, x2, x3, x4, x5, x6⟩ := blk7 BX4.out
              go_wp2_with fail
              go_ret
              exact ⟨rfl, HB4.out⟩
end led
end Go.Proofs.Ytgdojonkkfcaeaa.Q
