-- Written by a program (pp: this repo's wip/pp/patch.py over the kit's print), out of the translation. Lean checks it.
import Derived.Test.YtbbddeilbcpmiaaDoorQ0
import Derived.Test.YtbbddeilbcpmiaaDoorMAlertHyst
import Derived.Test.YtbbddeilbcpmiaaDoorMLives28
import Derived.Test.YtbbddeilbcpmiaaDoorQ23
import Derived.Test.YtbbddeilbcpmiaaDoorQ25
import Derived.Test.YtbbddeilbcpmiaaDoorQ26
import Derived.Test.YtbbddeilbcpmiaaDoorQ3
namespace Go.Proofs.YtbbddeilbcpmiaaDoor.Q
open Go.RowKit Go.Proofs.YtbbddeilbcpmiaaDoorW.PrintWords Go.Proofs.YtbbddeilbcpmiaaDoorW.PrintLast Go.Proofs.YtbbddeilbcpmiaaDoorW.PrintMore
attribute [local go_sem] max2_int min2_int max_two min_two max_three min_three max_four min_four   -- for this text's walks alone
set_option linter.unusedVariables false
set_option linter.unusedSimpArgs false

/-! ### intervalmonlaw28_AlertTruths: function 7 -/
def intervalmonlaw28_AlertTruths.l0 : Nat → List Int → List Bool → Int → Option (Bool)
  | 0, _, _, _ => none
  | k + 1, x12, x13, x14 => if x14 < (x12.length : Int) then (if 0 ≤ x14 then (if (rd x12 x14) = 2 then (if x14 < (x13.length : Int) then (if rdOf false x13 x14 = true then (if (rd x12 x14) = 0 then (some false) else (intervalmonlaw28_AlertTruths.l0 k x12 x13 (wrap64 (x14 + 1)))) else (some false)) else (none)) else (if (rd x12 x14) = 0 then (if x14 < (x13.length : Int) then (if rdOf false x13 x14 = true then (some false) else (intervalmonlaw28_AlertTruths.l0 k x12 x13 (wrap64 (x14 + 1)))) else (none)) else (intervalmonlaw28_AlertTruths.l0 k x12 x13 (wrap64 (x14 + 1))))) else (none)) else ((intervalmonlaw28_lives.f).bind fun t583 => (some t583))
def intervalmonlaw28_AlertTruths.f (k : Nat) (l0 : List Int) (l1 : List Int) (a2 : Int) (a3 : Int) : Option (Bool) := (intervalmonref28_Verdicts.f k l0 (mn (mn (l0.length : Int) (l1.length : Int)) 40)).bind fun t557 => ((intervalmonref28_Verdicts.f k l1 (mn (mn (l0.length : Int) (l1.length : Int)) 40)).bind fun t560 => ((alert_Hysteresis.f t557 t560).bind fun t563 => ((intervalmonref01_Around.f a2 4611686018427387904).bind fun t566 => ((intervalmonref28_Truths.f k t557 t566).bind fun t567 => ((intervalmonref01_Around.f a3 4611686018427387904).bind fun t570 => ((intervalmonref28_Truths.f k t560 t570).bind fun t571 => ((intervalmonref28_Latch.f k t567 t571).bind fun t574 => (if (t563.length : Int) = (t574.length : Int) then (intervalmonlaw28_AlertTruths.l0 k t563 t574 0) else (some false)))))))))
theorem intervalmonlaw28_AlertTruths.mono_l : ∀ k, (∀ y0 y1 y2, LeO (intervalmonlaw28_AlertTruths.l0 k y0 y1 y2) (intervalmonlaw28_AlertTruths.l0 (k + 1) y0 y1 y2))
  | 0 => fun _ _ _ r h => by simp [intervalmonlaw28_AlertTruths.l0] at h
  | k + 1 => by
    have ih0 := intervalmonlaw28_AlertTruths.mono_l k
    · intro y0 y1 y2
      unfold intervalmonlaw28_AlertTruths.l0
      repeat' first
      | (with_reducible exact ih0 _ _ _)
      | (with_reducible exact intervalmonref28_Latch.mono _ _ _)
      | (with_reducible exact intervalmonref28_Truths.mono _ _ _)
      | (with_reducible exact intervalmonref28_Verdicts.mono _ _ _)
      | (with_reducible exact LeO.refl _)
      | (with_reducible exact LeO.none _)
      | (with_reducible refine LeO.ite ?_ ?_)
      | (with_reducible refine LeO.bind ?_ (fun _ => ?_))
      | exact ih0 _ _ _
      | exact intervalmonref28_Latch.mono _ _ _
      | exact intervalmonref28_Truths.mono _ _ _
      | exact intervalmonref28_Verdicts.mono _ _ _
      | exact LeO.none _
      | refine LeO.ite ?_ ?_
      | refine LeO.bind ?_ (fun _ => ?_)
theorem intervalmonlaw28_AlertTruths.mono : ∀ a0 a1 a2 a3 k, LeO (intervalmonlaw28_AlertTruths.f k a0 a1 a2 a3) (intervalmonlaw28_AlertTruths.f (k + 1) a0 a1 a2 a3) := by
  intro a0 a1 a2 a3 k
  have ih0 := intervalmonlaw28_AlertTruths.mono_l k
  unfold intervalmonlaw28_AlertTruths.f
  repeat' first
      | (with_reducible exact ih0 _ _ _)
      | (with_reducible exact intervalmonref28_Latch.mono _ _ _)
      | (with_reducible exact intervalmonref28_Truths.mono _ _ _)
      | (with_reducible exact intervalmonref28_Verdicts.mono _ _ _)
      | (with_reducible exact LeO.refl _)
      | (with_reducible exact LeO.none _)
      | (with_reducible refine LeO.ite ?_ ?_)
      | (with_reducible refine LeO.bind ?_ (fun _ => ?_))
      | exact ih0 _ _ _
      | exact intervalmonref28_Latch.mono _ _ _
      | exact intervalmonref28_Truths.mono _ _ _
      | exact intervalmonref28_Verdicts.mono _ _ _
      | exact LeO.none _
      | refine LeO.ite ?_ ?_
      | refine LeO.bind ?_ (fun _ => ?_)
set_option maxHeartbeats 8000000 in
set_option maxRecDepth 100000 in
theorem intervalmonlaw28_AlertTruths.calls (k : Nat) (A0 : Option Addr) (c0 : Nat) (l0 : List Int) (A1 : Option Addr) (c1 : Nat) (l1 : List Int) (a2 : Int) (a3 : Int) (r : Bool) (w : World) (hLd : Allowed w) (hr0 : Kd.C (Kd.int .i64) w A0 l0.length l0) (hc0 : l0.length ≤ c0) (hr1 : Kd.C (Kd.int .i64) w A1 l1.length l1) (hc1 : l1.length ≤ c1) (h : intervalmonlaw28_AlertTruths.f k l0 l1 a2 a3 = some r) :
    Calls Tryd.prog 7 #[.slice A0 l0.length c0, .slice A1 l1.length c1, .int .i64 a2, .int .i64 a3] w fun e w' => e = .returned (.bool r) ∧ Below w.heap.size w w' := by
  have HLd := Aside0.mk hLd
  clear hLd
  have HR0 := Aside0.mk hr0
  have HC0 := Aside0.mk hc0
  clear hr0 hc0
  have HR1 := Aside0.mk hr1
  have HC1 := Aside0.mk hc1
  clear hr1 hc1
  have HB := Aside0.mk (Below.refl w.heap.size w)
  have H : ((intervalmonref28_Verdicts.f k l0 (mn (mn (l0.length : Int) (l1.length : Int)) 40)).bind fun t557 => ((intervalmonref28_Verdicts.f k l1 (mn (mn (l0.length : Int) (l1.length : Int)) 40)).bind fun t560 => ((alert_Hysteresis.f t557 t560).bind fun t563 => ((intervalmonref01_Around.f a2 4611686018427387904).bind fun t566 => ((intervalmonref28_Truths.f k t557 t566).bind fun t567 => ((intervalmonref01_Around.f a3 4611686018427387904).bind fun t570 => ((intervalmonref28_Truths.f k t560 t570).bind fun t571 => ((intervalmonref28_Latch.f k t567 t571).bind fun t574 => (if (t563.length : Int) = (t574.length : Int) then (intervalmonlaw28_AlertTruths.l0 k t563 t574 0) else (some false)))))))))) = some r := h
  clear h
  obtain ⟨ji5, hji5⟩ : ∃ j_ : Int, (mn (l0.length : Int) (l1.length : Int)) = j_ := ⟨_, rfl⟩
  replace H : ((intervalmonref28_Verdicts.f k l0 (mn (ji5) 40)).bind fun t557 => ((intervalmonref28_Verdicts.f k l1 (mn (ji5) 40)).bind fun t560 => ((alert_Hysteresis.f t557 t560).bind fun t563 => ((intervalmonref01_Around.f a2 4611686018427387904).bind fun t566 => ((intervalmonref28_Truths.f k t557 t566).bind fun t567 => ((intervalmonref01_Around.f a3 4611686018427387904).bind fun t570 => ((intervalmonref28_Truths.f k t560 t570).bind fun t571 => ((intervalmonref28_Latch.f k t567 t571).bind fun t574 => (if (t563.length : Int) = (t574.length : Int) then (intervalmonlaw28_AlertTruths.l0 k t563 t574 0) else (some false)))))))))) = some r := by first | (rw [hji5] at H; exact H) | (simp only [hji5] at H ⊢; exact H)
  (try (have hji5l : 0 ≤ ji5 := by (rw [← hji5]; unfold mn; (repeat' split) <;> omega)))
  (try (have hji5m : 0 ≤ ji5 := by omega))
  have hji5n_ : (if l1.length < l0.length then (l1.length : Int) else (l0.length : Int)) = ji5 := by (rw [← hji5]; unfold mn; split <;> split <;> omega)
  have hji5_ : (if (l1.length : Int) < (l0.length : Int) then (l1.length : Int) else (l0.length : Int)) = ji5 := hji5
  obtain ⟨ji6, hji6⟩ : ∃ j_ : Int, (mn (ji5) 40) = j_ := ⟨_, rfl⟩
  replace H : ((intervalmonref28_Verdicts.f k l0 (ji6)).bind fun t557 => ((intervalmonref28_Verdicts.f k l1 (ji6)).bind fun t560 => ((alert_Hysteresis.f t557 t560).bind fun t563 => ((intervalmonref01_Around.f a2 4611686018427387904).bind fun t566 => ((intervalmonref28_Truths.f k t557 t566).bind fun t567 => ((intervalmonref01_Around.f a3 4611686018427387904).bind fun t570 => ((intervalmonref28_Truths.f k t560 t570).bind fun t571 => ((intervalmonref28_Latch.f k t567 t571).bind fun t574 => (if (t563.length : Int) = (t574.length : Int) then (intervalmonlaw28_AlertTruths.l0 k t563 t574 0) else (some false)))))))))) = some r := by first | (rw [hji6] at H; exact H) | (simp only [hji6] at H ⊢; exact H)
  have hji6_ : (if 40 < (ji5) then 40 else (ji5)) = ji6 := hji6
  replace H := Option.bind_eq_some_iff.mp H
  obtain ⟨t557, A70, H⟩ := H
  replace H : ((intervalmonref28_Verdicts.f k l1 (ji6)).bind fun t560 => ((alert_Hysteresis.f t557 t560).bind fun t563 => ((intervalmonref01_Around.f a2 4611686018427387904).bind fun t566 => ((intervalmonref28_Truths.f k t557 t566).bind fun t567 => ((intervalmonref01_Around.f a3 4611686018427387904).bind fun t570 => ((intervalmonref28_Truths.f k t560 t570).bind fun t571 => ((intervalmonref28_Latch.f k t567 t571).bind fun t574 => (if (t563.length : Int) = (t574.length : Int) then (intervalmonlaw28_AlertTruths.l0 k t563 t574 0) else (some false))))))))) = some r := H
  have A7 := Aside0.mk A70
  clear A70
  replace H := Option.bind_eq_some_iff.mp H
  obtain ⟨t560, A80, H⟩ := H
  replace H : ((alert_Hysteresis.f t557 t560).bind fun t563 => ((intervalmonref01_Around.f a2 4611686018427387904).bind fun t566 => ((intervalmonref28_Truths.f k t557 t566).bind fun t567 => ((intervalmonref01_Around.f a3 4611686018427387904).bind fun t570 => ((intervalmonref28_Truths.f k t560 t570).bind fun t571 => ((intervalmonref28_Latch.f k t567 t571).bind fun t574 => (if (t563.length : Int) = (t574.length : Int) then (intervalmonlaw28_AlertTruths.l0 k t563 t574 0) else (some false)))))))) = some r := H
  have A8 := Aside0.mk A80
  clear A80
  replace H := Option.bind_eq_some_iff.mp H
  obtain ⟨t563, A90, H⟩ := H
  replace H : ((intervalmonref01_Around.f a2 4611686018427387904).bind fun t566 => ((intervalmonref28_Truths.f k t557 t566).bind fun t567 => ((intervalmonref01_Around.f a3 4611686018427387904).bind fun t570 => ((intervalmonref28_Truths.f k t560 t570).bind fun t571 => ((intervalmonref28_Latch.f k t567 t571).bind fun t574 => (if (t563.length : Int) = (t574.length : Int) then (intervalmonlaw28_AlertTruths.l0 k t563 t574 0) else (some false))))))) = some r := H
  have A9 := Aside0.mk A90
  clear A90
  replace H := Option.bind_eq_some_iff.mp H
  obtain ⟨t566, A100, H⟩ := H
  replace H : ((intervalmonref28_Truths.f k t557 t566).bind fun t567 => ((intervalmonref01_Around.f a3 4611686018427387904).bind fun t570 => ((intervalmonref28_Truths.f k t560 t570).bind fun t571 => ((intervalmonref28_Latch.f k t567 t571).bind fun t574 => (if (t563.length : Int) = (t574.length : Int) then (intervalmonlaw28_AlertTruths.l0 k t563 t574 0) else (some false)))))) = some r := H
  have A10 := Aside0.mk A100
  clear A100
  replace H := Option.bind_eq_some_iff.mp H
  obtain ⟨t567, A110, H⟩ := H
  replace H : ((intervalmonref01_Around.f a3 4611686018427387904).bind fun t570 => ((intervalmonref28_Truths.f k t560 t570).bind fun t571 => ((intervalmonref28_Latch.f k t567 t571).bind fun t574 => (if (t563.length : Int) = (t574.length : Int) then (intervalmonlaw28_AlertTruths.l0 k t563 t574 0) else (some false))))) = some r := H
  have A11 := Aside0.mk A110
  clear A110
  replace H := Option.bind_eq_some_iff.mp H
  obtain ⟨t570, A120, H⟩ := H
  replace H : ((intervalmonref28_Truths.f k t560 t570).bind fun t571 => ((intervalmonref28_Latch.f k t567 t571).bind fun t574 => (if (t563.length : Int) = (t574.length : Int) then (intervalmonlaw28_AlertTruths.l0 k t563 t574 0) else (some false)))) = some r := H
  have A12 := Aside0.mk A120
  clear A120
  replace H := Option.bind_eq_some_iff.mp H
  obtain ⟨t571, A130, H⟩ := H
  replace H : ((intervalmonref28_Latch.f k t567 t571).bind fun t574 => (if (t563.length : Int) = (t574.length : Int) then (intervalmonlaw28_AlertTruths.l0 k t563 t574 0) else (some false))) = some r := H
  have A13 := Aside0.mk A130
  clear A130
  replace H := Option.bind_eq_some_iff.mp H
  obtain ⟨t574, A140, H⟩ := H
  replace H : (if (t563.length : Int) = (t574.length : Int) then (intervalmonlaw28_AlertTruths.l0 k t563 t574 0) else (some false)) = some r := H
  have A14 := Aside0.mk A140
  clear A140
  by_cases c15 : (t563.length : Int) = (t574.length : Int)
  · rw [if_pos c15] at H
    have c15b0 : ((t563.length : Int) == (t574.length : Int)) = true := beq_iff_eq.mpr c15
    have c15b1 : ((t563.length : Int) != (t574.length : Int)) = false := bne_eq_false_iff_eq.mpr c15
    have c15b2 : (t563.length == t574.length) = true := by first | simpa using c15 | (simp at c15 ⊢; omega)
    clear c15
    have H' := Aside0.mk H
    clear H
    go_enter Tryd.func7, Tryd.ntmps7
    go_wp2_with (first | ((with_reducible refine gate_callee (f := 23) rfl ?_); refine goesL_ (some 22) rfl rfl Tryd.func23 (by kernel_rfl) rfl #[.slice A0 l0.length c0, .int .i64 ji6] rfl (by (try simp only [List.map_toArray, List.map_cons, List.map_nil]); first | done | (simp only [hji6]; rfl) | rfl | (simp only [List.length_drop, List.length_take]; rfl)) ?_; (with_reducible refine (intervalmonref28_Verdicts.calls k _ _ l0 ji6 t557 _ ?side1 ?side2 A7.out).mono ?_); (case side1 => repeat (first | exact HR0.out | (with_reducible refine Kd.C_alloc ?_ _) | (with_reducible refine Kd.C_drewN ?_ _) | (with_reducible refine Kd.C_drew ?_))); (case side2 => exact HC0.out); rintro e w16 ⟨v558, rfl, ho0, hb⟩; refine ⟨_, rfl, ?_⟩; have n0_ := Aside0.mk (Kd.R_lower ho0 (below_size (by repeat (first | (with_reducible first | exact HB.out | apply below_alloc | apply pw_below_drewN | apply below_drew1) | exact HB.out)))); have n1_ := Aside0.mk (below_step (by repeat (first | (with_reducible first | exact HB.out | apply below_alloc | apply pw_below_drewN | apply below_drew1) | exact HB.out)) hb); clear HB; have HO559 := n0_; have HB := n1_; clear n0_ n1_; (try clear hb); (try clear hb2); (try clear hk); (try clear hi); (try clear ho0)) | ((with_reducible refine gate_callee (f := 23) rfl ?_); refine goesL_ (some 25) rfl rfl Tryd.func23 (by kernel_rfl) rfl #[.slice A1 l1.length c1, .int .i64 ji6] rfl (by (try simp only [List.map_toArray, List.map_cons, List.map_nil]); first | done | (simp only [hji6]; rfl) | rfl | (simp only [List.length_drop, List.length_take]; rfl)) ?_; (with_reducible refine (intervalmonref28_Verdicts.calls k _ _ l1 ji6 t560 _ ?side1 ?side2 A8.out).mono ?_); (case side1 => repeat (first | exact (Kd.C_below HR1.out HB.out) | (with_reducible refine Kd.C_alloc ?_ _) | (with_reducible refine Kd.C_drewN ?_ _) | (with_reducible refine Kd.C_drew ?_))); (case side2 => exact HC1.out); rintro e w17 ⟨v561, rfl, ho0, hb⟩; refine ⟨_, rfl, ?_⟩; have n0_ := Aside0.mk (Kd.R_elder' (by (with_reducible repeat (first | apply Kd.R_alloc | apply Kd.R_drewN | apply Kd.R_drew)); exact HO559.out) (Kd.R_base ho0) hb); have n1_ := Aside0.mk (Kd.R_lower (Kd.R_new' ho0 (Kd.R_lt (by (with_reducible repeat (first | apply Kd.R_alloc | apply Kd.R_drewN | apply Kd.R_drew)); exact HO559.out))) (below_size (by repeat (first | (with_reducible first | exact HB.out | apply below_alloc | apply pw_below_drewN | apply below_drew1) | exact HB.out)))); have n2_ := Aside0.mk (below_step (by repeat (first | (with_reducible first | exact HB.out | apply below_alloc | apply pw_below_drewN | apply below_drew1) | exact HB.out)) hb); clear HO559; clear HB; have HO559 := n0_; have HO562 := n1_; have HB := n2_; clear n0_ n1_ n2_; (try clear hb); (try clear hb2); (try clear hk); (try clear hi); (try clear ho0); obtain ⟨Ao18, co18, eo18⟩ := Kd.R_slice HO559.out; subst eo18; obtain ⟨Ao19, co19, eo19⟩ := Kd.R_slice HO562.out; subst eo19) | ((with_reducible refine gate_callee (f := 25) rfl ?_); refine goesL_ (some 28) rfl rfl Tryd.func25 (by kernel_rfl) rfl #[.slice Ao18 t557.length co18, .slice Ao19 t560.length co19] rfl (by (try simp only [List.map_toArray, List.map_cons, List.map_nil]); first | done | rfl | (simp only [List.length_drop, List.length_take]; rfl)) ?_; (with_reducible refine (alert_Hysteresis.calls _ _ t557 _ _ t560 t563 _ ?side1 ?side2 ?side3 ?side4 A9.out).mono ?_); (case side1 => repeat (first | exact (Kd.R_reads' HO559.out).2.2 | (with_reducible refine Kd.C_alloc ?_ _) | (with_reducible refine Kd.C_drewN ?_ _) | (with_reducible refine Kd.C_drew ?_))); (case side2 => exact (Kd.R_reads' HO559.out).2.1); (case side3 => repeat (first | exact (Kd.R_reads' HO562.out).2.2 | (with_reducible refine Kd.C_alloc ?_ _) | (with_reducible refine Kd.C_drewN ?_ _) | (with_reducible refine Kd.C_drew ?_))); (case side4 => exact (Kd.R_reads' HO562.out).2.1); rintro e w20 ⟨v564, rfl, ho0, hb⟩; refine ⟨_, rfl, ?_⟩; have n0_ := Aside0.mk (Kd.R_elder' (by (with_reducible repeat (first | apply Kd.R_alloc | apply Kd.R_drewN | apply Kd.R_drew)); exact HO559.out) (Kd.R_base ho0) hb); have n1_ := Aside0.mk (Kd.R_elder' (by (with_reducible repeat (first | apply Kd.R_alloc | apply Kd.R_drewN | apply Kd.R_drew)); exact HO562.out) (Kd.R_base ho0) hb); have n2_ := Aside0.mk (Kd.R_lower (Kd.R_new' (Kd.R_new' ho0 (Kd.R_lt (by (with_reducible repeat (first | apply Kd.R_alloc | apply Kd.R_drewN | apply Kd.R_drew)); exact HO559.out))) (Kd.R_lt (by (with_reducible repeat (first | apply Kd.R_alloc | apply Kd.R_drewN | apply Kd.R_drew)); exact HO562.out))) (below_size (by repeat (first | (with_reducible first | exact HB.out | apply below_alloc | apply pw_below_drewN | apply below_drew1) | exact HB.out)))); have n3_ := Aside0.mk (below_step (by repeat (first | (with_reducible first | exact HB.out | apply below_alloc | apply pw_below_drewN | apply below_drew1) | exact HB.out)) hb); clear HO559; clear HO562; clear HB; have HO559 := n0_; have HO562 := n1_; have HO565 := n2_; have HB := n3_; clear n0_ n1_ n2_ n3_; (try clear hb); (try clear hb2); (try clear hk); (try clear hi); (try clear ho0)) | ((with_reducible refine gate_callee (f := 27) rfl ?_); refine goesL_ (some 31) rfl rfl Tryd.func27 (by kernel_rfl) rfl #[.int .i64 a2, .int .i64 4611686018427387904] rfl (by (try simp only [List.map_toArray, List.map_cons, List.map_nil]); first | done | rfl | (simp only [List.length_drop, List.length_take]; rfl)) ?_; (with_reducible refine (intervalmonref01_Around.calls a2 4611686018427387904 t566 _ A10.out).mono ?_); rintro e w' ⟨rfl, ⟨nd, rfl⟩⟩; refine ⟨_, rfl, ?_⟩) | ((with_reducible refine gate_callee (f := 29) rfl ?_); refine goesL_ (some 32) rfl rfl Tryd.func29 (by kernel_rfl) rfl #[.slice Ao18 t557.length co18, .int .i64 t566] rfl (by (try simp only [List.map_toArray, List.map_cons, List.map_nil]); first | done | rfl | (simp only [List.length_drop, List.length_take]; rfl)) ?_; (with_reducible refine (intervalmonref28_Truths.calls k _ _ t557 t566 t567 _ ?side1 ?side2 A11.out).mono ?_); (case side1 => repeat (first | exact (Kd.R_reads' HO559.out).2.2 | (with_reducible refine Kd.C_alloc ?_ _) | (with_reducible refine Kd.C_drewN ?_ _) | (with_reducible refine Kd.C_drew ?_))); (case side2 => exact (Kd.R_reads' HO559.out).2.1); rintro e w21 ⟨v568, rfl, ho0, hb⟩; refine ⟨_, rfl, ?_⟩; have n0_ := Aside0.mk (Kd.R_below (by (with_reducible repeat (first | apply Kd.R_alloc | apply Kd.R_drewN | apply Kd.R_drew)); exact HO559.out) hb); have n1_ := Aside0.mk (Kd.R_below (by (with_reducible repeat (first | apply Kd.R_alloc | apply Kd.R_drewN | apply Kd.R_drew)); exact HO562.out) hb); have n2_ := Aside0.mk (Kd.R_below (by (with_reducible repeat (first | apply Kd.R_alloc | apply Kd.R_drewN | apply Kd.R_drew)); exact HO565.out) hb); have n3_ := Aside0.mk (Kd.R_lower ho0 (below_size (by repeat (first | (with_reducible first | exact HB.out | apply below_alloc | apply pw_below_drewN | apply below_drew1) | exact HB.out)))); have n4_ := Aside0.mk (below_step (by repeat (first | (with_reducible first | exact HB.out | apply below_alloc | apply pw_below_drewN | apply below_drew1) | exact HB.out)) hb); clear HO559; clear HO562; clear HO565; clear HB; have HO559 := n0_; have HO562 := n1_; have HO565 := n2_; have HO569 := n3_; have HB := n4_; clear n0_ n1_ n2_ n3_ n4_; (try clear hb); (try clear hb2); (try clear hk); (try clear hi); (try clear ho0)) | ((with_reducible refine gate_callee (f := 27) rfl ?_); refine goesL_ (some 35) rfl rfl Tryd.func27 (by kernel_rfl) rfl #[.int .i64 a3, .int .i64 4611686018427387904] rfl (by (try simp only [List.map_toArray, List.map_cons, List.map_nil]); first | done | rfl | (simp only [List.length_drop, List.length_take]; rfl)) ?_; (with_reducible refine (intervalmonref01_Around.calls a3 4611686018427387904 t570 _ A12.out).mono ?_); rintro e w' ⟨rfl, ⟨nd, rfl⟩⟩; refine ⟨_, rfl, ?_⟩) | ((with_reducible refine gate_callee (f := 29) rfl ?_); refine goesL_ (some 36) rfl rfl Tryd.func29 (by kernel_rfl) rfl #[.slice Ao19 t560.length co19, .int .i64 t570] rfl (by (try simp only [List.map_toArray, List.map_cons, List.map_nil]); first | done | rfl | (simp only [List.length_drop, List.length_take]; rfl)) ?_; (with_reducible refine (intervalmonref28_Truths.calls k _ _ t560 t570 t571 _ ?side1 ?side2 A13.out).mono ?_); (case side1 => repeat (first | exact (Kd.R_reads' HO562.out).2.2 | (with_reducible refine Kd.C_alloc ?_ _) | (with_reducible refine Kd.C_drewN ?_ _) | (with_reducible refine Kd.C_drew ?_))); (case side2 => exact (Kd.R_reads' HO562.out).2.1); rintro e w22 ⟨v572, rfl, ho0, hb⟩; refine ⟨_, rfl, ?_⟩; have n0_ := Aside0.mk (Kd.R_below (by (with_reducible repeat (first | apply Kd.R_alloc | apply Kd.R_drewN | apply Kd.R_drew)); exact HO559.out) hb); have n1_ := Aside0.mk (Kd.R_below (by (with_reducible repeat (first | apply Kd.R_alloc | apply Kd.R_drewN | apply Kd.R_drew)); exact HO562.out) hb); have n2_ := Aside0.mk (Kd.R_below (by (with_reducible repeat (first | apply Kd.R_alloc | apply Kd.R_drewN | apply Kd.R_drew)); exact HO565.out) hb); have n3_ := Aside0.mk (Kd.R_elder' (by (with_reducible repeat (first | apply Kd.R_alloc | apply Kd.R_drewN | apply Kd.R_drew)); exact HO569.out) (Kd.R_base ho0) hb); have n4_ := Aside0.mk (Kd.R_lower (Kd.R_new' ho0 (Kd.R_lt (by (with_reducible repeat (first | apply Kd.R_alloc | apply Kd.R_drewN | apply Kd.R_drew)); exact HO569.out))) (below_size (by repeat (first | (with_reducible first | exact HB.out | apply below_alloc | apply pw_below_drewN | apply below_drew1) | exact HB.out)))); have n5_ := Aside0.mk (below_step (by repeat (first | (with_reducible first | exact HB.out | apply below_alloc | apply pw_below_drewN | apply below_drew1) | exact HB.out)) hb); clear HO559; clear HO562; clear HO565; clear HO569; clear HB; have HO559 := n0_; have HO562 := n1_; have HO565 := n2_; have HO569 := n3_; have HO573 := n4_; have HB := n5_; clear n0_ n1_ n2_ n3_ n4_ n5_; (try clear hb); (try clear hb2); (try clear hk); (try clear hi); (try clear ho0); obtain ⟨Ao23, co23, eo23⟩ := Kd.R_slice HO569.out; subst eo23; obtain ⟨Ao24, co24, eo24⟩ := Kd.R_slice HO573.out; subst eo24) | ((with_reducible refine gate_callee (f := 28) rfl ?_); refine goesL_ (some 37) rfl rfl Tryd.func28 (by kernel_rfl) rfl #[.slice Ao23 t567.length co23, .slice Ao24 t571.length co24] rfl (by (try simp only [List.map_toArray, List.map_cons, List.map_nil]); first | done | rfl | (simp only [List.length_drop, List.length_take]; rfl)) ?_; (with_reducible refine (intervalmonref28_Latch.calls k _ _ t567 _ _ t571 t574 _ ?side1 ?side2 ?side3 ?side4 A14.out).mono ?_); (case side1 => repeat (first | exact (Kd.R_reads' HO569.out).2.2 | (with_reducible refine Kd.C_alloc ?_ _) | (with_reducible refine Kd.C_drewN ?_ _) | (with_reducible refine Kd.C_drew ?_))); (case side2 => exact (Kd.R_reads' HO569.out).2.1); (case side3 => repeat (first | exact (Kd.R_reads' HO573.out).2.2 | (with_reducible refine Kd.C_alloc ?_ _) | (with_reducible refine Kd.C_drewN ?_ _) | (with_reducible refine Kd.C_drew ?_))); (case side4 => exact (Kd.R_reads' HO573.out).2.1); rintro e w25 ⟨v575, rfl, ho0, hb⟩; refine ⟨_, rfl, ?_⟩; have n0_ := Aside0.mk (Kd.R_below (by (with_reducible repeat (first | apply Kd.R_alloc | apply Kd.R_drewN | apply Kd.R_drew)); exact HO559.out) hb); have n1_ := Aside0.mk (Kd.R_below (by (with_reducible repeat (first | apply Kd.R_alloc | apply Kd.R_drewN | apply Kd.R_drew)); exact HO562.out) hb); have n2_ := Aside0.mk (Kd.R_below (by (with_reducible repeat (first | apply Kd.R_alloc | apply Kd.R_drewN | apply Kd.R_drew)); exact HO565.out) hb); have n3_ := Aside0.mk (Kd.R_elder' (by (with_reducible repeat (first | apply Kd.R_alloc | apply Kd.R_drewN | apply Kd.R_drew)); exact HO569.out) (Kd.R_base ho0) hb); have n4_ := Aside0.mk (Kd.R_elder' (by (with_reducible repeat (first | apply Kd.R_alloc | apply Kd.R_drewN | apply Kd.R_drew)); exact HO573.out) (Kd.R_base ho0) hb); have n5_ := Aside0.mk (Kd.R_lower (Kd.R_new' (Kd.R_new' ho0 (Kd.R_lt (by (with_reducible repeat (first | apply Kd.R_alloc | apply Kd.R_drewN | apply Kd.R_drew)); exact HO569.out))) (Kd.R_lt (by (with_reducible repeat (first | apply Kd.R_alloc | apply Kd.R_drewN | apply Kd.R_drew)); exact HO573.out))) (below_size (by repeat (first | (with_reducible first | exact HB.out | apply below_alloc | apply pw_below_drewN | apply below_drew1) | exact HB.out)))); have n6_ := Aside0.mk (below_step (by repeat (first | (with_reducible first | exact HB.out | apply below_alloc | apply pw_below_drewN | apply below_drew1) | exact HB.out)) hb); clear HO559; clear HO562; clear HO565; clear HO569; clear HO573; clear HB; have HO559 := n0_; have HO562 := n1_; have HO565 := n2_; have HO569 := n3_; have HO573 := n4_; have HO576 := n5_; have HB := n6_; clear n0_ n1_ n2_ n3_ n4_ n5_ n6_; (try clear hb); (try clear hb2); (try clear hk); (try clear hi); (try clear ho0); obtain ⟨Ao26, co26, eo26⟩ := Kd.R_slice HO565.out; subst eo26; obtain ⟨Ao27, co27, eo27⟩ := Kd.R_slice HO576.out; subst eo27))
    go_loopg [14] k (fun kq v14 w' => ∃ (x14_1 : Int), v14 = .int .i64 x14_1 ∧ Aside0 (intervalmonlaw28_AlertTruths.l0 kq t563 t574 x14_1 = some r) ∧ Aside0 (kq ≤ k) ∧ Aside0 (Kd.R (Kd.int .i64) 3 w' w.heap.size (fun _ => True) (.slice Ao26 t563.length co26) t563) ∧ Aside0 (Kd.R Kd.bool 4 w' w.heap.size (fun _ => True) (.slice Ao27 t574.length co27) t574) ∧ Aside0 (Below w.heap.size w w'))
    case atStart => exact ⟨(0), (by first | rfl | (simp; done) | (simp [*]; done)), H', ⟨Nat.le_refl _⟩, ⟨by (with_reducible repeat (first | apply Kd.R_alloc | apply Kd.R_drewN | apply Kd.R_drew)); exact Kd.R_mono HO565.out (fun _ hk => trivial)⟩, ⟨by (with_reducible repeat (first | apply Kd.R_alloc | apply Kd.R_drewN | apply Kd.R_drew)); exact Kd.R_mono HO576.out (fun _ hk => trivial)⟩, ⟨by repeat (first | (with_reducible first | exact HB.out | apply below_alloc | apply pw_below_drewN | apply below_drew1) | exact HB.out)⟩⟩
    case round =>
      clear H'
      try clear c1
      try clear c2
      try clear p2
      try clear c7
      try clear c15
      try clear c15b0
      try clear c15b1
      try clear c15b2
      try clear c23
      try clear c25
      try clear c27
      obtain ⟨x14_1, rfl, HA, HK1, HO_12, HO_13, HB⟩ := hrel
      cases gk with
      | zero => exact absurd HA.out (by simp [intervalmonlaw28_AlertTruths.l0])
      | succ k1 =>
        have H := HA.out
        clear HA
        simp only [intervalmonlaw28_AlertTruths.l0] at H
        by_cases c28 : x14_1 < (t563.length : Int)
        · rw [if_pos c28] at H
          have c28b0 : decide (x14_1 < (t563.length : Int)) = true := decide_eq_true c28
          clear c28
          by_cases c29 : 0 ≤ x14_1
          · rw [if_pos c29] at H
            have c29b0 : decide (0 ≤ x14_1) = true := decide_eq_true c29
            clear c29
            by_cases c30 : (rd t563 x14_1) = 2
            · rw [if_pos c30] at H
              have c30b0 : ((rd t563 x14_1) == 2) = true := beq_iff_eq.mpr c30
              have c30b1 : ((rd t563 x14_1) != 2) = false := bne_eq_false_iff_eq.mpr c30
              clear c30
              by_cases c31 : x14_1 < (t574.length : Int)
              · rw [if_pos c31] at H
                have c31b0 : decide (x14_1 < (t574.length : Int)) = true := decide_eq_true c31
                clear c31
                obtain ⟨bq32, hbq32⟩ : ∃ b_ : Bool, b_ = (rdOf false t574 x14_1) := ⟨_, rfl⟩
                replace H : (if bq32 = true then (if (rd t563 x14_1) = 0 then (some false) else (intervalmonlaw28_AlertTruths.l0 k1 t563 t574 (wrap64 (x14_1 + 1)))) else (some false)) = some r := by rw [← hbq32] at H; exact H
                have Nbq32 := Aside0.mk hbq32
                clear hbq32
                by_cases c33 : bq32 = true
                · subst c33
                  have H1 : (if (rd t563 x14_1) = 0 then (some false) else (intervalmonlaw28_AlertTruths.l0 k1 t563 t574 (wrap64 (x14_1 + 1)))) = some r := by rw [if_pos rfl] at H; exact H
                  clear H
                  have H := H1
                  clear H1
                  by_cases c34 : (rd t563 x14_1) = 0
                  · rw [if_pos c34] at H
                    have c34b0 : ((rd t563 x14_1) == 0) = true := beq_iff_eq.mpr c34
                    have c34b1 : ((rd t563 x14_1) != 0) = false := bne_eq_false_iff_eq.mpr c34
                    clear c34
                    exact absurd ((beq_iff_eq.mp c30b0).symm.trans (beq_iff_eq.mp c34b0)) (by decide)
                  · rw [if_neg c34] at H
                    have c34b0 : ((rd t563 x14_1) == 0) = false := beq_eq_false_iff_ne.mpr c34
                    have c34b1 : ((rd t563 x14_1) != 0) = true := bne_iff_ne.mpr c34
                    have H' := Aside0.mk H
                    clear H
                    have p577 : 0 ≤ (x14_1 : Int) := of_decide_eq_true (by first | (with_reducible assumption) | assumption)
                    have q577 : x14_1 < (t563.length : Int) := of_decide_eq_true (by first | (with_reducible assumption) | assumption)
                    obtain ⟨Az577, cz577, ez577⟩ := Kd.R_slice HO_12.out
                    (first | subst ez577 | (injection ez577 with f1_ f2_ f3_; subst f1_; subst f3_) | skip)
                    obtain ⟨ad577, e577, hx577_0⟩ := Kd.at_int (Kd.R_reads' HO_12.out).2.2 x14_1 p577 q577
                    cases e577
                    replace p577 := eq_true p577
                    replace q577 := eq_true q577
                    have p578 : 0 ≤ (x14_1 : Int) := of_decide_eq_true (by first | (with_reducible assumption) | assumption)
                    have q578 : x14_1 < (t574.length : Int) := of_decide_eq_true (by first | (with_reducible assumption) | assumption)
                    obtain ⟨Az578, cz578, ez578⟩ := Kd.R_slice HO_13.out
                    (first | subst ez578 | (injection ez578 with f1_ f2_ f3_; subst f1_; subst f3_) | skip)
                    obtain ⟨ad578, e578, hx578_0⟩ := Kd.at_bool (Kd.R_reads' HO_13.out).2.2 x14_1 p578 q578
                    (try rw [← Nbq32.out] at hx578_0)
                    cases e578
                    replace p578 := eq_true p578
                    replace q578 := eq_true q578
                    have p579 : 0 ≤ (x14_1 : Int) := of_decide_eq_true (by first | (with_reducible assumption) | assumption)
                    have q579 : x14_1 < (t563.length : Int) := of_decide_eq_true (by first | (with_reducible assumption) | assumption)
                    obtain ⟨Az579, cz579, ez579⟩ := Kd.R_slice HO_12.out
                    (first | subst ez579 | (injection ez579 with f1_ f2_ f3_; subst f1_; subst f3_) | skip)
                    obtain ⟨ad579, e579, hx579_0⟩ := Kd.at_int (Kd.R_reads' HO_12.out).2.2 x14_1 p579 q579
                    obtain rfl : ad577 = ad579 := (by injection e579)
                    replace p579 := eq_true p579
                    replace q579 := eq_true q579
                    go_wp2
                    go_roundg k1
                    case measure => have := HK1.out; omega
                    case rel => exact ⟨(wrap64 (x14_1 + 1)), (by first | rfl | (simp; done) | (simp [*]; done)), H', ⟨by have := HK1.out; omega⟩, ⟨by (with_reducible repeat (first | apply Kd.R_alloc | apply Kd.R_drewN | apply Kd.R_drew)); exact HO_12.out⟩, ⟨by (with_reducible repeat (first | apply Kd.R_alloc | apply Kd.R_drewN | apply Kd.R_drew)); exact HO_13.out⟩, ⟨by repeat (first | (with_reducible first | exact HB.out | apply below_alloc | apply pw_below_drewN | apply below_drew1) | exact HB.out)⟩⟩
                · replace c33 := Bool.eq_false_iff.mpr c33
                  subst c33
                  have H1 : (some false) = some r := by rw [if_neg (show ¬ (false = true) by decide)] at H; exact H
                  clear H
                  have H := H1
                  clear H1
                  obtain rfl := Option.some.inj H
                  have p577 : 0 ≤ (x14_1 : Int) := of_decide_eq_true (by first | (with_reducible assumption) | assumption)
                  have q577 : x14_1 < (t563.length : Int) := of_decide_eq_true (by first | (with_reducible assumption) | assumption)
                  obtain ⟨Az577, cz577, ez577⟩ := Kd.R_slice HO_12.out
                  (first | subst ez577 | (injection ez577 with f1_ f2_ f3_; subst f1_; subst f3_) | skip)
                  obtain ⟨ad577, e577, hx577_0⟩ := Kd.at_int (Kd.R_reads' HO_12.out).2.2 x14_1 p577 q577
                  cases e577
                  replace p577 := eq_true p577
                  replace q577 := eq_true q577
                  have p578 : 0 ≤ (x14_1 : Int) := of_decide_eq_true (by first | (with_reducible assumption) | assumption)
                  have q578 : x14_1 < (t574.length : Int) := of_decide_eq_true (by first | (with_reducible assumption) | assumption)
                  obtain ⟨Az578, cz578, ez578⟩ := Kd.R_slice HO_13.out
                  (first | subst ez578 | (injection ez578 with f1_ f2_ f3_; subst f1_; subst f3_) | skip)
                  obtain ⟨ad578, e578, hx578_0⟩ := Kd.at_bool (Kd.R_reads' HO_13.out).2.2 x14_1 p578 q578
                  (try rw [← Nbq32.out] at hx578_0)
                  cases e578
                  replace p578 := eq_true p578
                  replace q578 := eq_true q578
                  go_wp2
                  go_ret
                  exact ⟨by first | rfl | (simp [errW_none, errW_some] <;> rfl) | (simp only [← hji5, ← hji6]; first | rfl | (simp [errW_none, errW_some] <;> rfl)) | (simp [*, errW_none, errW_some] <;> rfl), by repeat (first | (with_reducible first | exact HB.out | apply below_alloc | apply pw_below_drewN | apply below_drew1) | exact HB.out)⟩
              · rw [if_neg c31] at H
                exact absurd H (by simp)
            · rw [if_neg c30] at H
              have c30b0 : ((rd t563 x14_1) == 2) = false := beq_eq_false_iff_ne.mpr c30
              have c30b1 : ((rd t563 x14_1) != 2) = true := bne_iff_ne.mpr c30
              by_cases c35 : (rd t563 x14_1) = 0
              · rw [if_pos c35] at H
                have c35b0 : ((rd t563 x14_1) == 0) = true := beq_iff_eq.mpr c35
                have c35b1 : ((rd t563 x14_1) != 0) = false := bne_eq_false_iff_eq.mpr c35
                clear c35
                by_cases c36 : x14_1 < (t574.length : Int)
                · rw [if_pos c36] at H
                  have c36b0 : decide (x14_1 < (t574.length : Int)) = true := decide_eq_true c36
                  clear c36
                  obtain ⟨bq37, hbq37⟩ : ∃ b_ : Bool, b_ = (rdOf false t574 x14_1) := ⟨_, rfl⟩
                  replace H : (if bq37 = true then (some false) else (intervalmonlaw28_AlertTruths.l0 k1 t563 t574 (wrap64 (x14_1 + 1)))) = some r := by rw [← hbq37] at H; exact H
                  have Nbq37 := Aside0.mk hbq37
                  clear hbq37
                  by_cases c38 : bq37 = true
                  · subst c38
                    have H1 : (some false) = some r := by rw [if_pos rfl] at H; exact H
                    clear H
                    have H := H1
                    clear H1
                    obtain rfl := Option.some.inj H
                    have p577 : 0 ≤ (x14_1 : Int) := of_decide_eq_true (by first | (with_reducible assumption) | assumption)
                    have q577 : x14_1 < (t563.length : Int) := of_decide_eq_true (by first | (with_reducible assumption) | assumption)
                    obtain ⟨Az577, cz577, ez577⟩ := Kd.R_slice HO_12.out
                    (first | subst ez577 | (injection ez577 with f1_ f2_ f3_; subst f1_; subst f3_) | skip)
                    obtain ⟨ad577, e577, hx577_0⟩ := Kd.at_int (Kd.R_reads' HO_12.out).2.2 x14_1 p577 q577
                    cases e577
                    replace p577 := eq_true p577
                    replace q577 := eq_true q577
                    have p581 : 0 ≤ (x14_1 : Int) := of_decide_eq_true (by first | (with_reducible assumption) | assumption)
                    have q581 : x14_1 < (t563.length : Int) := of_decide_eq_true (by first | (with_reducible assumption) | assumption)
                    obtain ⟨Az581, cz581, ez581⟩ := Kd.R_slice HO_12.out
                    (first | subst ez581 | (injection ez581 with f1_ f2_ f3_; subst f1_; subst f3_) | skip)
                    obtain ⟨ad581, e581, hx581_0⟩ := Kd.at_int (Kd.R_reads' HO_12.out).2.2 x14_1 p581 q581
                    obtain rfl : ad577 = ad581 := (by injection e581)
                    replace p581 := eq_true p581
                    replace q581 := eq_true q581
                    have p582 : 0 ≤ (x14_1 : Int) := of_decide_eq_true (by first | (with_reducible assumption) | assumption)
                    have q582 : x14_1 < (t574.length : Int) := of_decide_eq_true (by first | (with_reducible assumption) | assumption)
                    obtain ⟨Az582, cz582, ez582⟩ := Kd.R_slice HO_13.out
                    (first | subst ez582 | (injection ez582 with f1_ f2_ f3_; subst f1_; subst f3_) | skip)
                    obtain ⟨ad582, e582, hx582_0⟩ := Kd.at_bool (Kd.R_reads' HO_13.out).2.2 x14_1 p582 q582
                    (try rw [← Nbq37.out] at hx582_0)
                    cases e582
                    replace p582 := eq_true p582
                    replace q582 := eq_true q582
                    go_wp2
                    go_ret
                    exact ⟨by first | rfl | (simp [errW_none, errW_some] <;> rfl) | (simp only [← hji5, ← hji6]; first | rfl | (simp [errW_none, errW_some] <;> rfl)) | (simp [*, errW_none, errW_some] <;> rfl), by repeat (first | (with_reducible first | exact HB.out | apply below_alloc | apply pw_below_drewN | apply below_drew1) | exact HB.out)⟩
                  · replace c38 := Bool.eq_false_iff.mpr c38
                    subst c38
                    have H1 : (intervalmonlaw28_AlertTruths.l0 k1 t563 t574 (wrap64 (x14_1 + 1))) = some r := by rw [if_neg (show ¬ (false = true) by decide)] at H; exact H
                    clear H
                    have H := H1
                    clear H1
                    have H' := Aside0.mk H
                    clear H
                    have p577 : 0 ≤ (x14_1 : Int) := of_decide_eq_true (by first | (with_reducible assumption) | assumption)
                    have q577 : x14_1 < (t563.length : Int) := of_decide_eq_true (by first | (with_reducible assumption) | assumption)
                    obtain ⟨Az577, cz577, ez577⟩ := Kd.R_slice HO_12.out
                    (first | subst ez577 | (injection ez577 with f1_ f2_ f3_; subst f1_; subst f3_) | skip)
                    obtain ⟨ad577, e577, hx577_0⟩ := Kd.at_int (Kd.R_reads' HO_12.out).2.2 x14_1 p577 q577
                    cases e577
                    replace p577 := eq_true p577
                    replace q577 := eq_true q577
                    have p581 : 0 ≤ (x14_1 : Int) := of_decide_eq_true (by first | (with_reducible assumption) | assumption)
                    have q581 : x14_1 < (t563.length : Int) := of_decide_eq_true (by first | (with_reducible assumption) | assumption)
                    obtain ⟨Az581, cz581, ez581⟩ := Kd.R_slice HO_12.out
                    (first | subst ez581 | (injection ez581 with f1_ f2_ f3_; subst f1_; subst f3_) | skip)
                    obtain ⟨ad581, e581, hx581_0⟩ := Kd.at_int (Kd.R_reads' HO_12.out).2.2 x14_1 p581 q581
                    obtain rfl : ad577 = ad581 := (by injection e581)
                    replace p581 := eq_true p581
                    replace q581 := eq_true q581
                    have p582 : 0 ≤ (x14_1 : Int) := of_decide_eq_true (by first | (with_reducible assumption) | assumption)
                    have q582 : x14_1 < (t574.length : Int) := of_decide_eq_true (by first | (with_reducible assumption) | assumption)
                    obtain ⟨Az582, cz582, ez582⟩ := Kd.R_slice HO_13.out
                    (first | subst ez582 | (injection ez582 with f1_ f2_ f3_; subst f1_; subst f3_) | skip)
                    obtain ⟨ad582, e582, hx582_0⟩ := Kd.at_bool (Kd.R_reads' HO_13.out).2.2 x14_1 p582 q582
                    (try rw [← Nbq37.out] at hx582_0)
                    cases e582
                    replace p582 := eq_true p582
                    replace q582 := eq_true q582
                    go_wp2
                    go_roundg k1
                    case measure => have := HK1.out; omega
                    case rel => exact ⟨(wrap64 (x14_1 + 1)), (by first | rfl | (simp; done) | (simp [*]; done)), H', ⟨by have := HK1.out; omega⟩, ⟨by (with_reducible repeat (first | apply Kd.R_alloc | apply Kd.R_drewN | apply Kd.R_drew)); exact HO_12.out⟩, ⟨by (with_reducible repeat (first | apply Kd.R_alloc | apply Kd.R_drewN | apply Kd.R_drew)); exact HO_13.out⟩, ⟨by repeat (first | (with_reducible first | exact HB.out | apply below_alloc | apply pw_below_drewN | apply below_drew1) | exact HB.out)⟩⟩
                · rw [if_neg c36] at H
                  exact absurd H (by simp)
              · rw [if_neg c35] at H
                have c35b0 : ((rd t563 x14_1) == 0) = false := beq_eq_false_iff_ne.mpr c35
                have c35b1 : ((rd t563 x14_1) != 0) = true := bne_iff_ne.mpr c35
                have H' := Aside0.mk H
                clear H
                have p577 : 0 ≤ (x14_1 : Int) := of_decide_eq_true (by first | (with_reducible assumption) | assumption)
                have q577 : x14_1 < (t563.length : Int) := of_decide_eq_true (by first | (with_reducible assumption) | assumption)
                obtain ⟨Az577, cz577, ez577⟩ := Kd.R_slice HO_12.out
                (first | subst ez577 | (injection ez577 with f1_ f2_ f3_; subst f1_; subst f3_) | skip)
                obtain ⟨ad577, e577, hx577_0⟩ := Kd.at_int (Kd.R_reads' HO_12.out).2.2 x14_1 p577 q577
                cases e577
                replace p577 := eq_true p577
                replace q577 := eq_true q577
                have p581 : 0 ≤ (x14_1 : Int) := of_decide_eq_true (by first | (with_reducible assumption) | assumption)
                have q581 : x14_1 < (t563.length : Int) := of_decide_eq_true (by first | (with_reducible assumption) | assumption)
                obtain ⟨Az581, cz581, ez581⟩ := Kd.R_slice HO_12.out
                (first | subst ez581 | (injection ez581 with f1_ f2_ f3_; subst f1_; subst f3_) | skip)
                obtain ⟨ad581, e581, hx581_0⟩ := Kd.at_int (Kd.R_reads' HO_12.out).2.2 x14_1 p581 q581
                obtain rfl : ad577 = ad581 := (by injection e581)
                replace p581 := eq_true p581
                replace q581 := eq_true q581
                go_wp2
                go_roundg k1
                case measure => have := HK1.out; omega
                case rel => exact ⟨(wrap64 (x14_1 + 1)), (by first | rfl | (simp; done) | (simp [*]; done)), H', ⟨by have := HK1.out; omega⟩, ⟨by (with_reducible repeat (first | apply Kd.R_alloc | apply Kd.R_drewN | apply Kd.R_drew)); exact HO_12.out⟩, ⟨by (with_reducible repeat (first | apply Kd.R_alloc | apply Kd.R_drewN | apply Kd.R_drew)); exact HO_13.out⟩, ⟨by repeat (first | (with_reducible first | exact HB.out | apply below_alloc | apply pw_below_drewN | apply below_drew1) | exact HB.out)⟩⟩
          · rw [if_neg c29] at H
            exact absurd H (by simp)
        · rw [if_neg c28] at H
          have c28b0 : decide (x14_1 < (t563.length : Int)) = false := decide_eq_false c28
          clear c28
          replace H := Option.bind_eq_some_iff.mp H
          obtain ⟨t583, A390, H⟩ := H
          replace H : (some t583) = some r := H
          have A39 := Aside0.mk A390
          clear A390
          obtain rfl := Option.some.inj H
          go_wp2_with (first | ((with_reducible refine gate_callee (f := 17) rfl ?_); refine goesL_ (some 74) rfl rfl Tryd.func17 (by kernel_rfl) rfl #[] rfl (by (try simp only [List.map_toArray, List.map_cons, List.map_nil]); first | done | rfl | (simp only [List.length_drop, List.length_take]; rfl)) ?_; (with_reducible refine (intervalmonlaw28_lives.calls  t583 _ ?side1 A39.out).mono ?_); (case side1 => first | exact Allowed.below HLd.out (by repeat (first | (with_reducible first | exact HB.out | apply below_alloc | apply pw_below_drewN | apply below_drew1) | exact HB.out)) | (repeat (first | exact HLd.out | apply Allowed.drewN | apply Allowed.drew | apply Allowed.alloc))); rintro e w40 ⟨rfl, hb⟩; refine ⟨_, rfl, ?_⟩; have n0_ := Aside0.mk (Kd.R_below (by (with_reducible repeat (first | apply Kd.R_alloc | apply Kd.R_drewN | apply Kd.R_drew)); exact HO_12.out) hb); have n1_ := Aside0.mk (Kd.R_below (by (with_reducible repeat (first | apply Kd.R_alloc | apply Kd.R_drewN | apply Kd.R_drew)); exact HO_13.out) hb); have n2_ := Aside0.mk (below_step (by repeat (first | (with_reducible first | exact HB.out | apply below_alloc | apply pw_below_drewN | apply below_drew1) | exact HB.out)) hb); clear HO_12; clear HO_13; clear HB; have HO_12 := n0_; have HO_13 := n1_; have HB := n2_; clear n0_ n1_ n2_; (try clear hb); (try clear hb2); (try clear hk); (try clear hi)))
          go_ret
          exact ⟨by first | rfl | (simp [errW_none, errW_some] <;> rfl) | (simp only [← hji5, ← hji6]; first | rfl | (simp [errW_none, errW_some] <;> rfl)) | (simp [*, errW_none, errW_some] <;> rfl), by repeat (first | (with_reducible first | exact HB.out | apply below_alloc | apply pw_below_drewN | apply below_drew1) | exact HB.out)⟩
  · rw [if_neg c15] at H
    have c15b0 : ((t563.length : Int) == (t574.length : Int)) = false := beq_eq_false_iff_ne.mpr c15
    have c15b1 : ((t563.length : Int) != (t574.length : Int)) = true := bne_iff_ne.mpr c15
    have c15b2 : (t563.length == t574.length) = false := by first | simpa using c15 | (simp at c15 ⊢; omega)
    obtain rfl := Option.some.inj H
    go_enter Tryd.func7, Tryd.ntmps7
    go_wp2_with (first | ((with_reducible refine gate_callee (f := 23) rfl ?_); refine goesL_ (some 22) rfl rfl Tryd.func23 (by kernel_rfl) rfl #[.slice A0 l0.length c0, .int .i64 ji6] rfl (by (try simp only [List.map_toArray, List.map_cons, List.map_nil]); first | done | (simp only [hji6]; rfl) | rfl | (simp only [List.length_drop, List.length_take]; rfl)) ?_; (with_reducible refine (intervalmonref28_Verdicts.calls k _ _ l0 ji6 t557 _ ?side1 ?side2 A7.out).mono ?_); (case side1 => repeat (first | exact HR0.out | (with_reducible refine Kd.C_alloc ?_ _) | (with_reducible refine Kd.C_drewN ?_ _) | (with_reducible refine Kd.C_drew ?_))); (case side2 => exact HC0.out); rintro e w41 ⟨v558, rfl, ho0, hb⟩; refine ⟨_, rfl, ?_⟩; have n0_ := Aside0.mk (Kd.R_lower ho0 (below_size (by repeat (first | (with_reducible first | exact HB.out | apply below_alloc | apply pw_below_drewN | apply below_drew1) | exact HB.out)))); have n1_ := Aside0.mk (below_step (by repeat (first | (with_reducible first | exact HB.out | apply below_alloc | apply pw_below_drewN | apply below_drew1) | exact HB.out)) hb); clear HB; have HO559 := n0_; have HB := n1_; clear n0_ n1_; (try clear hb); (try clear hb2); (try clear hk); (try clear hi); (try clear ho0)) | ((with_reducible refine gate_callee (f := 23) rfl ?_); refine goesL_ (some 25) rfl rfl Tryd.func23 (by kernel_rfl) rfl #[.slice A1 l1.length c1, .int .i64 ji6] rfl (by (try simp only [List.map_toArray, List.map_cons, List.map_nil]); first | done | (simp only [hji6]; rfl) | rfl | (simp only [List.length_drop, List.length_take]; rfl)) ?_; (with_reducible refine (intervalmonref28_Verdicts.calls k _ _ l1 ji6 t560 _ ?side1 ?side2 A8.out).mono ?_); (case side1 => repeat (first | exact (Kd.C_below HR1.out HB.out) | (with_reducible refine Kd.C_alloc ?_ _) | (with_reducible refine Kd.C_drewN ?_ _) | (with_reducible refine Kd.C_drew ?_))); (case side2 => exact HC1.out); rintro e w42 ⟨v561, rfl, ho0, hb⟩; refine ⟨_, rfl, ?_⟩; have n0_ := Aside0.mk (Kd.R_elder' (by (with_reducible repeat (first | apply Kd.R_alloc | apply Kd.R_drewN | apply Kd.R_drew)); exact HO559.out) (Kd.R_base ho0) hb); have n1_ := Aside0.mk (Kd.R_lower (Kd.R_new' ho0 (Kd.R_lt (by (with_reducible repeat (first | apply Kd.R_alloc | apply Kd.R_drewN | apply Kd.R_drew)); exact HO559.out))) (below_size (by repeat (first | (with_reducible first | exact HB.out | apply below_alloc | apply pw_below_drewN | apply below_drew1) | exact HB.out)))); have n2_ := Aside0.mk (below_step (by repeat (first | (with_reducible first | exact HB.out | apply below_alloc | apply pw_below_drewN | apply below_drew1) | exact HB.out)) hb); clear HO559; clear HB; have HO559 := n0_; have HO562 := n1_; have HB := n2_; clear n0_ n1_ n2_; (try clear hb); (try clear hb2); (try clear hk); (try clear hi); (try clear ho0); obtain ⟨Ao43, co43, eo43⟩ := Kd.R_slice HO559.out; subst eo43; obtain ⟨Ao44, co44, eo44⟩ := Kd.R_slice HO562.out; subst eo44) | ((with_reducible refine gate_callee (f := 25) rfl ?_); refine goesL_ (some 28) rfl rfl Tryd.func25 (by kernel_rfl) rfl #[.slice Ao43 t557.length co43, .slice Ao44 t560.length co44] rfl (by (try simp only [List.map_toArray, List.map_cons, List.map_nil]); first | done | rfl | (simp only [List.length_drop, List.length_take]; rfl)) ?_; (with_reducible refine (alert_Hysteresis.calls _ _ t557 _ _ t560 t563 _ ?side1 ?side2 ?side3 ?side4 A9.out).mono ?_); (case side1 => repeat (first | exact (Kd.R_reads' HO559.out).2.2 | (with_reducible refine Kd.C_alloc ?_ _) | (with_reducible refine Kd.C_drewN ?_ _) | (with_reducible refine Kd.C_drew ?_))); (case side2 => exact (Kd.R_reads' HO559.out).2.1); (case side3 => repeat (first | exact (Kd.R_reads' HO562.out).2.2 | (with_reducible refine Kd.C_alloc ?_ _) | (with_reducible refine Kd.C_drewN ?_ _) | (with_reducible refine Kd.C_drew ?_))); (case side4 => exact (Kd.R_reads' HO562.out).2.1); rintro e w45 ⟨v564, rfl, ho0, hb⟩; refine ⟨_, rfl, ?_⟩; have n0_ := Aside0.mk (Kd.R_elder' (by (with_reducible repeat (first | apply Kd.R_alloc | apply Kd.R_drewN | apply Kd.R_drew)); exact HO559.out) (Kd.R_base ho0) hb); have n1_ := Aside0.mk (Kd.R_elder' (by (with_reducible repeat (first | apply Kd.R_alloc | apply Kd.R_drewN | apply Kd.R_drew)); exact HO562.out) (Kd.R_base ho0) hb); have n2_ := Aside0.mk (Kd.R_lower (Kd.R_new' (Kd.R_new' ho0 (Kd.R_lt (by (with_reducible repeat (first | apply Kd.R_alloc | apply Kd.R_drewN | apply Kd.R_drew)); exact HO559.out))) (Kd.R_lt (by (with_reducible repeat (first | apply Kd.R_alloc | apply Kd.R_drewN | apply Kd.R_drew)); exact HO562.out))) (below_size (by repeat (first | (with_reducible first | exact HB.out | apply below_alloc | apply pw_below_drewN | apply below_drew1) | exact HB.out)))); have n3_ := Aside0.mk (below_step (by repeat (first | (with_reducible first | exact HB.out | apply below_alloc | apply pw_below_drewN | apply below_drew1) | exact HB.out)) hb); clear HO559; clear HO562; clear HB; have HO559 := n0_; have HO562 := n1_; have HO565 := n2_; have HB := n3_; clear n0_ n1_ n2_ n3_; (try clear hb); (try clear hb2); (try clear hk); (try clear hi); (try clear ho0)) | ((with_reducible refine gate_callee (f := 27) rfl ?_); refine goesL_ (some 31) rfl rfl Tryd.func27 (by kernel_rfl) rfl #[.int .i64 a2, .int .i64 4611686018427387904] rfl (by (try simp only [List.map_toArray, List.map_cons, List.map_nil]); first | done | rfl | (simp only [List.length_drop, List.length_take]; rfl)) ?_; (with_reducible refine (intervalmonref01_Around.calls a2 4611686018427387904 t566 _ A10.out).mono ?_); rintro e w' ⟨rfl, ⟨nd, rfl⟩⟩; refine ⟨_, rfl, ?_⟩) | ((with_reducible refine gate_callee (f := 29) rfl ?_); refine goesL_ (some 32) rfl rfl Tryd.func29 (by kernel_rfl) rfl #[.slice Ao43 t557.length co43, .int .i64 t566] rfl (by (try simp only [List.map_toArray, List.map_cons, List.map_nil]); first | done | rfl | (simp only [List.length_drop, List.length_take]; rfl)) ?_; (with_reducible refine (intervalmonref28_Truths.calls k _ _ t557 t566 t567 _ ?side1 ?side2 A11.out).mono ?_); (case side1 => repeat (first | exact (Kd.R_reads' HO559.out).2.2 | (with_reducible refine Kd.C_alloc ?_ _) | (with_reducible refine Kd.C_drewN ?_ _) | (with_reducible refine Kd.C_drew ?_))); (case side2 => exact (Kd.R_reads' HO559.out).2.1); rintro e w46 ⟨v568, rfl, ho0, hb⟩; refine ⟨_, rfl, ?_⟩; have n0_ := Aside0.mk (Kd.R_below (by (with_reducible repeat (first | apply Kd.R_alloc | apply Kd.R_drewN | apply Kd.R_drew)); exact HO559.out) hb); have n1_ := Aside0.mk (Kd.R_below (by (with_reducible repeat (first | apply Kd.R_alloc | apply Kd.R_drewN | apply Kd.R_drew)); exact HO562.out) hb); have n2_ := Aside0.mk (Kd.R_below (by (with_reducible repeat (first | apply Kd.R_alloc | apply Kd.R_drewN | apply Kd.R_drew)); exact HO565.out) hb); have n3_ := Aside0.mk (Kd.R_lower ho0 (below_size (by repeat (first | (with_reducible first | exact HB.out | apply below_alloc | apply pw_below_drewN | apply below_drew1) | exact HB.out)))); have n4_ := Aside0.mk (below_step (by repeat (first | (with_reducible first | exact HB.out | apply below_alloc | apply pw_below_drewN | apply below_drew1) | exact HB.out)) hb); clear HO559; clear HO562; clear HO565; clear HB; have HO559 := n0_; have HO562 := n1_; have HO565 := n2_; have HO569 := n3_; have HB := n4_; clear n0_ n1_ n2_ n3_ n4_; (try clear hb); (try clear hb2); (try clear hk); (try clear hi); (try clear ho0)) | ((with_reducible refine gate_callee (f := 27) rfl ?_); refine goesL_ (some 35) rfl rfl Tryd.func27 (by kernel_rfl) rfl #[.int .i64 a3, .int .i64 4611686018427387904] rfl (by (try simp only [List.map_toArray, List.map_cons, List.map_nil]); first | done | rfl | (simp only [List.length_drop, List.length_take]; rfl)) ?_; (with_reducible refine (intervalmonref01_Around.calls a3 4611686018427387904 t570 _ A12.out).mono ?_); rintro e w' ⟨rfl, ⟨nd, rfl⟩⟩; refine ⟨_, rfl, ?_⟩) | ((with_reducible refine gate_callee (f := 29) rfl ?_); refine goesL_ (some 36) rfl rfl Tryd.func29 (by kernel_rfl) rfl #[.slice Ao44 t560.length co44, .int .i64 t570] rfl (by (try simp only [List.map_toArray, List.map_cons, List.map_nil]); first | done | rfl | (simp only [List.length_drop, List.length_take]; rfl)) ?_; (with_reducible refine (intervalmonref28_Truths.calls k _ _ t560 t570 t571 _ ?side1 ?side2 A13.out).mono ?_); (case side1 => repeat (first | exact (Kd.R_reads' HO562.out).2.2 | (with_reducible refine Kd.C_alloc ?_ _) | (with_reducible refine Kd.C_drewN ?_ _) | (with_reducible refine Kd.C_drew ?_))); (case side2 => exact (Kd.R_reads' HO562.out).2.1); rintro e w47 ⟨v572, rfl, ho0, hb⟩; refine ⟨_, rfl, ?_⟩; have n0_ := Aside0.mk (Kd.R_below (by (with_reducible repeat (first | apply Kd.R_alloc | apply Kd.R_drewN | apply Kd.R_drew)); exact HO559.out) hb); have n1_ := Aside0.mk (Kd.R_below (by (with_reducible repeat (first | apply Kd.R_alloc | apply Kd.R_drewN | apply Kd.R_drew)); exact HO562.out) hb); have n2_ := Aside0.mk (Kd.R_below (by (with_reducible repeat (first | apply Kd.R_alloc | apply Kd.R_drewN | apply Kd.R_drew)); exact HO565.out) hb); have n3_ := Aside0.mk (Kd.R_elder' (by (with_reducible repeat (first | apply Kd.R_alloc | apply Kd.R_drewN | apply Kd.R_drew)); exact HO569.out) (Kd.R_base ho0) hb); have n4_ := Aside0.mk (Kd.R_lower (Kd.R_new' ho0 (Kd.R_lt (by (with_reducible repeat (first | apply Kd.R_alloc | apply Kd.R_drewN | apply Kd.R_drew)); exact HO569.out))) (below_size (by repeat (first | (with_reducible first | exact HB.out | apply below_alloc | apply pw_below_drewN | apply below_drew1) | exact HB.out)))); have n5_ := Aside0.mk (below_step (by repeat (first | (with_reducible first | exact HB.out | apply below_alloc | apply pw_below_drewN | apply below_drew1) | exact HB.out)) hb); clear HO559; clear HO562; clear HO565; clear HO569; clear HB; have HO559 := n0_; have HO562 := n1_; have HO565 := n2_; have HO569 := n3_; have HO573 := n4_; have HB := n5_; clear n0_ n1_ n2_ n3_ n4_ n5_; (try clear hb); (try clear hb2); (try clear hk); (try clear hi); (try clear ho0); obtain ⟨Ao48, co48, eo48⟩ := Kd.R_slice HO569.out; subst eo48; obtain ⟨Ao49, co49, eo49⟩ := Kd.R_slice HO573.out; subst eo49) | ((with_reducible refine gate_callee (f := 28) rfl ?_); refine goesL_ (some 37) rfl rfl Tryd.func28 (by kernel_rfl) rfl #[.slice Ao48 t567.length co48, .slice Ao49 t571.length co49] rfl (by (try simp only [List.map_toArray, List.map_cons, List.map_nil]); first | done | rfl | (simp only [List.length_drop, List.length_take]; rfl)) ?_; (with_reducible refine (intervalmonref28_Latch.calls k _ _ t567 _ _ t571 t574 _ ?side1 ?side2 ?side3 ?side4 A14.out).mono ?_); (case side1 => repeat (first | exact (Kd.R_reads' HO569.out).2.2 | (with_reducible refine Kd.C_alloc ?_ _) | (with_reducible refine Kd.C_drewN ?_ _) | (with_reducible refine Kd.C_drew ?_))); (case side2 => exact (Kd.R_reads' HO569.out).2.1); (case side3 => repeat (first | exact (Kd.R_reads' HO573.out).2.2 | (with_reducible refine Kd.C_alloc ?_ _) | (with_reducible refine Kd.C_drewN ?_ _) | (with_reducible refine Kd.C_drew ?_))); (case side4 => exact (Kd.R_reads' HO573.out).2.1); rintro e w50 ⟨v575, rfl, ho0, hb⟩; refine ⟨_, rfl, ?_⟩; have n0_ := Aside0.mk (Kd.R_below (by (with_reducible repeat (first | apply Kd.R_alloc | apply Kd.R_drewN | apply Kd.R_drew)); exact HO559.out) hb); have n1_ := Aside0.mk (Kd.R_below (by (with_reducible repeat (first | apply Kd.R_alloc | apply Kd.R_drewN | apply Kd.R_drew)); exact HO562.out) hb); have n2_ := Aside0.mk (Kd.R_below (by (with_reducible repeat (first | apply Kd.R_alloc | apply Kd.R_drewN | apply Kd.R_drew)); exact HO565.out) hb); have n3_ := Aside0.mk (Kd.R_elder' (by (with_reducible repeat (first | apply Kd.R_alloc | apply Kd.R_drewN | apply Kd.R_drew)); exact HO569.out) (Kd.R_base ho0) hb); have n4_ := Aside0.mk (Kd.R_elder' (by (with_reducible repeat (first | apply Kd.R_alloc | apply Kd.R_drewN | apply Kd.R_drew)); exact HO573.out) (Kd.R_base ho0) hb); have n5_ := Aside0.mk (Kd.R_lower (Kd.R_new' (Kd.R_new' ho0 (Kd.R_lt (by (with_reducible repeat (first | apply Kd.R_alloc | apply Kd.R_drewN | apply Kd.R_drew)); exact HO569.out))) (Kd.R_lt (by (with_reducible repeat (first | apply Kd.R_alloc | apply Kd.R_drewN | apply Kd.R_drew)); exact HO573.out))) (below_size (by repeat (first | (with_reducible first | exact HB.out | apply below_alloc | apply pw_below_drewN | apply below_drew1) | exact HB.out)))); have n6_ := Aside0.mk (below_step (by repeat (first | (with_reducible first | exact HB.out | apply below_alloc | apply pw_below_drewN | apply below_drew1) | exact HB.out)) hb); clear HO559; clear HO562; clear HO565; clear HO569; clear HO573; clear HB; have HO559 := n0_; have HO562 := n1_; have HO565 := n2_; have HO569 := n3_; have HO573 := n4_; have HO576 := n5_; have HB := n6_; clear n0_ n1_ n2_ n3_ n4_ n5_ n6_; (try clear hb); (try clear hb2); (try clear hk); (try clear hi); (try clear ho0); obtain ⟨Ao51, co51, eo51⟩ := Kd.R_slice HO565.out; subst eo51; obtain ⟨Ao52, co52, eo52⟩ := Kd.R_slice HO576.out; subst eo52))
    go_ret
    exact ⟨by first | rfl | (simp [errW_none, errW_some] <;> rfl) | (simp only [← hji5, ← hji6]; first | rfl | (simp [errW_none, errW_some] <;> rfl)) | (simp [*, errW_none, errW_some] <;> rfl), by repeat (first | (with_reducible first | exact HB.out | apply below_alloc | apply pw_below_drewN | apply below_drew1) | exact HB.out)⟩

/-- THE ONE PURE STATEMENT of intervalmonlaw28_AlertTruths: yours. -/
def intervalmonlaw28_AlertTruths.Pure : Prop := ∀ (l0 : List Int) (l1 : List Int) (a2 : Int) (a3 : Int), l0.length ≤ maxLen → l0.length * 8 ≤ 140737488351232 → (∀ x ∈ l0, (Lit.int .i64 x).wf = true) → l1.length ≤ maxLen → l1.length * 8 ≤ 140737488351232 → (∀ x ∈ l1, (Lit.int .i64 x).wf = true) → (Lit.int .i64 a2).wf = true → (Lit.int .i64 a3).wf = true → ∃ k, intervalmonlaw28_AlertTruths.f k l0 l1 a2 a3 = some true
theorem intervalmonlaw28_AlertTruths.walk (P : intervalmonlaw28_AlertTruths.Pure) (a0 : Option Addr) (len0 cap0 : Nat) (z0 : List Int) (a1 : Option Addr) (len1 cap1 : Nat) (z1 : List Int) (a2 : Int) (a3 : Int) (w : World) (hLd : Allowed w) (w0 : (a0 = none ∧ len0 = 0 ∧ cap0 = 0 ∧ z0 = []) ∨ ∃ x, a0 = some x ∧ len0 ≤ cap0 ∧ cap0 ≤ maxLen ∧ z0.length = cap0 ∧ (∀ i, i < z0.length → w.cell? (x.add i) = some (.int .i64 (z0.getD i 0))) ∧ ∀ n ∈ z0, (Lit.int .i64 n).wf = true) (y0 : len0 * 8 ≤ 140737488351232) (w1 : (a1 = none ∧ len1 = 0 ∧ cap1 = 0 ∧ z1 = []) ∨ ∃ x, a1 = some x ∧ len1 ≤ cap1 ∧ cap1 ≤ maxLen ∧ z1.length = cap1 ∧ (∀ i, i < z1.length → w.cell? (x.add i) = some (.int .i64 (z1.getD i 0))) ∧ ∀ n ∈ z1, (Lit.int .i64 n).wf = true) (y1 : len1 * 8 ≤ 140737488351232) (w2 : (Lit.int .i64 a2).wf = true) (w3 : (Lit.int .i64 a3).wf = true) :
    Calls Tryd.prog 7 #[.slice a0 len0 cap0, .slice a1 len1 cap1, .int .i64 a2, .int .i64 a3] w fun e w' => e = .returned (.bool true) ∧ Below w.heap.size w w' := by
  obtain ⟨l0, rfl, hr0, hm0, hw0, hc0⟩ := ReadsInt.ofRowC w0
  obtain ⟨l1, rfl, hr1, hm1, hw1, hc1⟩ := ReadsInt.ofRowC w1
  obtain ⟨k, h⟩ := P l0 l1 a2 a3 hm0 y0 hw0 hm1 y1 hw1 w2 w3
  refine (intervalmonlaw28_AlertTruths.calls k _ _ l0 _ _ l1 a2 a3 true w hLd (Kd.C_of_reads (d := (0 : Int)) (h1 := fun _ => rfl) hr0) hc0 (Kd.C_of_reads (d := (0 : Int)) (h1 := fun _ => rfl) hr1) hc1 h).mono ?_
  rintro e w' ⟨rfl, hd⟩
  exact ⟨rfl, hd⟩

end Go.Proofs.YtbbddeilbcpmiaaDoor.Q
