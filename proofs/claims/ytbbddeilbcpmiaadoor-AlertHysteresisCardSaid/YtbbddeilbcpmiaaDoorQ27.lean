-- Written by a program (pp: this repo's wip/pp/patch.py over the kit's print), out of the translation. Lean checks it.
import Derived.Test.YtbbddeilbcpmiaaDoorQ0
import Derived.Test.YtbbddeilbcpmiaaDoorQ25
import Derived.Test.YtbbddeilbcpmiaaDoorQ26
namespace Go.Proofs.YtbbddeilbcpmiaaDoor.Q
open Go.RowKit Go.Proofs.YtbbddeilbcpmiaaDoorW.PrintWords Go.Proofs.YtbbddeilbcpmiaaDoorW.PrintLast Go.Proofs.YtbbddeilbcpmiaaDoorW.PrintMore
attribute [local go_sem] max2_int min2_int max_two min_two max_three min_three max_four min_four   -- for this text's walks alone
set_option linter.unusedVariables false
set_option linter.unusedSimpArgs false

/-! ### intervalmonref28_Hysteresis: function 26 -/
mutual
def intervalmonref28_Hysteresis.l0 : Nat → List Int → List Int → Int → Int → Option (List Int)
  | 0, _, _, _, _ => none
  | k + 1, x0, x1, x5, x7 => if x7 < x5 then (if 0 ≤ x7 then (if x7 < (x0.length : Int) then (if (rd x0 x7) < 0 then (some ([] : List Int)) else (if (rd x0 x7) > 2 then (some ([] : List Int)) else (if x7 < (x1.length : Int) then (if (rd x1 x7) < 0 then (some ([] : List Int)) else (if (rd x1 x7) > 2 then (some ([] : List Int)) else (intervalmonref28_Hysteresis.l0 k x0 x1 x5 (wrap64 (x7 + 1))))) else (none)))) else (none)) else (none)) else (if 0 ≤ x5 then (if (x5 : Int).toNat ≤ 281474976710656 then (intervalmonref28_Hysteresis.l1 k x0 x1 x5 (List.replicate (x5 : Int).toNat false) (List.replicate (x5 : Int).toNat false) 0) else (none)) else (none))
def intervalmonref28_Hysteresis.l1 : Nat → List Int → List Int → Int → List Bool → List Bool → Int → Option (List Int)
  | 0, _, _, _, _, _, _ => none
  | k + 1, x0, x1, x5, x8, x9, x10 => if x10 < x5 then (if 0 ≤ x10 then (if x10 < (x9.length : Int) then (intervalmonref28_Hysteresis.l1 k x0 x1 x5 x8 (x9.set (x10 : Int).toNat true) (wrap64 (x10 + 1))) else (none)) else (none)) else (intervalmonref28_Hysteresis.l2 k x0 x1 x5 x8 x9 1 0)
def intervalmonref28_Hysteresis.l2 : Nat → List Int → List Int → Int → List Bool → List Bool → Int → Int → Option (List Int)
  | 0, _, _, _, _, _, _, _ => none
  | k + 1, x0, x1, x5, x8, x9, x11, x12 => if 0 ≤ x5 then (if x5 ≤ (x0.length : Int) then ((intervalmonref28_mays.f k (x0.take (x5 : Int).toNat)).bind fun t490 => (if x12 < t490 then (intervalmonref28_Hysteresis.l2 k x0 x1 x5 x8 x9 (wrap64 (2 * x11)) (wrap64 (x12 + 1))) else (intervalmonref28_Hysteresis.l3 k x0 x1 x5 x8 x9 x11 1 0))) else (none)) else (none)
def intervalmonref28_Hysteresis.l3 : Nat → List Int → List Int → Int → List Bool → List Bool → Int → Int → Int → Option (List Int)
  | 0, _, _, _, _, _, _, _, _ => none
  | k + 1, x0, x1, x5, x8, x9, x11, x13, x14 => if 0 ≤ x5 then (if x5 ≤ (x1.length : Int) then ((intervalmonref28_mays.f k (x1.take (x5 : Int).toNat)).bind fun t492 => (if x14 < t492 then (intervalmonref28_Hysteresis.l3 k x0 x1 x5 x8 x9 x11 (wrap64 (2 * x13)) (wrap64 (x14 + 1))) else (intervalmonref28_Hysteresis.l4 k x0 x1 x5 x8 x9 x11 x13 0))) else (none)) else (none)
def intervalmonref28_Hysteresis.l4 : Nat → List Int → List Int → Int → List Bool → List Bool → Int → Int → Int → Option (List Int)
  | 0, _, _, _, _, _, _, _, _ => none
  | k + 1, x0, x1, x5, x8, x9, x11, x13, x15 => if x15 < x11 then (intervalmonref28_Hysteresis.l5 k x0 x1 x5 x8 x9 x11 x13 x15 0) else (intervalmonref28_Hysteresis.l7 k x5 ([] : List Int) x8 x9 0)
def intervalmonref28_Hysteresis.l5 : Nat → List Int → List Int → Int → List Bool → List Bool → Int → Int → Int → Int → Option (List Int)
  | 0, _, _, _, _, _, _, _, _, _ => none
  | k + 1, x0, x1, x5, x8, x9, x11, x13, x15, x16 => if x16 < x13 then (if 0 ≤ x5 then (if x5 ≤ (x0.length : Int) then ((intervalmonref28_Truths.f k (x0.take (x5 : Int).toNat) x15).bind fun t494 => (if x5 ≤ (x1.length : Int) then ((intervalmonref28_Truths.f k (x1.take (x5 : Int).toNat) x16).bind fun t498 => ((intervalmonref28_Latch.f k t494 t498).bind fun t501 => (intervalmonref28_Hysteresis.l6 k x0 x1 x5 x8 x9 x11 x13 x15 x16 t501 0))) else (none))) else (none)) else (none)) else (intervalmonref28_Hysteresis.l4 k x0 x1 x5 x8 x9 x11 x13 (wrap64 (x15 + 1)))
def intervalmonref28_Hysteresis.l6 : Nat → List Int → List Int → Int → List Bool → List Bool → Int → Int → Int → Int → List Bool → Int → Option (List Int)
  | 0, _, _, _, _, _, _, _, _, _, _, _ => none
  | k + 1, x0, x1, x5, x8, x9, x11, x13, x15, x16, x17, x18 => if x18 < x5 then (if 0 ≤ x18 then (if x18 < (x8.length : Int) then (if rdOf false x8 x18 = true then ((some (x8.set (x18 : Int).toNat true : List Bool)).bind fun y505 => (if x18 < (x9.length : Int) then (if rdOf false x9 x18 = true then (if x18 < (x17.length : Int) then (intervalmonref28_Hysteresis.l6 k x0 x1 x5 y505 (x9.set (x18 : Int).toNat (rdOf false x17 x18)) x11 x13 x15 x16 x17 (wrap64 (x18 + 1))) else (none)) else (intervalmonref28_Hysteresis.l6 k x0 x1 x5 y505 (x9.set (x18 : Int).toNat false) x11 x13 x15 x16 x17 (wrap64 (x18 + 1)))) else (none))) else (if x18 < (x17.length : Int) then ((some (x8.set (x18 : Int).toNat (rdOf false x17 x18) : List Bool)).bind fun y511 => (if x18 < (x9.length : Int) then (if rdOf false x9 x18 = true then (intervalmonref28_Hysteresis.l6 k x0 x1 x5 y511 (x9.set (x18 : Int).toNat (rdOf false x17 x18)) x11 x13 x15 x16 x17 (wrap64 (x18 + 1))) else (intervalmonref28_Hysteresis.l6 k x0 x1 x5 y511 (x9.set (x18 : Int).toNat false) x11 x13 x15 x16 x17 (wrap64 (x18 + 1)))) else (none))) else (none))) else (none)) else (none)) else (intervalmonref28_Hysteresis.l5 k x0 x1 x5 x8 x9 x11 x13 x15 (wrap64 (x16 + 1)))
def intervalmonref28_Hysteresis.l7 : Nat → Int → List Int → List Bool → List Bool → Int → Option (List Int)
  | 0, _, _, _, _, _ => none
  | k + 1, x5, x6, x8, x9, x19 => if x19 < x5 then (if 0 ≤ x19 then (if x19 < (x9.length : Int) then (if rdOf false x9 x19 = true then (if x6.length < 17592186044416 then (intervalmonref28_Hysteresis.l7 k x5 (x6 ++ [2]) x8 x9 (wrap64 (x19 + 1))) else (none)) else (if x19 < (x8.length : Int) then (if rdOf false x8 x19 = true then (if x6.length < 17592186044416 then (intervalmonref28_Hysteresis.l7 k x5 (x6 ++ [1]) x8 x9 (wrap64 (x19 + 1))) else (none)) else (if x6.length < 17592186044416 then (intervalmonref28_Hysteresis.l7 k x5 (x6 ++ [0]) x8 x9 (wrap64 (x19 + 1))) else (none))) else (none))) else (none)) else (none)) else (some x6)
end
def intervalmonref28_Hysteresis.f (k : Nat) (l0 : List Int) (l1 : List Int) : Option (List Int) := intervalmonref28_Hysteresis.l0 k l0 l1 (mn (l0.length : Int) (l1.length : Int)) 0
theorem intervalmonref28_Hysteresis.mono_l : ∀ k, (∀ y0 y1 y2 y3, LeO (intervalmonref28_Hysteresis.l0 k y0 y1 y2 y3) (intervalmonref28_Hysteresis.l0 (k + 1) y0 y1 y2 y3)) ∧ (∀ y0 y1 y2 y3 y4 y5, LeO (intervalmonref28_Hysteresis.l1 k y0 y1 y2 y3 y4 y5) (intervalmonref28_Hysteresis.l1 (k + 1) y0 y1 y2 y3 y4 y5)) ∧ (∀ y0 y1 y2 y3 y4 y5 y6, LeO (intervalmonref28_Hysteresis.l2 k y0 y1 y2 y3 y4 y5 y6) (intervalmonref28_Hysteresis.l2 (k + 1) y0 y1 y2 y3 y4 y5 y6)) ∧ (∀ y0 y1 y2 y3 y4 y5 y6 y7, LeO (intervalmonref28_Hysteresis.l3 k y0 y1 y2 y3 y4 y5 y6 y7) (intervalmonref28_Hysteresis.l3 (k + 1) y0 y1 y2 y3 y4 y5 y6 y7)) ∧ (∀ y0 y1 y2 y3 y4 y5 y6 y7, LeO (intervalmonref28_Hysteresis.l4 k y0 y1 y2 y3 y4 y5 y6 y7) (intervalmonref28_Hysteresis.l4 (k + 1) y0 y1 y2 y3 y4 y5 y6 y7)) ∧ (∀ y0 y1 y2 y3 y4 y5 y6 y7 y8, LeO (intervalmonref28_Hysteresis.l5 k y0 y1 y2 y3 y4 y5 y6 y7 y8) (intervalmonref28_Hysteresis.l5 (k + 1) y0 y1 y2 y3 y4 y5 y6 y7 y8)) ∧ (∀ y0 y1 y2 y3 y4 y5 y6 y7 y8 y9 y10, LeO (intervalmonref28_Hysteresis.l6 k y0 y1 y2 y3 y4 y5 y6 y7 y8 y9 y10) (intervalmonref28_Hysteresis.l6 (k + 1) y0 y1 y2 y3 y4 y5 y6 y7 y8 y9 y10)) ∧ (∀ y0 y1 y2 y3 y4, LeO (intervalmonref28_Hysteresis.l7 k y0 y1 y2 y3 y4) (intervalmonref28_Hysteresis.l7 (k + 1) y0 y1 y2 y3 y4))
  | 0 => ⟨fun _ _ _ _ r h => by simp [intervalmonref28_Hysteresis.l0] at h, fun _ _ _ _ _ _ r h => by simp [intervalmonref28_Hysteresis.l1] at h, fun _ _ _ _ _ _ _ r h => by simp [intervalmonref28_Hysteresis.l2] at h, fun _ _ _ _ _ _ _ _ r h => by simp [intervalmonref28_Hysteresis.l3] at h, fun _ _ _ _ _ _ _ _ r h => by simp [intervalmonref28_Hysteresis.l4] at h, fun _ _ _ _ _ _ _ _ _ r h => by simp [intervalmonref28_Hysteresis.l5] at h, fun _ _ _ _ _ _ _ _ _ _ _ r h => by simp [intervalmonref28_Hysteresis.l6] at h, fun _ _ _ _ _ r h => by simp [intervalmonref28_Hysteresis.l7] at h⟩
  | k + 1 => by
    obtain ⟨ih0, ih1, ih2, ih3, ih4, ih5, ih6, ih7⟩ := intervalmonref28_Hysteresis.mono_l k
    refine ⟨?_, ?_, ?_, ?_, ?_, ?_, ?_, ?_⟩
    · intro y0 y1 y2 y3
      unfold intervalmonref28_Hysteresis.l0
      repeat' first
      | (with_reducible exact ih0 _ _ _ _)
      | (with_reducible exact ih1 _ _ _ _ _ _)
      | (with_reducible exact ih2 _ _ _ _ _ _ _)
      | (with_reducible exact ih3 _ _ _ _ _ _ _ _)
      | (with_reducible exact ih4 _ _ _ _ _ _ _ _)
      | (with_reducible exact ih5 _ _ _ _ _ _ _ _ _)
      | (with_reducible exact ih6 _ _ _ _ _ _ _ _ _ _ _)
      | (with_reducible exact ih7 _ _ _ _ _)
      | (with_reducible exact intervalmonref28_Latch.mono _ _ _)
      | (with_reducible exact intervalmonref28_Truths.mono _ _ _)
      | (with_reducible exact intervalmonref28_mays.mono _ _)
      | (with_reducible exact LeO.refl _)
      | (with_reducible exact LeO.none _)
      | (with_reducible refine LeO.ite ?_ ?_)
      | (with_reducible refine LeO.bind ?_ (fun _ => ?_))
      | exact ih0 _ _ _ _
      | exact ih1 _ _ _ _ _ _
      | exact ih2 _ _ _ _ _ _ _
      | exact ih3 _ _ _ _ _ _ _ _
      | exact ih4 _ _ _ _ _ _ _ _
      | exact ih5 _ _ _ _ _ _ _ _ _
      | exact ih6 _ _ _ _ _ _ _ _ _ _ _
      | exact ih7 _ _ _ _ _
      | exact intervalmonref28_Latch.mono _ _ _
      | exact intervalmonref28_Truths.mono _ _ _
      | exact intervalmonref28_mays.mono _ _
      | exact LeO.none _
      | refine LeO.ite ?_ ?_
      | refine LeO.bind ?_ (fun _ => ?_)
    · intro y0 y1 y2 y3 y4 y5
      unfold intervalmonref28_Hysteresis.l1
      repeat' first
      | (with_reducible exact ih0 _ _ _ _)
      | (with_reducible exact ih1 _ _ _ _ _ _)
      | (with_reducible exact ih2 _ _ _ _ _ _ _)
      | (with_reducible exact ih3 _ _ _ _ _ _ _ _)
      | (with_reducible exact ih4 _ _ _ _ _ _ _ _)
      | (with_reducible exact ih5 _ _ _ _ _ _ _ _ _)
      | (with_reducible exact ih6 _ _ _ _ _ _ _ _ _ _ _)
      | (with_reducible exact ih7 _ _ _ _ _)
      | (with_reducible exact intervalmonref28_Latch.mono _ _ _)
      | (with_reducible exact intervalmonref28_Truths.mono _ _ _)
      | (with_reducible exact intervalmonref28_mays.mono _ _)
      | (with_reducible exact LeO.refl _)
      | (with_reducible exact LeO.none _)
      | (with_reducible refine LeO.ite ?_ ?_)
      | (with_reducible refine LeO.bind ?_ (fun _ => ?_))
      | exact ih0 _ _ _ _
      | exact ih1 _ _ _ _ _ _
      | exact ih2 _ _ _ _ _ _ _
      | exact ih3 _ _ _ _ _ _ _ _
      | exact ih4 _ _ _ _ _ _ _ _
      | exact ih5 _ _ _ _ _ _ _ _ _
      | exact ih6 _ _ _ _ _ _ _ _ _ _ _
      | exact ih7 _ _ _ _ _
      | exact intervalmonref28_Latch.mono _ _ _
      | exact intervalmonref28_Truths.mono _ _ _
      | exact intervalmonref28_mays.mono _ _
      | exact LeO.none _
      | refine LeO.ite ?_ ?_
      | refine LeO.bind ?_ (fun _ => ?_)
    · intro y0 y1 y2 y3 y4 y5 y6
      unfold intervalmonref28_Hysteresis.l2
      repeat' first
      | (with_reducible exact ih0 _ _ _ _)
      | (with_reducible exact ih1 _ _ _ _ _ _)
      | (with_reducible exact ih2 _ _ _ _ _ _ _)
      | (with_reducible exact ih3 _ _ _ _ _ _ _ _)
      | (with_reducible exact ih4 _ _ _ _ _ _ _ _)
      | (with_reducible exact ih5 _ _ _ _ _ _ _ _ _)
      | (with_reducible exact ih6 _ _ _ _ _ _ _ _ _ _ _)
      | (with_reducible exact ih7 _ _ _ _ _)
      | (with_reducible exact intervalmonref28_Latch.mono _ _ _)
      | (with_reducible exact intervalmonref28_Truths.mono _ _ _)
      | (with_reducible exact intervalmonref28_mays.mono _ _)
      | (with_reducible exact LeO.refl _)
      | (with_reducible exact LeO.none _)
      | (with_reducible refine LeO.ite ?_ ?_)
      | (with_reducible refine LeO.bind ?_ (fun _ => ?_))
      | exact ih0 _ _ _ _
      | exact ih1 _ _ _ _ _ _
      | exact ih2 _ _ _ _ _ _ _
      | exact ih3 _ _ _ _ _ _ _ _
      | exact ih4 _ _ _ _ _ _ _ _
      | exact ih5 _ _ _ _ _ _ _ _ _
      | exact ih6 _ _ _ _ _ _ _ _ _ _ _
      | exact ih7 _ _ _ _ _
      | exact intervalmonref28_Latch.mono _ _ _
      | exact intervalmonref28_Truths.mono _ _ _
      | exact intervalmonref28_mays.mono _ _
      | exact LeO.none _
      | refine LeO.ite ?_ ?_
      | refine LeO.bind ?_ (fun _ => ?_)
    · intro y0 y1 y2 y3 y4 y5 y6 y7
      unfold intervalmonref28_Hysteresis.l3
      repeat' first
      | (with_reducible exact ih0 _ _ _ _)
      | (with_reducible exact ih1 _ _ _ _ _ _)
      | (with_reducible exact ih2 _ _ _ _ _ _ _)
      | (with_reducible exact ih3 _ _ _ _ _ _ _ _)
      | (with_reducible exact ih4 _ _ _ _ _ _ _ _)
      | (with_reducible exact ih5 _ _ _ _ _ _ _ _ _)
      | (with_reducible exact ih6 _ _ _ _ _ _ _ _ _ _ _)
      | (with_reducible exact ih7 _ _ _ _ _)
      | (with_reducible exact intervalmonref28_Latch.mono _ _ _)
      | (with_reducible exact intervalmonref28_Truths.mono _ _ _)
      | (with_reducible exact intervalmonref28_mays.mono _ _)
      | (with_reducible exact LeO.refl _)
      | (with_reducible exact LeO.none _)
      | (with_reducible refine LeO.ite ?_ ?_)
      | (with_reducible refine LeO.bind ?_ (fun _ => ?_))
      | exact ih0 _ _ _ _
      | exact ih1 _ _ _ _ _ _
      | exact ih2 _ _ _ _ _ _ _
      | exact ih3 _ _ _ _ _ _ _ _
      | exact ih4 _ _ _ _ _ _ _ _
      | exact ih5 _ _ _ _ _ _ _ _ _
      | exact ih6 _ _ _ _ _ _ _ _ _ _ _
      | exact ih7 _ _ _ _ _
      | exact intervalmonref28_Latch.mono _ _ _
      | exact intervalmonref28_Truths.mono _ _ _
      | exact intervalmonref28_mays.mono _ _
      | exact LeO.none _
      | refine LeO.ite ?_ ?_
      | refine LeO.bind ?_ (fun _ => ?_)
    · intro y0 y1 y2 y3 y4 y5 y6 y7
      unfold intervalmonref28_Hysteresis.l4
      repeat' first
      | (with_reducible exact ih0 _ _ _ _)
      | (with_reducible exact ih1 _ _ _ _ _ _)
      | (with_reducible exact ih2 _ _ _ _ _ _ _)
      | (with_reducible exact ih3 _ _ _ _ _ _ _ _)
      | (with_reducible exact ih4 _ _ _ _ _ _ _ _)
      | (with_reducible exact ih5 _ _ _ _ _ _ _ _ _)
      | (with_reducible exact ih6 _ _ _ _ _ _ _ _ _ _ _)
      | (with_reducible exact ih7 _ _ _ _ _)
      | (with_reducible exact intervalmonref28_Latch.mono _ _ _)
      | (with_reducible exact intervalmonref28_Truths.mono _ _ _)
      | (with_reducible exact intervalmonref28_mays.mono _ _)
      | (with_reducible exact LeO.refl _)
      | (with_reducible exact LeO.none _)
      | (with_reducible refine LeO.ite ?_ ?_)
      | (with_reducible refine LeO.bind ?_ (fun _ => ?_))
      | exact ih0 _ _ _ _
      | exact ih1 _ _ _ _ _ _
      | exact ih2 _ _ _ _ _ _ _
      | exact ih3 _ _ _ _ _ _ _ _
      | exact ih4 _ _ _ _ _ _ _ _
      | exact ih5 _ _ _ _ _ _ _ _ _
      | exact ih6 _ _ _ _ _ _ _ _ _ _ _
      | exact ih7 _ _ _ _ _
      | exact intervalmonref28_Latch.mono _ _ _
      | exact intervalmonref28_Truths.mono _ _ _
      | exact intervalmonref28_mays.mono _ _
      | exact LeO.none _
      | refine LeO.ite ?_ ?_
      | refine LeO.bind ?_ (fun _ => ?_)
    · intro y0 y1 y2 y3 y4 y5 y6 y7 y8
      unfold intervalmonref28_Hysteresis.l5
      repeat' first
      | (with_reducible exact ih0 _ _ _ _)
      | (with_reducible exact ih1 _ _ _ _ _ _)
      | (with_reducible exact ih2 _ _ _ _ _ _ _)
      | (with_reducible exact ih3 _ _ _ _ _ _ _ _)
      | (with_reducible exact ih4 _ _ _ _ _ _ _ _)
      | (with_reducible exact ih5 _ _ _ _ _ _ _ _ _)
      | (with_reducible exact ih6 _ _ _ _ _ _ _ _ _ _ _)
      | (with_reducible exact ih7 _ _ _ _ _)
      | (with_reducible exact intervalmonref28_Latch.mono _ _ _)
      | (with_reducible exact intervalmonref28_Truths.mono _ _ _)
      | (with_reducible exact intervalmonref28_mays.mono _ _)
      | (with_reducible exact LeO.refl _)
      | (with_reducible exact LeO.none _)
      | (with_reducible refine LeO.ite ?_ ?_)
      | (with_reducible refine LeO.bind ?_ (fun _ => ?_))
      | exact ih0 _ _ _ _
      | exact ih1 _ _ _ _ _ _
      | exact ih2 _ _ _ _ _ _ _
      | exact ih3 _ _ _ _ _ _ _ _
      | exact ih4 _ _ _ _ _ _ _ _
      | exact ih5 _ _ _ _ _ _ _ _ _
      | exact ih6 _ _ _ _ _ _ _ _ _ _ _
      | exact ih7 _ _ _ _ _
      | exact intervalmonref28_Latch.mono _ _ _
      | exact intervalmonref28_Truths.mono _ _ _
      | exact intervalmonref28_mays.mono _ _
      | exact LeO.none _
      | refine LeO.ite ?_ ?_
      | refine LeO.bind ?_ (fun _ => ?_)
    · intro y0 y1 y2 y3 y4 y5 y6 y7 y8 y9 y10
      unfold intervalmonref28_Hysteresis.l6
      repeat' first
      | (with_reducible exact ih0 _ _ _ _)
      | (with_reducible exact ih1 _ _ _ _ _ _)
      | (with_reducible exact ih2 _ _ _ _ _ _ _)
      | (with_reducible exact ih3 _ _ _ _ _ _ _ _)
      | (with_reducible exact ih4 _ _ _ _ _ _ _ _)
      | (with_reducible exact ih5 _ _ _ _ _ _ _ _ _)
      | (with_reducible exact ih6 _ _ _ _ _ _ _ _ _ _ _)
      | (with_reducible exact ih7 _ _ _ _ _)
      | (with_reducible exact intervalmonref28_Latch.mono _ _ _)
      | (with_reducible exact intervalmonref28_Truths.mono _ _ _)
      | (with_reducible exact intervalmonref28_mays.mono _ _)
      | (with_reducible exact LeO.refl _)
      | (with_reducible exact LeO.none _)
      | (with_reducible refine LeO.ite ?_ ?_)
      | (with_reducible refine LeO.bind ?_ (fun _ => ?_))
      | exact ih0 _ _ _ _
      | exact ih1 _ _ _ _ _ _
      | exact ih2 _ _ _ _ _ _ _
      | exact ih3 _ _ _ _ _ _ _ _
      | exact ih4 _ _ _ _ _ _ _ _
      | exact ih5 _ _ _ _ _ _ _ _ _
      | exact ih6 _ _ _ _ _ _ _ _ _ _ _
      | exact ih7 _ _ _ _ _
      | exact intervalmonref28_Latch.mono _ _ _
      | exact intervalmonref28_Truths.mono _ _ _
      | exact intervalmonref28_mays.mono _ _
      | exact LeO.none _
      | refine LeO.ite ?_ ?_
      | refine LeO.bind ?_ (fun _ => ?_)
    · intro y0 y1 y2 y3 y4
      unfold intervalmonref28_Hysteresis.l7
      repeat' first
      | (with_reducible exact ih0 _ _ _ _)
      | (with_reducible exact ih1 _ _ _ _ _ _)
      | (with_reducible exact ih2 _ _ _ _ _ _ _)
      | (with_reducible exact ih3 _ _ _ _ _ _ _ _)
      | (with_reducible exact ih4 _ _ _ _ _ _ _ _)
      | (with_reducible exact ih5 _ _ _ _ _ _ _ _ _)
      | (with_reducible exact ih6 _ _ _ _ _ _ _ _ _ _ _)
      | (with_reducible exact ih7 _ _ _ _ _)
      | (with_reducible exact intervalmonref28_Latch.mono _ _ _)
      | (with_reducible exact intervalmonref28_Truths.mono _ _ _)
      | (with_reducible exact intervalmonref28_mays.mono _ _)
      | (with_reducible exact LeO.refl _)
      | (with_reducible exact LeO.none _)
      | (with_reducible refine LeO.ite ?_ ?_)
      | (with_reducible refine LeO.bind ?_ (fun _ => ?_))
      | exact ih0 _ _ _ _
      | exact ih1 _ _ _ _ _ _
      | exact ih2 _ _ _ _ _ _ _
      | exact ih3 _ _ _ _ _ _ _ _
      | exact ih4 _ _ _ _ _ _ _ _
      | exact ih5 _ _ _ _ _ _ _ _ _
      | exact ih6 _ _ _ _ _ _ _ _ _ _ _
      | exact ih7 _ _ _ _ _
      | exact intervalmonref28_Latch.mono _ _ _
      | exact intervalmonref28_Truths.mono _ _ _
      | exact intervalmonref28_mays.mono _ _
      | exact LeO.none _
      | refine LeO.ite ?_ ?_
      | refine LeO.bind ?_ (fun _ => ?_)
theorem intervalmonref28_Hysteresis.mono : ∀ a0 a1 k, LeO (intervalmonref28_Hysteresis.f k a0 a1) (intervalmonref28_Hysteresis.f (k + 1) a0 a1) := by
  intro a0 a1 k
  obtain ⟨ih0, ih1, ih2, ih3, ih4, ih5, ih6, ih7⟩ := intervalmonref28_Hysteresis.mono_l k
  unfold intervalmonref28_Hysteresis.f
  repeat' first
      | (with_reducible exact ih0 _ _ _ _)
      | (with_reducible exact ih1 _ _ _ _ _ _)
      | (with_reducible exact ih2 _ _ _ _ _ _ _)
      | (with_reducible exact ih3 _ _ _ _ _ _ _ _)
      | (with_reducible exact ih4 _ _ _ _ _ _ _ _)
      | (with_reducible exact ih5 _ _ _ _ _ _ _ _ _)
      | (with_reducible exact ih6 _ _ _ _ _ _ _ _ _ _ _)
      | (with_reducible exact ih7 _ _ _ _ _)
      | (with_reducible exact intervalmonref28_Latch.mono _ _ _)
      | (with_reducible exact intervalmonref28_Truths.mono _ _ _)
      | (with_reducible exact intervalmonref28_mays.mono _ _)
      | (with_reducible exact LeO.refl _)
      | (with_reducible exact LeO.none _)
      | (with_reducible refine LeO.ite ?_ ?_)
      | (with_reducible refine LeO.bind ?_ (fun _ => ?_))
      | exact ih0 _ _ _ _
      | exact ih1 _ _ _ _ _ _
      | exact ih2 _ _ _ _ _ _ _
      | exact ih3 _ _ _ _ _ _ _ _
      | exact ih4 _ _ _ _ _ _ _ _
      | exact ih5 _ _ _ _ _ _ _ _ _
      | exact ih6 _ _ _ _ _ _ _ _ _ _ _
      | exact ih7 _ _ _ _ _
      | exact intervalmonref28_Latch.mono _ _ _
      | exact intervalmonref28_Truths.mono _ _ _
      | exact intervalmonref28_mays.mono _ _
      | exact LeO.none _
      | refine LeO.ite ?_ ?_
      | refine LeO.bind ?_ (fun _ => ?_)
def intervalmonref28_Hysteresis.T30 : Bool × List (List Nat × List Nat) := (true, [([], []), ([], []), ([0, 1], [0, 1]), ([], []), ([2, 3], [2, 3]), ([], []), ([], []), ([5, 6], [5, 6]), ([], []), ([7, 8, 4], [7, 8]), ([4, 9, 9], [4, 9]), ([10, 10, 0, 1, 2, 3, 4, 5, 6, 7, 8, 9, 10], [10])])
def intervalmonref28_Hysteresis.B30 : List Nat := [0, 0, 3, 0, 15, 0, 0, 96, 0, 511, 1023, 2047]
theorem intervalmonref28_Hysteresis.tab30 : rtab .any (opsOf Tryd.f26 30) = intervalmonref28_Hysteresis.T30 := by kernel_rfl
theorem intervalmonref28_Hysteresis.bits30 : waitsOk intervalmonref28_Hysteresis.T30.2 intervalmonref28_Hysteresis.B30 = true := by kernel_rfl
set_option maxHeartbeats 8000000 in
set_option maxRecDepth 100000 in
theorem intervalmonref28_Hysteresis.calls (k : Nat) (A0 : Option Addr) (c0 : Nat) (l0 : List Int) (A1 : Option Addr) (c1 : Nat) (l1 : List Int) (r : List Int) (w : World) (hr0 : Kd.C (Kd.int .i64) w A0 l0.length l0) (hc0 : l0.length ≤ c0) (hr1 : Kd.C (Kd.int .i64) w A1 l1.length l1) (hc1 : l1.length ≤ c1) (h : intervalmonref28_Hysteresis.f k l0 l1 = some r) :
    Calls Tryd.prog 26 #[.slice A0 l0.length c0, .slice A1 l1.length c1] w fun e w' => ∃ v0_ : Value, e = .returned (v0_) ∧ Kd.R (Kd.int .i64) 3 w' w.heap.size (fun _ => True) v0_ r ∧ Below w.heap.size w w' := by
  have HR0 := Aside0.mk hr0
  have HC0 := Aside0.mk hc0
  clear hr0 hc0
  have HR1 := Aside0.mk hr1
  have HC1 := Aside0.mk hc1
  clear hr1 hc1
  have HB := Aside0.mk (Below.refl w.heap.size w)
  have H : (intervalmonref28_Hysteresis.l0 k l0 l1 (mn (l0.length : Int) (l1.length : Int)) 0) = some r := h
  clear h
  obtain ⟨ji3, hji3⟩ : ∃ j_ : Int, (mn (l0.length : Int) (l1.length : Int)) = j_ := ⟨_, rfl⟩
  replace H : (intervalmonref28_Hysteresis.l0 k l0 l1 ji3 0) = some r := by first | (rw [hji3] at H; exact H) | (simp only [hji3] at H ⊢; exact H)
  (try (have hji3l : 0 ≤ ji3 := by (rw [← hji3]; unfold mn; (repeat' split) <;> omega)))
  (try (have hji3m : 0 ≤ ji3 := by omega))
  have hji3n_ : (if l1.length < l0.length then (l1.length : Int) else (l0.length : Int)) = ji3 := by (rw [← hji3]; unfold mn; split <;> split <;> omega)
  have hji3_ : (if (l1.length : Int) < (l0.length : Int) then (l1.length : Int) else (l0.length : Int)) = ji3 := hji3
  have H' := Aside0.mk H
  clear H
  go_enter Tryd.func26, Tryd.ntmps26
  go_wp2
  go_loopg [7] k (fun kq v7 w' => ∃ (x7_1 : Int), v7 = .int .i64 x7_1 ∧ Aside0 (intervalmonref28_Hysteresis.l0 kq l0 l1 ji3 x7_1 = some r) ∧ Aside0 (kq ≤ k) ∧ Aside0 (Below w.heap.size w w'))
  case atStart => exact ⟨(0), (by first | rfl | (simp; done) | (simp [*]; done)), H', ⟨Nat.le_refl _⟩, ⟨by repeat (first | (with_reducible first | exact HB.out | apply below_alloc | apply pw_below_drewN | apply below_drew1) | exact HB.out)⟩⟩
  case round =>
    clear H'
    try clear c1
    try clear c2
    try clear p2
    obtain ⟨x7_1, rfl, HA, HK1, HB⟩ := hrel
    cases gk with
    | zero => exact absurd HA.out (by simp [intervalmonref28_Hysteresis.l0])
    | succ k1 =>
      have H := HA.out
      clear HA
      simp only [intervalmonref28_Hysteresis.l0] at H
      by_cases c4 : x7_1 < ji3
      · rw [if_pos c4] at H
        have c4b0 : decide (x7_1 < ji3) = true := decide_eq_true c4
        clear c4
        by_cases c5 : 0 ≤ x7_1
        · rw [if_pos c5] at H
          have c5b0 : decide (0 ≤ x7_1) = true := decide_eq_true c5
          clear c5
          by_cases c6 : x7_1 < (l0.length : Int)
          · rw [if_pos c6] at H
            have c6b0 : decide (x7_1 < (l0.length : Int)) = true := decide_eq_true c6
            clear c6
            by_cases c7 : (rd l0 x7_1) < 0
            · rw [if_pos c7] at H
              have c7b0 : decide ((rd l0 x7_1) < 0) = true := decide_eq_true c7
              clear c7
              obtain rfl := Option.some.inj H
              have p478 : 0 ≤ (x7_1 : Int) := of_decide_eq_true (by first | (with_reducible assumption) | assumption)
              have q478 : x7_1 < (l0.length : Int) := of_decide_eq_true (by first | (with_reducible assumption) | assumption)
              obtain ⟨ad478, e478, hx478_0⟩ := Kd.at_int HR0.out x7_1 p478 q478
              cases e478
              replace hx478_0 := (HB.out.cell (World.block_lt_of_cell? w _ hx478_0)).trans hx478_0
              replace p478 := eq_true p478
              replace q478 := eq_true q478
              go_wp2
              go_ret
              exact ⟨_, by first | rfl | (simp [errW_none, errW_some] <;> rfl) | (simp only [← hji3]; first | rfl | (simp [errW_none, errW_some] <;> rfl)) | (simp [*, errW_none, errW_some] <;> rfl), by first | exact Kd.R_nil _ _ _ _ _ | exact Kd.N_nil _ _ _ _ _ | exact Kd.V_nil _ _ _ _ _ | exact Kd.Q_nil _ _ _ _ _ | exact Kd.S_nil _ _ _ _ _, by repeat (first | (with_reducible first | exact HB.out | apply below_alloc | apply pw_below_drewN | apply below_drew1) | exact HB.out)⟩
            · rw [if_neg c7] at H
              have c7b0 : decide ((rd l0 x7_1) < 0) = false := decide_eq_false c7
              clear c7
              by_cases c8 : (rd l0 x7_1) > 2
              · rw [if_pos c8] at H
                have c8b0 : decide (2 < (rd l0 x7_1)) = true := decide_eq_true c8
                clear c8
                obtain rfl := Option.some.inj H
                have p478 : 0 ≤ (x7_1 : Int) := of_decide_eq_true (by first | (with_reducible assumption) | assumption)
                have q478 : x7_1 < (l0.length : Int) := of_decide_eq_true (by first | (with_reducible assumption) | assumption)
                obtain ⟨ad478, e478, hx478_0⟩ := Kd.at_int HR0.out x7_1 p478 q478
                cases e478
                replace hx478_0 := (HB.out.cell (World.block_lt_of_cell? w _ hx478_0)).trans hx478_0
                replace p478 := eq_true p478
                replace q478 := eq_true q478
                have p479 : 0 ≤ (x7_1 : Int) := of_decide_eq_true (by first | (with_reducible assumption) | assumption)
                have q479 : x7_1 < (l0.length : Int) := of_decide_eq_true (by first | (with_reducible assumption) | assumption)
                obtain ⟨ad479, e479, hx479_0⟩ := Kd.at_int HR0.out x7_1 p479 q479
                obtain rfl : ad478 = ad479 := (by injection e479)
                replace hx479_0 := (HB.out.cell (World.block_lt_of_cell? w _ hx479_0)).trans hx479_0
                replace p479 := eq_true p479
                replace q479 := eq_true q479
                go_wp2
                go_ret
                exact ⟨_, by first | rfl | (simp [errW_none, errW_some] <;> rfl) | (simp only [← hji3]; first | rfl | (simp [errW_none, errW_some] <;> rfl)) | (simp [*, errW_none, errW_some] <;> rfl), by first | exact Kd.R_nil _ _ _ _ _ | exact Kd.N_nil _ _ _ _ _ | exact Kd.V_nil _ _ _ _ _ | exact Kd.Q_nil _ _ _ _ _ | exact Kd.S_nil _ _ _ _ _, by repeat (first | (with_reducible first | exact HB.out | apply below_alloc | apply pw_below_drewN | apply below_drew1) | exact HB.out)⟩
              · rw [if_neg c8] at H
                have c8b0 : decide (2 < (rd l0 x7_1)) = false := decide_eq_false c8
                clear c8
                by_cases c9 : x7_1 < (l1.length : Int)
                · rw [if_pos c9] at H
                  have c9b0 : decide (x7_1 < (l1.length : Int)) = true := decide_eq_true c9
                  clear c9
                  by_cases c10 : (rd l1 x7_1) < 0
                  · rw [if_pos c10] at H
                    have c10b0 : decide ((rd l1 x7_1) < 0) = true := decide_eq_true c10
                    clear c10
                    obtain rfl := Option.some.inj H
                    have p478 : 0 ≤ (x7_1 : Int) := of_decide_eq_true (by first | (with_reducible assumption) | assumption)
                    have q478 : x7_1 < (l0.length : Int) := of_decide_eq_true (by first | (with_reducible assumption) | assumption)
                    obtain ⟨ad478, e478, hx478_0⟩ := Kd.at_int HR0.out x7_1 p478 q478
                    cases e478
                    replace hx478_0 := (HB.out.cell (World.block_lt_of_cell? w _ hx478_0)).trans hx478_0
                    replace p478 := eq_true p478
                    replace q478 := eq_true q478
                    have p479 : 0 ≤ (x7_1 : Int) := of_decide_eq_true (by first | (with_reducible assumption) | assumption)
                    have q479 : x7_1 < (l0.length : Int) := of_decide_eq_true (by first | (with_reducible assumption) | assumption)
                    obtain ⟨ad479, e479, hx479_0⟩ := Kd.at_int HR0.out x7_1 p479 q479
                    obtain rfl : ad478 = ad479 := (by injection e479)
                    replace hx479_0 := (HB.out.cell (World.block_lt_of_cell? w _ hx479_0)).trans hx479_0
                    replace p479 := eq_true p479
                    replace q479 := eq_true q479
                    have p480 : 0 ≤ (x7_1 : Int) := of_decide_eq_true (by first | (with_reducible assumption) | assumption)
                    have q480 : x7_1 < (l1.length : Int) := of_decide_eq_true (by first | (with_reducible assumption) | assumption)
                    obtain ⟨ad480, e480, hx480_0⟩ := Kd.at_int HR1.out x7_1 p480 q480
                    cases e480
                    replace hx480_0 := (HB.out.cell (World.block_lt_of_cell? w _ hx480_0)).trans hx480_0
                    replace p480 := eq_true p480
                    replace q480 := eq_true q480
                    go_wp2
                    go_ret
                    exact ⟨_, by first | rfl | (simp [errW_none, errW_some] <;> rfl) | (simp only [← hji3]; first | rfl | (simp [errW_none, errW_some] <;> rfl)) | (simp [*, errW_none, errW_some] <;> rfl), by first | exact Kd.R_nil _ _ _ _ _ | exact Kd.N_nil _ _ _ _ _ | exact Kd.V_nil _ _ _ _ _ | exact Kd.Q_nil _ _ _ _ _ | exact Kd.S_nil _ _ _ _ _, by repeat (first | (with_reducible first | exact HB.out | apply below_alloc | apply pw_below_drewN | apply below_drew1) | exact HB.out)⟩
                  · rw [if_neg c10] at H
                    have c10b0 : decide ((rd l1 x7_1) < 0) = false := decide_eq_false c10
                    clear c10
                    by_cases c11 : (rd l1 x7_1) > 2
                    · rw [if_pos c11] at H
                      have c11b0 : decide (2 < (rd l1 x7_1)) = true := decide_eq_true c11
                      clear c11
                      obtain rfl := Option.some.inj H
                      have p478 : 0 ≤ (x7_1 : Int) := of_decide_eq_true (by first | (with_reducible assumption) | assumption)
                      have q478 : x7_1 < (l0.length : Int) := of_decide_eq_true (by first | (with_reducible assumption) | assumption)
                      obtain ⟨ad478, e478, hx478_0⟩ := Kd.at_int HR0.out x7_1 p478 q478
                      cases e478
                      replace hx478_0 := (HB.out.cell (World.block_lt_of_cell? w _ hx478_0)).trans hx478_0
                      replace p478 := eq_true p478
                      replace q478 := eq_true q478
                      have p479 : 0 ≤ (x7_1 : Int) := of_decide_eq_true (by first | (with_reducible assumption) | assumption)
                      have q479 : x7_1 < (l0.length : Int) := of_decide_eq_true (by first | (with_reducible assumption) | assumption)
                      obtain ⟨ad479, e479, hx479_0⟩ := Kd.at_int HR0.out x7_1 p479 q479
                      obtain rfl : ad478 = ad479 := (by injection e479)
                      replace hx479_0 := (HB.out.cell (World.block_lt_of_cell? w _ hx479_0)).trans hx479_0
                      replace p479 := eq_true p479
                      replace q479 := eq_true q479
                      have p480 : 0 ≤ (x7_1 : Int) := of_decide_eq_true (by first | (with_reducible assumption) | assumption)
                      have q480 : x7_1 < (l1.length : Int) := of_decide_eq_true (by first | (with_reducible assumption) | assumption)
                      obtain ⟨ad480, e480, hx480_0⟩ := Kd.at_int HR1.out x7_1 p480 q480
                      cases e480
                      replace hx480_0 := (HB.out.cell (World.block_lt_of_cell? w _ hx480_0)).trans hx480_0
                      replace p480 := eq_true p480
                      replace q480 := eq_true q480
                      have p481 : 0 ≤ (x7_1 : Int) := of_decide_eq_true (by first | (with_reducible assumption) | assumption)
                      have q481 : x7_1 < (l1.length : Int) := of_decide_eq_true (by first | (with_reducible assumption) | assumption)
                      obtain ⟨ad481, e481, hx481_0⟩ := Kd.at_int HR1.out x7_1 p481 q481
                      obtain rfl : ad480 = ad481 := (by injection e481)
                      replace hx481_0 := (HB.out.cell (World.block_lt_of_cell? w _ hx481_0)).trans hx481_0
                      replace p481 := eq_true p481
                      replace q481 := eq_true q481
                      go_wp2
                      go_ret
                      exact ⟨_, by first | rfl | (simp [errW_none, errW_some] <;> rfl) | (simp only [← hji3]; first | rfl | (simp [errW_none, errW_some] <;> rfl)) | (simp [*, errW_none, errW_some] <;> rfl), by first | exact Kd.R_nil _ _ _ _ _ | exact Kd.N_nil _ _ _ _ _ | exact Kd.V_nil _ _ _ _ _ | exact Kd.Q_nil _ _ _ _ _ | exact Kd.S_nil _ _ _ _ _, by repeat (first | (with_reducible first | exact HB.out | apply below_alloc | apply pw_below_drewN | apply below_drew1) | exact HB.out)⟩
                    · rw [if_neg c11] at H
                      have c11b0 : decide (2 < (rd l1 x7_1)) = false := decide_eq_false c11
                      clear c11
                      have H' := Aside0.mk H
                      clear H
                      have p478 : 0 ≤ (x7_1 : Int) := of_decide_eq_true (by first | (with_reducible assumption) | assumption)
                      have q478 : x7_1 < (l0.length : Int) := of_decide_eq_true (by first | (with_reducible assumption) | assumption)
                      obtain ⟨ad478, e478, hx478_0⟩ := Kd.at_int HR0.out x7_1 p478 q478
                      cases e478
                      replace hx478_0 := (HB.out.cell (World.block_lt_of_cell? w _ hx478_0)).trans hx478_0
                      replace p478 := eq_true p478
                      replace q478 := eq_true q478
                      have p479 : 0 ≤ (x7_1 : Int) := of_decide_eq_true (by first | (with_reducible assumption) | assumption)
                      have q479 : x7_1 < (l0.length : Int) := of_decide_eq_true (by first | (with_reducible assumption) | assumption)
                      obtain ⟨ad479, e479, hx479_0⟩ := Kd.at_int HR0.out x7_1 p479 q479
                      obtain rfl : ad478 = ad479 := (by injection e479)
                      replace hx479_0 := (HB.out.cell (World.block_lt_of_cell? w _ hx479_0)).trans hx479_0
                      replace p479 := eq_true p479
                      replace q479 := eq_true q479
                      have p480 : 0 ≤ (x7_1 : Int) := of_decide_eq_true (by first | (with_reducible assumption) | assumption)
                      have q480 : x7_1 < (l1.length : Int) := of_decide_eq_true (by first | (with_reducible assumption) | assumption)
                      obtain ⟨ad480, e480, hx480_0⟩ := Kd.at_int HR1.out x7_1 p480 q480
                      cases e480
                      replace hx480_0 := (HB.out.cell (World.block_lt_of_cell? w _ hx480_0)).trans hx480_0
                      replace p480 := eq_true p480
                      replace q480 := eq_true q480
                      have p481 : 0 ≤ (x7_1 : Int) := of_decide_eq_true (by first | (with_reducible assumption) | assumption)
                      have q481 : x7_1 < (l1.length : Int) := of_decide_eq_true (by first | (with_reducible assumption) | assumption)
                      obtain ⟨ad481, e481, hx481_0⟩ := Kd.at_int HR1.out x7_1 p481 q481
                      obtain rfl : ad480 = ad481 := (by injection e481)
                      replace hx481_0 := (HB.out.cell (World.block_lt_of_cell? w _ hx481_0)).trans hx481_0
                      replace p481 := eq_true p481
                      replace q481 := eq_true q481
                      go_wp2
                      go_roundg k1
                      case measure => have := HK1.out; omega
                      case rel => exact ⟨(wrap64 (x7_1 + 1)), (by first | rfl | (simp; done) | (simp [*]; done)), H', ⟨by have := HK1.out; omega⟩, ⟨by repeat (first | (with_reducible first | exact HB.out | apply below_alloc | apply pw_below_drewN | apply below_drew1) | exact HB.out)⟩⟩
                · rw [if_neg c9] at H
                  exact absurd H (by simp)
          · rw [if_neg c6] at H
            exact absurd H (by simp)
        · rw [if_neg c5] at H
          exact absurd H (by simp)
      · rw [if_neg c4] at H
        have c4b0 : decide (x7_1 < ji3) = false := decide_eq_false c4
        clear c4
        by_cases c12 : 0 ≤ ji3
        · rw [if_pos c12] at H
          have c12b0 := eq_true c12
          have c12b1 : decide (0 ≤ ji3) = true := decide_eq_true c12
          clear c12
          by_cases c13 : (ji3 : Int).toNat ≤ 281474976710656
          · rw [if_pos c13] at H
            have c13b0 := eq_true c13
            have c13b1 : decide ((ji3 : Int).toNat ≤ 281474976710656) = true := decide_eq_true c13
            clear c13
            obtain ⟨y482, hy482⟩ : ∃ y_ : List Bool, y_ = (List.replicate (ji3 : Int).toNat false) := ⟨_, rfl⟩
            replace H : (intervalmonref28_Hysteresis.l1 k1 l0 l1 ji3 y482 (List.replicate (ji3 : Int).toNat false) 0) = some r := by first | (rw [hy482]; with_reducible exact H) | (have H2_ := (Option.bind_some _ _).symm.trans H; rw [hy482]; with_reducible exact H2_) | (have H2_ := (Option.bind_some _ _).symm.trans H; with_reducible exact H2_) | with_reducible exact H | (rw [hy482]; exact H) | exact H
            have Ny482 := Aside0.mk hy482
            clear hy482
            obtain ⟨y485, hy485⟩ : ∃ y_ : List Bool, y_ = (List.replicate (ji3 : Int).toNat false) := ⟨_, rfl⟩
            replace H : (intervalmonref28_Hysteresis.l1 k1 l0 l1 ji3 y482 y485 0) = some r := by first | (rw [hy485]; with_reducible exact H) | (have H2_ := (Option.bind_some _ _).symm.trans H; rw [hy485]; with_reducible exact H2_) | (have H2_ := (Option.bind_some _ _).symm.trans H; with_reducible exact H2_) | with_reducible exact H | (rw [hy485]; exact H) | exact H
            have Ny485 := Aside0.mk hy485
            clear hy485
            have H' := Aside0.mk H
            clear H
            go_wp2_with (first | ((with_reducible refine gate_dst (N := 58) rfl ?_); refine Kd.R_make Kd.bool _ 4 rfl (N := 58) rfl 45 _ _ rfl ji3 rfl rfl Tryd.underlying45 (.bool false) 1 info4 rfl (by decide) (by omega) false (ok := fun _ => True) (okp := fun _ => True) rfl (fun _ hk => hk) trivial (of_decide_eq_true (by first | (with_reducible assumption) | assumption)) (Nat.le_trans (Nat.mul_le_mul_right _ (of_decide_eq_true (by first | (with_reducible assumption) | assumption) : ji3.toNat ≤ 281474976710656)) (by omega)) (Below.refl _ _) (Nat.le_refl _) ?_; intro v483 w14 ho15 hb hg_ hnew_; clear hg_ hnew_; (first | rw [← Ny482.out] at ho15 | (simp only [Int.reduceToNat] at ho15; rw [← Ny482.out] at ho15)); have n0_ := Aside0.mk (Kd.R_lower ho15 (below_size (by repeat (first | (with_reducible first | exact HB.out | apply below_alloc | apply pw_below_drewN | apply below_drew1) | exact HB.out)))); have n1_ := Aside0.mk (below_step (by repeat (first | (with_reducible first | exact HB.out | apply below_alloc | apply pw_below_drewN | apply below_drew1) | exact HB.out)) hb); clear HB; have HO484 := n0_; have HB := n1_; clear n0_ n1_; clear hb ho15) | ((with_reducible refine gate_dst (N := 60) rfl ?_); refine Kd.R_make Kd.bool _ 4 rfl (N := 60) rfl 45 _ _ rfl ji3 rfl rfl Tryd.underlying45 (.bool false) 1 info4 rfl (by decide) (by omega) false (ok := fun _ => True) (okp := fun _ => True) rfl (fun _ hk => hk) trivial (of_decide_eq_true (by first | (with_reducible assumption) | assumption)) (Nat.le_trans (Nat.mul_le_mul_right _ (of_decide_eq_true (by first | (with_reducible assumption) | assumption) : ji3.toNat ≤ 281474976710656)) (by omega)) (Below.refl _ _) (Nat.le_refl _) ?_; intro v486 w16 ho17 hb hg_ hnew_; clear hg_ hnew_; (first | rw [← Ny485.out] at ho17 | (simp only [Int.reduceToNat] at ho17; rw [← Ny485.out] at ho17)); have n0_ := Aside0.mk (Kd.R_elder' (by (with_reducible repeat (first | apply Kd.R_alloc | apply Kd.R_drewN | apply Kd.R_drew)); exact HO484.out) (Kd.R_base ho17) hb); have n1_ := Aside0.mk (Kd.R_lower (Kd.R_new' ho17 (Kd.R_lt (by (with_reducible repeat (first | apply Kd.R_alloc | apply Kd.R_drewN | apply Kd.R_drew)); exact HO484.out))) (below_size (by repeat (first | (with_reducible first | exact HB.out | apply below_alloc | apply pw_below_drewN | apply below_drew1) | exact HB.out)))); have n2_ := Aside0.mk (below_step (by repeat (first | (with_reducible first | exact HB.out | apply below_alloc | apply pw_below_drewN | apply below_drew1) | exact HB.out)) hb); clear HO484; clear HB; have HO484 := n0_; have HO487 := n1_; have HB := n2_; clear n0_ n1_ n2_; clear hb ho17))
            go_loopg [10] k1 (fun kq v10 w' => ∃ (x9_2 : List Bool) (x10_2 : Int), v10 = .int .i64 x10_2 ∧ Aside0 (intervalmonref28_Hysteresis.l1 kq l0 l1 ji3 y482 x9_2 x10_2 = some r) ∧ Aside0 (kq ≤ k1) ∧ Aside0 (Kd.R Kd.bool 4 w' w.heap.size (fun k_ => some k_ ≠ (v486 : Value).ownBlock) v483 y482) ∧ Aside0 (Kd.R Kd.bool 4 w' w.heap.size (fun k_ => some k_ ≠ (v483 : Value).ownBlock) v486 x9_2) ∧ Aside0 (Below w.heap.size w w'))
            case atStart => exact ⟨(y485), (0), (by first | rfl | (simp; done) | (simp [*]; done)), H', ⟨Nat.le_refl _⟩, ⟨by (with_reducible repeat (first | apply Kd.R_alloc | apply Kd.R_drewN | apply Kd.R_drew)); exact Kd.R_mono HO484.out (fun _ hk => hk.2)⟩, ⟨by (with_reducible repeat (first | apply Kd.R_alloc | apply Kd.R_drewN | apply Kd.R_drew)); exact Kd.R_mono HO487.out (fun _ hk => hk.2)⟩, ⟨by repeat (first | (with_reducible first | exact HB.out | apply below_alloc | apply pw_below_drewN | apply below_drew1) | exact HB.out)⟩⟩
            case round =>
              clear H'
              try clear c1
              try clear c2
              try clear p2
              try clear c4
              try clear c4b0
              try clear p4
              try clear q4
              try clear hx4
              try clear c5
              try clear c5b0
              try clear c6
              try clear c6b0
              try clear p6
              try clear c7
              try clear c7b0
              try clear c8
              try clear c8b0
              try clear c9
              try clear c9b0
              try clear c10
              try clear c10b0
              try clear c11
              try clear c11b0
              try clear c12
              try clear c12b0
              try clear c12b1
              try clear c13
              try clear c13b0
              try clear c13b1
              try clear hx478_0
              try clear hx479_0
              try clear hx480_0
              try clear hx481_0
              try clear p2
              try clear p478
              try clear p479
              try clear p480
              try clear p481
              try clear q478
              try clear q479
              try clear q480
              try clear q481
              obtain ⟨x9_2, x10_2, rfl, HA, HK2, HO_8, HO_9, HB⟩ := hrel
              cases gk with
              | zero => exact absurd HA.out (by simp [intervalmonref28_Hysteresis.l1])
              | succ k2 =>
                have H := HA.out
                clear HA
                simp only [intervalmonref28_Hysteresis.l1] at H
                by_cases c18 : x10_2 < ji3
                · rw [if_pos c18] at H
                  have c18b0 : decide (x10_2 < ji3) = true := decide_eq_true c18
                  clear c18
                  by_cases c19 : 0 ≤ x10_2
                  · rw [if_pos c19] at H
                    have c19b0 : decide (0 ≤ x10_2) = true := decide_eq_true c19
                    clear c19
                    by_cases c20 : x10_2 < (x9_2.length : Int)
                    · rw [if_pos c20] at H
                      have c20b0 : decide (x10_2 < (x9_2.length : Int)) = true := decide_eq_true c20
                      clear c20
                      obtain ⟨y488, hy488⟩ : ∃ y_ : List Bool, y_ = (x9_2.set (x10_2 : Int).toNat true) := ⟨_, rfl⟩
                      replace H : (intervalmonref28_Hysteresis.l1 k2 l0 l1 ji3 y482 y488 (wrap64 (x10_2 + 1))) = some r := by first | (rw [hy488]; with_reducible exact H) | (have H2_ := (Option.bind_some _ _).symm.trans H; rw [hy488]; with_reducible exact H2_) | (have H2_ := (Option.bind_some _ _).symm.trans H; with_reducible exact H2_) | with_reducible exact H | (rw [hy488]; exact H) | exact H
                      have Ny488 := Aside0.mk hy488
                      clear hy488
                      have H' := Aside0.mk H
                      clear H
                      have p21 : 0 ≤ (x10_2 : Int) := of_decide_eq_true (by first | (with_reducible assumption) | assumption)
                      have q21 : (x10_2 : Int) < ((x9_2.length : Int) : Int) := of_decide_eq_true (by first | (with_reducible assumption) | assumption)
                      obtain ⟨go21, co21, eo21, gb21, gl21, cl21, HG21⟩ := Kd.R_form HO_9.out (by omega)
                      (first | cases eo21 | (injection eo21 with ea_ en_ ec_; (first | subst ea_ | (injection ea_ with ea_; subst ea_)); subst ec_; clear en_))
                      have GB21 := Aside0.mk gb21
                      have GG21 := Aside0.mk HG21
                      clear gb21 gl21 HG21
                      obtain ⟨hx21_0, hf21_0⟩ := Kd.R_celln false HO_9.out (x10_2 : Int) p21 q21
                      replace p21 := eq_true p21
                      replace q21 := eq_true q21
                      have HP22 := Kd.R_putg HO_9.out (x10_2 : Int) true
                      go_wp2_with (first | ((with_reducible refine gate_store (t := 4) (p := 68) rfl ?_); refine store_event (t := 4) (p := 68) (v := ?vo_w23) (w1 := (wr.setCell ⟨go21, (x10_2 : Int).toNat, none⟩ (.bool true))) ?hg ?ho ?hn ?hr ?_; (case ho => rfl); (case hg => rfl); (case hn => rfl); (case hr => first | (go_simp; done) | (go_simp; rfl)); intro w23 hw; have hg : wr.grownBy w23 (some go21) := (by rw [hw]; exact HP22.2); have hp_ : Kd.R Kd.bool 4 w23 w.heap.size (fun k_ => some k_ ≠ (v483 : Value).ownBlock) (.slice (some ⟨go21, 0, none⟩) x9_2.length co21) y488 := (by rw [hw, Ny488.out]; exact HP22.1); clear HP22; have n0_ := Aside0.mk (Kd.R_after (v := (.slice (some ⟨go21, 0, none⟩) x9_2.length co21)) (v1 := (.slice (some ⟨go21, 0, none⟩) x9_2.length co21)) (ok := (fun _ => True)) (by (with_reducible repeat (first | apply Kd.R_alloc | apply Kd.R_drewN | apply Kd.R_drew)); exact Kd.R_mono HO_8.out (fun _ hk => ⟨trivial, hk⟩)) hg (.inl rfl)); have n1_ := Aside0.mk (hp_); have n2_ := Aside0.mk ((by rw [hw]; exact below_set (HB.out) GB21.out : Below w.heap.size w w23)); clear HO_8; clear HO_9; clear HB; have HO_8 := n0_; have HO_9 := n1_; have HB := n2_; clear n0_ n1_ n2_; clear hg hw hp_))
                      go_roundg k2
                      case measure => have := HK1.out; have := HK2.out; omega
                      case rel => exact ⟨(y488), (wrap64 (x10_2 + 1)), (by first | rfl | (simp; done) | (simp [*]; done)), H', ⟨by have := HK1.out; have := HK2.out; omega⟩, ⟨by (with_reducible repeat (first | apply Kd.R_alloc | apply Kd.R_drewN | apply Kd.R_drew)); exact Kd.R_mono HO_8.out (fun _ hk => hk.2)⟩, ⟨by (with_reducible repeat (first | apply Kd.R_alloc | apply Kd.R_drewN | apply Kd.R_drew)); exact HO_9.out⟩, ⟨by repeat (first | (with_reducible first | exact HB.out | apply below_alloc | apply pw_below_drewN | apply below_drew1) | exact HB.out)⟩⟩
                    · rw [if_neg c20] at H
                      exact absurd H (by simp)
                  · rw [if_neg c19] at H
                    exact absurd H (by simp)
                · rw [if_neg c18] at H
                  have c18b0 : decide (x10_2 < ji3) = false := decide_eq_false c18
                  clear c18
                  have H' := Aside0.mk H
                  clear H
                  go_wp2
                  go_loopg [11, 12] k2 (fun kq v11 v12 w' => ∃ (x11_3 : Int) (x12_3 : Int), v11 = .int .i64 x11_3 ∧ v12 = .int .i64 x12_3 ∧ Aside0 (intervalmonref28_Hysteresis.l2 kq l0 l1 ji3 y482 x9_2 x11_3 x12_3 = some r) ∧ Aside0 (kq ≤ k2) ∧ Aside0 (Kd.R Kd.bool 4 w' w.heap.size (fun k_ => some k_ ≠ (v486 : Value).ownBlock) v483 y482) ∧ Aside0 (Kd.R Kd.bool 4 w' w.heap.size (fun k_ => some k_ ≠ (v483 : Value).ownBlock) v486 x9_2) ∧ Aside0 (Below w.heap.size w w'))
                  case atStart => exact ⟨(1), (0), (by first | rfl | (simp; done) | (simp [*]; done)), (by first | rfl | (simp; done) | (simp [*]; done)), H', ⟨Nat.le_refl _⟩, ⟨by (with_reducible repeat (first | apply Kd.R_alloc | apply Kd.R_drewN | apply Kd.R_drew)); exact HO_8.out⟩, ⟨by (with_reducible repeat (first | apply Kd.R_alloc | apply Kd.R_drewN | apply Kd.R_drew)); exact HO_9.out⟩, ⟨by repeat (first | (with_reducible first | exact HB.out | apply below_alloc | apply pw_below_drewN | apply below_drew1) | exact HB.out)⟩⟩
                  case round =>
                    clear H'
                    try clear c1
                    try clear c2
                    try clear p2
                    try clear q2
                    try clear hx2
                    try clear hf2
                    try clear c4
                    try clear c4b0
                    try clear p4
                    try clear q4
                    try clear hx4
                    try clear c5
                    try clear c5b0
                    try clear c6
                    try clear c6b0
                    try clear p6
                    try clear c7
                    try clear c7b0
                    try clear c8
                    try clear c8b0
                    try clear c9
                    try clear c9b0
                    try clear c10
                    try clear c10b0
                    try clear c11
                    try clear c11b0
                    try clear c12
                    try clear c12b0
                    try clear c12b1
                    try clear c13
                    try clear c13b0
                    try clear c13b1
                    try clear c18
                    try clear c18b0
                    try clear c19
                    try clear c19b0
                    try clear c20
                    try clear c20b0
                    try clear p21
                    try clear q21
                    try clear hx21
                    try clear hf21
                    try clear hx21_0
                    try clear hx478_0
                    try clear hx479_0
                    try clear hx480_0
                    try clear hx481_0
                    try clear p2
                    try clear p21
                    try clear p4
                    try clear p478
                    try clear p479
                    try clear p480
                    try clear p481
                    try clear p6
                    try clear q21
                    try clear q4
                    try clear q478
                    try clear q479
                    try clear q480
                    try clear q481
                    obtain ⟨x11_3, x12_3, rfl, rfl, HA, HK3, HO_8, HO_9, HB⟩ := hrel
                    cases gk with
                    | zero => exact absurd HA.out (by simp [intervalmonref28_Hysteresis.l2])
                    | succ k3 =>
                      have H := HA.out
                      clear HA
                      simp only [intervalmonref28_Hysteresis.l2] at H
                      by_cases c24 : 0 ≤ ji3
                      · rw [if_pos c24] at H
                        have c24b0 := eq_true c24
                        have c24b1 : decide (0 ≤ ji3) = true := decide_eq_true c24
                        clear c24
                        by_cases c25 : ji3 ≤ (l0.length : Int)
                        · rw [if_pos c25] at H
                          have c25b0 := eq_true c25
                          have c25b1 : decide (ji3 ≤ (l0.length : Int)) = true := decide_eq_true c25
                          clear c25
                          replace H := Option.bind_eq_some_iff.mp H
                          obtain ⟨t490, A260, H⟩ := H
                          replace H : (if x12_3 < t490 then (intervalmonref28_Hysteresis.l2 k3 l0 l1 ji3 y482 x9_2 (wrap64 (2 * x11_3)) (wrap64 (x12_3 + 1))) else (intervalmonref28_Hysteresis.l3 k3 l0 l1 ji3 y482 x9_2 x11_3 1 0)) = some r := H
                          have A26 := Aside0.mk A260
                          clear A260
                          by_cases c27 : x12_3 < t490
                          · rw [if_pos c27] at H
                            have c27b0 : decide (x12_3 < t490) = true := decide_eq_true c27
                            clear c27
                            have H' := Aside0.mk H
                            clear H
                            obtain ⟨i028, hi028, _, hsz28, _⟩ := info_parts info3
                            obtain ⟨hcut28, hA28, hC28⟩ := print_take_of (P := Tryd.prog) (Value.int .i64) 0 22 3 .i64 Tryd.underlying22 hi028 hsz28 A0 c0 l0 ji3 (of_decide_eq_true (by first | (with_reducible assumption) | assumption)) (of_decide_eq_true (by first | (with_reducible assumption) | assumption)) HC0.out
                            have HR489 := Aside0.mk (Kd.C_of_reads (h1 := fun _ => rfl) (hA28 _ (Kd.reads_of_C HR0.out)))
                            have HC489 := Aside0.mk hC28
                            clear hA28 hC28 hi028 hsz28
                            go_wp2_with (first | ((with_reducible refine gate_callee (f := 55) rfl ?_); refine goesL_ (some 73) rfl rfl Tryd.func55 (by kernel_rfl) rfl #[.slice A0 (l0.take (ji3 : Int).toNat).length c0] rfl (by (try simp only [List.map_toArray, List.map_cons, List.map_nil]); first | done | (rw [show (l0.take (ji3 : Int).toNat).length = ji3.toNat from (by rw [List.length_take]; have h_ : (ji3 : Int) ≤ (l0.length : Int) := of_decide_eq_true (by first | (with_reducible assumption) | assumption); omega)] <;> rfl) | (simp only [hji3]; rfl) | rfl | (simp only [List.length_drop, List.length_take]; rfl)) ?_; (with_reducible refine (intervalmonref28_mays.calls k3 _ _ (l0.take (ji3 : Int).toNat) t490 _ ?side1 ?side2 A26.out).mono ?_); (case side1 => repeat (first | exact (Kd.C_below HR489.out HB.out) | (with_reducible refine Kd.C_alloc ?_ _) | (with_reducible refine Kd.C_drewN ?_ _) | (with_reducible refine Kd.C_drew ?_))); (case side2 => exact HC489.out); rintro e w' ⟨rfl, ⟨nd, rfl⟩⟩; refine ⟨_, rfl, ?_⟩))
                            go_roundg k3
                            case measure => have := HK1.out; have := HK2.out; have := HK3.out; omega
                            case rel => exact ⟨(wrap64 (2 * x11_3)), (wrap64 (x12_3 + 1)), (by first | rfl | (simp; done) | (simp [*]; done)), (by first | rfl | (simp; done) | (simp [*]; done)), H', ⟨by have := HK1.out; have := HK2.out; have := HK3.out; omega⟩, ⟨by (with_reducible repeat (first | apply Kd.R_alloc | apply Kd.R_drewN | apply Kd.R_drew)); exact HO_8.out⟩, ⟨by (with_reducible repeat (first | apply Kd.R_alloc | apply Kd.R_drewN | apply Kd.R_drew)); exact HO_9.out⟩, ⟨by repeat (first | (with_reducible first | exact HB.out | apply below_alloc | apply pw_below_drewN | apply below_drew1) | exact HB.out)⟩⟩
                          · rw [if_neg c27] at H
                            have c27b0 : decide (x12_3 < t490) = false := decide_eq_false c27
                            clear c27
                            have H' := Aside0.mk H
                            clear H
                            obtain ⟨i029, hi029, _, hsz29, _⟩ := info_parts info3
                            obtain ⟨hcut29, hA29, hC29⟩ := print_take_of (P := Tryd.prog) (Value.int .i64) 0 22 3 .i64 Tryd.underlying22 hi029 hsz29 A0 c0 l0 ji3 (of_decide_eq_true (by first | (with_reducible assumption) | assumption)) (of_decide_eq_true (by first | (with_reducible assumption) | assumption)) HC0.out
                            have HR489 := Aside0.mk (Kd.C_of_reads (h1 := fun _ => rfl) (hA29 _ (Kd.reads_of_C HR0.out)))
                            have HC489 := Aside0.mk hC29
                            clear hA29 hC29 hi029 hsz29
                            go_wp2_with (first | ((with_reducible refine gate_callee (f := 55) rfl ?_); refine goesL_ (some 73) rfl rfl Tryd.func55 (by kernel_rfl) rfl #[.slice A0 (l0.take (ji3 : Int).toNat).length c0] rfl (by (try simp only [List.map_toArray, List.map_cons, List.map_nil]); first | done | (rw [show (l0.take (ji3 : Int).toNat).length = ji3.toNat from (by rw [List.length_take]; have h_ : (ji3 : Int) ≤ (l0.length : Int) := of_decide_eq_true (by first | (with_reducible assumption) | assumption); omega)] <;> rfl) | (simp only [hji3]; rfl) | rfl | (simp only [List.length_drop, List.length_take]; rfl)) ?_; (with_reducible refine (intervalmonref28_mays.calls k3 _ _ (l0.take (ji3 : Int).toNat) t490 _ ?side1 ?side2 A26.out).mono ?_); (case side1 => repeat (first | exact (Kd.C_below HR489.out HB.out) | (with_reducible refine Kd.C_alloc ?_ _) | (with_reducible refine Kd.C_drewN ?_ _) | (with_reducible refine Kd.C_drew ?_))); (case side2 => exact HC489.out); rintro e w' ⟨rfl, ⟨nd, rfl⟩⟩; refine ⟨_, rfl, ?_⟩))
                            go_loopg [13, 14] k3 (fun kq v13 v14 w' => ∃ (x13_4 : Int) (x14_4 : Int), v13 = .int .i64 x13_4 ∧ v14 = .int .i64 x14_4 ∧ Aside0 (intervalmonref28_Hysteresis.l3 kq l0 l1 ji3 y482 x9_2 x11_3 x13_4 x14_4 = some r) ∧ Aside0 (kq ≤ k3) ∧ Aside0 (Kd.R Kd.bool 4 w' w.heap.size (fun k_ => some k_ ≠ (v486 : Value).ownBlock) v483 y482) ∧ Aside0 (Kd.R Kd.bool 4 w' w.heap.size (fun k_ => some k_ ≠ (v483 : Value).ownBlock) v486 x9_2) ∧ Aside0 (Below w.heap.size w w'))
                            case atStart => exact ⟨(1), (0), (by first | rfl | (simp; done) | (simp [*]; done)), (by first | rfl | (simp; done) | (simp [*]; done)), H', ⟨Nat.le_refl _⟩, ⟨by (with_reducible repeat (first | apply Kd.R_alloc | apply Kd.R_drewN | apply Kd.R_drew)); exact HO_8.out⟩, ⟨by (with_reducible repeat (first | apply Kd.R_alloc | apply Kd.R_drewN | apply Kd.R_drew)); exact HO_9.out⟩, ⟨by repeat (first | (with_reducible first | exact HB.out | apply below_alloc | apply pw_below_drewN | apply below_drew1) | exact HB.out)⟩⟩
                            case round =>
                              clear H'
                              try clear c1
                              try clear c2
                              try clear p2
                              try clear q2
                              try clear hx2
                              try clear hf2
                              try clear c4
                              try clear c4b0
                              try clear p4
                              try clear q4
                              try clear hx4
                              try clear c5
                              try clear c5b0
                              try clear c6
                              try clear c6b0
                              try clear p6
                              try clear c7
                              try clear c7b0
                              try clear c8
                              try clear c8b0
                              try clear c9
                              try clear c9b0
                              try clear c10
                              try clear c10b0
                              try clear c11
                              try clear c11b0
                              try clear c12
                              try clear c12b0
                              try clear c12b1
                              try clear c13
                              try clear c13b0
                              try clear c13b1
                              try clear c18
                              try clear c18b0
                              try clear c19
                              try clear c19b0
                              try clear c20
                              try clear c20b0
                              try clear p21
                              try clear q21
                              try clear hx21
                              try clear hf21
                              try clear c24
                              try clear c24b0
                              try clear c24b1
                              try clear c25
                              try clear c25b0
                              try clear c25b1
                              try clear c26
                              try clear c27
                              try clear c27b0
                              try clear hx21_0
                              try clear hx478_0
                              try clear hx479_0
                              try clear hx480_0
                              try clear hx481_0
                              try clear p2
                              try clear p21
                              try clear p4
                              try clear p478
                              try clear p479
                              try clear p480
                              try clear p481
                              try clear p6
                              try clear q2
                              try clear q21
                              try clear q4
                              try clear q478
                              try clear q479
                              try clear q480
                              try clear q481
                              obtain ⟨x13_4, x14_4, rfl, rfl, HA, HK4, HO_8, HO_9, HB⟩ := hrel
                              cases gk with
                              | zero => exact absurd HA.out (by simp [intervalmonref28_Hysteresis.l3])
                              | succ k4 =>
                                have H := HA.out
                                clear HA
                                simp only [intervalmonref28_Hysteresis.l3] at H
                                by_cases c30 : 0 ≤ ji3
                                · rw [if_pos c30] at H
                                  have c30b0 := eq_true c30
                                  have c30b1 : decide (0 ≤ ji3) = true := decide_eq_true c30
                                  clear c30
                                  by_cases c31 : ji3 ≤ (l1.length : Int)
                                  · rw [if_pos c31] at H
                                    have c31b0 := eq_true c31
                                    have c31b1 : decide (ji3 ≤ (l1.length : Int)) = true := decide_eq_true c31
                                    clear c31
                                    replace H := Option.bind_eq_some_iff.mp H
                                    obtain ⟨t492, A320, H⟩ := H
                                    replace H : (if x14_4 < t492 then (intervalmonref28_Hysteresis.l3 k4 l0 l1 ji3 y482 x9_2 x11_3 (wrap64 (2 * x13_4)) (wrap64 (x14_4 + 1))) else (intervalmonref28_Hysteresis.l4 k4 l0 l1 ji3 y482 x9_2 x11_3 x13_4 0)) = some r := H
                                    have A32 := Aside0.mk A320
                                    clear A320
                                    by_cases c33 : x14_4 < t492
                                    · rw [if_pos c33] at H
                                      have c33b0 : decide (x14_4 < t492) = true := decide_eq_true c33
                                      clear c33
                                      have H' := Aside0.mk H
                                      clear H
                                      obtain ⟨i034, hi034, _, hsz34, _⟩ := info_parts info3
                                      obtain ⟨hcut34, hA34, hC34⟩ := print_take_of (P := Tryd.prog) (Value.int .i64) 0 22 3 .i64 Tryd.underlying22 hi034 hsz34 A1 c1 l1 ji3 (of_decide_eq_true (by first | (with_reducible assumption) | assumption)) (of_decide_eq_true (by first | (with_reducible assumption) | assumption)) HC1.out
                                      have HR491 := Aside0.mk (Kd.C_of_reads (h1 := fun _ => rfl) (hA34 _ (Kd.reads_of_C HR1.out)))
                                      have HC491 := Aside0.mk hC34
                                      clear hA34 hC34 hi034 hsz34
                                      go_wp2_with (first | ((with_reducible refine gate_callee (f := 55) rfl ?_); refine goesL_ (some 83) rfl rfl Tryd.func55 (by kernel_rfl) rfl #[.slice A1 (l1.take (ji3 : Int).toNat).length c1] rfl (by (try simp only [List.map_toArray, List.map_cons, List.map_nil]); first | done | (rw [show (l1.take (ji3 : Int).toNat).length = ji3.toNat from (by rw [List.length_take]; have h_ : (ji3 : Int) ≤ (l1.length : Int) := of_decide_eq_true (by first | (with_reducible assumption) | assumption); omega)] <;> rfl) | (simp only [hji3]; rfl) | rfl | (simp only [List.length_drop, List.length_take]; rfl)) ?_; (with_reducible refine (intervalmonref28_mays.calls k4 _ _ (l1.take (ji3 : Int).toNat) t492 _ ?side1 ?side2 A32.out).mono ?_); (case side1 => repeat (first | exact (Kd.C_below HR491.out HB.out) | (with_reducible refine Kd.C_alloc ?_ _) | (with_reducible refine Kd.C_drewN ?_ _) | (with_reducible refine Kd.C_drew ?_))); (case side2 => exact HC491.out); rintro e w' ⟨rfl, ⟨nd, rfl⟩⟩; refine ⟨_, rfl, ?_⟩))
                                      go_roundg k4
                                      case measure => have := HK1.out; have := HK2.out; have := HK3.out; have := HK4.out; omega
                                      case rel => exact ⟨(wrap64 (2 * x13_4)), (wrap64 (x14_4 + 1)), (by first | rfl | (simp; done) | (simp [*]; done)), (by first | rfl | (simp; done) | (simp [*]; done)), H', ⟨by have := HK1.out; have := HK2.out; have := HK3.out; have := HK4.out; omega⟩, ⟨by (with_reducible repeat (first | apply Kd.R_alloc | apply Kd.R_drewN | apply Kd.R_drew)); exact HO_8.out⟩, ⟨by (with_reducible repeat (first | apply Kd.R_alloc | apply Kd.R_drewN | apply Kd.R_drew)); exact HO_9.out⟩, ⟨by repeat (first | (with_reducible first | exact HB.out | apply below_alloc | apply pw_below_drewN | apply below_drew1) | exact HB.out)⟩⟩
                                    · rw [if_neg c33] at H
                                      have c33b0 : decide (x14_4 < t492) = false := decide_eq_false c33
                                      clear c33
                                      have H' := Aside0.mk H
                                      clear H
                                      obtain ⟨i035, hi035, _, hsz35, _⟩ := info_parts info3
                                      obtain ⟨hcut35, hA35, hC35⟩ := print_take_of (P := Tryd.prog) (Value.int .i64) 0 22 3 .i64 Tryd.underlying22 hi035 hsz35 A1 c1 l1 ji3 (of_decide_eq_true (by first | (with_reducible assumption) | assumption)) (of_decide_eq_true (by first | (with_reducible assumption) | assumption)) HC1.out
                                      have HR491 := Aside0.mk (Kd.C_of_reads (h1 := fun _ => rfl) (hA35 _ (Kd.reads_of_C HR1.out)))
                                      have HC491 := Aside0.mk hC35
                                      clear hA35 hC35 hi035 hsz35
                                      go_wp2_with (first | ((with_reducible refine gate_callee (f := 55) rfl ?_); refine goesL_ (some 83) rfl rfl Tryd.func55 (by kernel_rfl) rfl #[.slice A1 (l1.take (ji3 : Int).toNat).length c1] rfl (by (try simp only [List.map_toArray, List.map_cons, List.map_nil]); first | done | (rw [show (l1.take (ji3 : Int).toNat).length = ji3.toNat from (by rw [List.length_take]; have h_ : (ji3 : Int) ≤ (l1.length : Int) := of_decide_eq_true (by first | (with_reducible assumption) | assumption); omega)] <;> rfl) | (simp only [hji3]; rfl) | rfl | (simp only [List.length_drop, List.length_take]; rfl)) ?_; (with_reducible refine (intervalmonref28_mays.calls k4 _ _ (l1.take (ji3 : Int).toNat) t492 _ ?side1 ?side2 A32.out).mono ?_); (case side1 => repeat (first | exact (Kd.C_below HR491.out HB.out) | (with_reducible refine Kd.C_alloc ?_ _) | (with_reducible refine Kd.C_drewN ?_ _) | (with_reducible refine Kd.C_drew ?_))); (case side2 => exact HC491.out); rintro e w' ⟨rfl, ⟨nd, rfl⟩⟩; refine ⟨_, rfl, ?_⟩))
                                      go_loopg [15] k4 (fun kq v15 w' => ∃ (x8_5 : List Bool) (x9_5 : List Bool) (x15_5 : Int), v15 = .int .i64 x15_5 ∧ Aside0 (intervalmonref28_Hysteresis.l4 kq l0 l1 ji3 x8_5 x9_5 x11_3 x13_4 x15_5 = some r) ∧ Aside0 (kq ≤ k4) ∧ Aside0 (Kd.R Kd.bool 4 w' w.heap.size (fun k_ => some k_ ≠ (v486 : Value).ownBlock) v483 x8_5) ∧ Aside0 (Kd.R Kd.bool 4 w' w.heap.size (fun k_ => some k_ ≠ (v483 : Value).ownBlock) v486 x9_5) ∧ Aside0 (Below w.heap.size w w'))
                                      case atStart => exact ⟨(y482), (x9_2), (0), (by first | rfl | (simp; done) | (simp [*]; done)), H', ⟨Nat.le_refl _⟩, ⟨by (with_reducible repeat (first | apply Kd.R_alloc | apply Kd.R_drewN | apply Kd.R_drew)); exact HO_8.out⟩, ⟨by (with_reducible repeat (first | apply Kd.R_alloc | apply Kd.R_drewN | apply Kd.R_drew)); exact HO_9.out⟩, ⟨by repeat (first | (with_reducible first | exact HB.out | apply below_alloc | apply pw_below_drewN | apply below_drew1) | exact HB.out)⟩⟩
                                      case round =>
                                        clear H'
                                        try clear c1
                                        try clear c2
                                        try clear p2
                                        try clear q2
                                        try clear hx2
                                        try clear hf2
                                        try clear c3
                                        try clear c4
                                        try clear c4b0
                                        try clear p4
                                        try clear q4
                                        try clear hx4
                                        try clear c5
                                        try clear c5b0
                                        try clear c6
                                        try clear c6b0
                                        try clear p6
                                        try clear c7
                                        try clear c7b0
                                        try clear c8
                                        try clear c8b0
                                        try clear c9
                                        try clear c9b0
                                        try clear c10
                                        try clear c10b0
                                        try clear c11
                                        try clear c11b0
                                        try clear c12
                                        try clear c12b0
                                        try clear c12b1
                                        try clear c13
                                        try clear c13b0
                                        try clear c13b1
                                        try clear c18
                                        try clear c18b0
                                        try clear c19
                                        try clear c19b0
                                        try clear c20
                                        try clear c20b0
                                        try clear p21
                                        try clear q21
                                        try clear hx21
                                        try clear hf21
                                        try clear c24
                                        try clear c24b0
                                        try clear c24b1
                                        try clear c25
                                        try clear c25b0
                                        try clear c25b1
                                        try clear c26
                                        try clear c27
                                        try clear c27b0
                                        try clear c30
                                        try clear c30b0
                                        try clear c30b1
                                        try clear c31
                                        try clear c31b0
                                        try clear c31b1
                                        try clear c33
                                        try clear c33b0
                                        try clear hx21_0
                                        try clear hx478_0
                                        try clear hx479_0
                                        try clear hx480_0
                                        try clear hx481_0
                                        try clear p2
                                        try clear p21
                                        try clear p4
                                        try clear p478
                                        try clear p479
                                        try clear p480
                                        try clear p481
                                        try clear p6
                                        try clear q2
                                        try clear q21
                                        try clear q4
                                        try clear q478
                                        try clear q479
                                        try clear q480
                                        try clear q481
                                        obtain ⟨x8_5, x9_5, x15_5, rfl, HA, HK5, HO_8, HO_9, HB⟩ := hrel
                                        cases gk with
                                        | zero => exact absurd HA.out (by simp [intervalmonref28_Hysteresis.l4])
                                        | succ k5 =>
                                          have H := HA.out
                                          clear HA
                                          simp only [intervalmonref28_Hysteresis.l4] at H
                                          by_cases c36 : x15_5 < x11_3
                                          · rw [if_pos c36] at H
                                            have c36b0 : decide (x15_5 < x11_3) = true := decide_eq_true c36
                                            clear c36
                                            have H' := Aside0.mk H
                                            clear H
                                            go_wp2
                                            go_loopg [16] k5 (fun kq v16 w' => ∃ (x8_6 : List Bool) (x9_6 : List Bool) (x16_6 : Int), v16 = .int .i64 x16_6 ∧ Aside0 (intervalmonref28_Hysteresis.l5 kq l0 l1 ji3 x8_6 x9_6 x11_3 x13_4 x15_5 x16_6 = some r) ∧ Aside0 (kq ≤ k5) ∧ Aside0 (Kd.R Kd.bool 4 w' w.heap.size (fun k_ => some k_ ≠ (v486 : Value).ownBlock) v483 x8_6) ∧ Aside0 (Kd.R Kd.bool 4 w' w.heap.size (fun k_ => some k_ ≠ (v483 : Value).ownBlock) v486 x9_6) ∧ Aside0 (Below w.heap.size w w'))
                                            case atStart => exact ⟨(x8_5), (x9_5), (0), (by first | rfl | (simp; done) | (simp [*]; done)), H', ⟨Nat.le_refl _⟩, ⟨by (with_reducible repeat (first | apply Kd.R_alloc | apply Kd.R_drewN | apply Kd.R_drew)); exact HO_8.out⟩, ⟨by (with_reducible repeat (first | apply Kd.R_alloc | apply Kd.R_drewN | apply Kd.R_drew)); exact HO_9.out⟩, ⟨by repeat (first | (with_reducible first | exact HB.out | apply below_alloc | apply pw_below_drewN | apply below_drew1) | exact HB.out)⟩⟩
                                            case round =>
                                              clear H'
                                              try clear c1
                                              try clear c2
                                              try clear p2
                                              try clear q2
                                              try clear hx2
                                              try clear hf2
                                              try clear c3
                                              try clear c4
                                              try clear c4b0
                                              try clear p4
                                              try clear q4
                                              try clear hx4
                                              try clear c5
                                              try clear c5b0
                                              try clear c6
                                              try clear c6b0
                                              try clear p6
                                              try clear c7
                                              try clear c7b0
                                              try clear c8
                                              try clear c8b0
                                              try clear c9
                                              try clear c9b0
                                              try clear c10
                                              try clear c10b0
                                              try clear c11
                                              try clear c11b0
                                              try clear c12
                                              try clear c12b0
                                              try clear c12b1
                                              try clear c13
                                              try clear c13b0
                                              try clear c13b1
                                              try clear c18
                                              try clear c18b0
                                              try clear c19
                                              try clear c19b0
                                              try clear c20
                                              try clear c20b0
                                              try clear p21
                                              try clear q21
                                              try clear hx21
                                              try clear hf21
                                              try clear c24
                                              try clear c24b0
                                              try clear c24b1
                                              try clear c25
                                              try clear c25b0
                                              try clear c25b1
                                              try clear c26
                                              try clear c27
                                              try clear c27b0
                                              try clear c30
                                              try clear c30b0
                                              try clear c30b1
                                              try clear c31
                                              try clear c31b0
                                              try clear c31b1
                                              try clear c33
                                              try clear c33b0
                                              try clear c36
                                              try clear c36b0
                                              try clear hx21_0
                                              try clear hx478_0
                                              try clear hx479_0
                                              try clear hx480_0
                                              try clear hx481_0
                                              try clear p2
                                              try clear p21
                                              try clear p4
                                              try clear p478
                                              try clear p479
                                              try clear p480
                                              try clear p481
                                              try clear p6
                                              try clear q2
                                              try clear q21
                                              try clear q4
                                              try clear q478
                                              try clear q479
                                              try clear q480
                                              try clear q481
                                              obtain ⟨x8_6, x9_6, x16_6, rfl, HA, HK6, HO_8, HO_9, HB⟩ := hrel
                                              cases gk with
                                              | zero => exact absurd HA.out (by simp [intervalmonref28_Hysteresis.l5])
                                              | succ k6 =>
                                                have H := HA.out
                                                clear HA
                                                simp only [intervalmonref28_Hysteresis.l5] at H
                                                by_cases c37 : x16_6 < x13_4
                                                · rw [if_pos c37] at H
                                                  have c37b0 : decide (x16_6 < x13_4) = true := decide_eq_true c37
                                                  clear c37
                                                  by_cases c38 : 0 ≤ ji3
                                                  · rw [if_pos c38] at H
                                                    have c38b0 := eq_true c38
                                                    have c38b1 : decide (0 ≤ ji3) = true := decide_eq_true c38
                                                    clear c38
                                                    by_cases c39 : ji3 ≤ (l0.length : Int)
                                                    · rw [if_pos c39] at H
                                                      have c39b0 := eq_true c39
                                                      have c39b1 : decide (ji3 ≤ (l0.length : Int)) = true := decide_eq_true c39
                                                      clear c39
                                                      replace H := Option.bind_eq_some_iff.mp H
                                                      obtain ⟨t494, A400, H⟩ := H
                                                      replace H : (if ji3 ≤ (l1.length : Int) then ((intervalmonref28_Truths.f k6 (l1.take (ji3 : Int).toNat) x16_6).bind fun t498 => ((intervalmonref28_Latch.f k6 t494 t498).bind fun t501 => (intervalmonref28_Hysteresis.l6 k6 l0 l1 ji3 x8_6 x9_6 x11_3 x13_4 x15_5 x16_6 t501 0))) else (none)) = some r := H
                                                      have A40 := Aside0.mk A400
                                                      clear A400
                                                      have c41b0 := eq_true (of_decide_eq_true (by first | (with_reducible assumption) | assumption) : 0 ≤ ji3)
                                                      by_cases c42 : ji3 ≤ (l1.length : Int)
                                                      · rw [if_pos c42] at H
                                                        have c42b0 := eq_true c42
                                                        have c42b1 : decide (ji3 ≤ (l1.length : Int)) = true := decide_eq_true c42
                                                        clear c42
                                                        replace H := Option.bind_eq_some_iff.mp H
                                                        obtain ⟨t498, A430, H⟩ := H
                                                        replace H : ((intervalmonref28_Latch.f k6 t494 t498).bind fun t501 => (intervalmonref28_Hysteresis.l6 k6 l0 l1 ji3 x8_6 x9_6 x11_3 x13_4 x15_5 x16_6 t501 0)) = some r := H
                                                        have A43 := Aside0.mk A430
                                                        clear A430
                                                        replace H := Option.bind_eq_some_iff.mp H
                                                        obtain ⟨t501, A440, H⟩ := H
                                                        replace H : (intervalmonref28_Hysteresis.l6 k6 l0 l1 ji3 x8_6 x9_6 x11_3 x13_4 x15_5 x16_6 t501 0) = some r := H
                                                        have A44 := Aside0.mk A440
                                                        clear A440
                                                        have H' := Aside0.mk H
                                                        clear H
                                                        try go_wp2
                                                        have n0_ := Aside0.mk (Kd.R_drew HO_8.out)
                                                        have n1_ := Aside0.mk (Kd.R_drew HO_9.out)
                                                        have n2_ := Aside0.mk (below_drew1 HB.out)
                                                        clear HO_8
                                                        clear HO_9
                                                        clear HB
                                                        have HO_8 := n0_
                                                        have HO_9 := n1_
                                                        have HB := n2_
                                                        clear n0_ n1_ n2_
                                                        obtain ⟨i046, hi046, _, hsz46, _⟩ := info_parts info3
                                                        obtain ⟨hcut46, hA46, hC46⟩ := print_take_of (P := Tryd.prog) (Value.int .i64) 0 22 3 .i64 Tryd.underlying22 hi046 hsz46 A0 c0 l0 ji3 (of_decide_eq_true (by first | (with_reducible assumption) | assumption)) (of_decide_eq_true (by first | (with_reducible assumption) | assumption)) HC0.out
                                                        have HR493 := Aside0.mk (Kd.C_of_reads (h1 := fun _ => rfl) (hA46 _ (Kd.reads_of_C HR0.out)))
                                                        have HC493 := Aside0.mk hC46
                                                        clear hA46 hC46 hi046 hsz46
                                                        obtain ⟨i047, hi047, _, hsz47, _⟩ := info_parts info3
                                                        obtain ⟨hcut47, hA47, hC47⟩ := print_take_of (P := Tryd.prog) (Value.int .i64) 0 22 3 .i64 Tryd.underlying22 hi047 hsz47 A1 c1 l1 ji3 (of_decide_eq_true (by first | (with_reducible assumption) | assumption)) (of_decide_eq_true (by first | (with_reducible assumption) | assumption)) HC1.out
                                                        have HR497 := Aside0.mk (Kd.C_of_reads (h1 := fun _ => rfl) (hA47 _ (Kd.reads_of_C HR1.out)))
                                                        have HC497 := Aside0.mk hC47
                                                        clear hA47 hC47 hi047 hsz47
                                                        refine start_ (n := 12) (S := fun w' => True) (ds := []) #[false, false, false, false, false, false, false, false, false, false, false, false] (by kernel_rfl) rfl rfl trivial (fun hHeld => ?_); refine with_tabW intervalmonref28_Hysteresis.tab30 intervalmonref28_Hysteresis.bits30 (fun HT_ HW_ => ?_)
                                                        generalize wr.drew = w45 at HO_8 HO_9 HB HR493 HR497 hHeld ⊢
                                                        refine pure_ (i := 0) (N := some 99) (v := ?_) (a' := ?_) #[true, false, false, false, false, false, false, false, false, false, false, false] rfl rfl (any_of HT_.out (by kernel_rfl)) (fun _ _ _ h => h) (Or.inl ⟨by rfl, ?_⟩) ?_ ?_
                                                        rotate_left
                                                        · intro w'
                                                          go_simp
                                                          with_reducible rfl
                                                        rotate_left
                                                        · simp only [Act.put, List.setIfInBounds_toArray, List.set_cons_zero, List.set_cons_succ, i64_w, i32_w]
                                                          rfl
                                                        refine pure_ (i := 1) (N := some 100) (v := ?_) (a' := ?_) #[true, true, false, false, false, false, false, false, false, false, false, false] rfl rfl (any_of HT_.out (by kernel_rfl)) (fun _ _ _ h => h) (Or.inl ⟨by rfl, ?_⟩) ?_ ?_
                                                        rotate_left
                                                        · intro w'
                                                          go_simp
                                                          with_reducible rfl
                                                        rotate_left
                                                        · simp only [Act.put, List.setIfInBounds_toArray, List.set_cons_zero, List.set_cons_succ, i64_w, i32_w]
                                                          rfl
                                                        refine pure_ (i := 2) (N := some 101) (v := ?_) (a' := ?_) #[true, true, true, false, false, false, false, false, false, false, false, false] rfl rfl (any_of HT_.out (by kernel_rfl)) (fun _ _ _ h => h) (Or.inl ⟨by rfl, ?_⟩) ?_ ?_
                                                        rotate_left
                                                        · intro w'
                                                          go_simp
                                                          with_reducible rfl
                                                        rotate_left
                                                        · simp only [Act.put, List.setIfInBounds_toArray, List.set_cons_zero, List.set_cons_succ, i64_w, i32_w]
                                                          rfl
                                                        refine pure_ (i := 3) (N := some 102) (v := ?_) (a' := ?_) #[true, true, true, true, false, false, false, false, false, false, false, false] rfl rfl (any_of HT_.out (by kernel_rfl)) (fun _ _ _ h => h) (Or.inl ⟨by rfl, ?_⟩) ?_ ?_
                                                        rotate_left
                                                        · intro w'
                                                          go_simp
                                                          with_reducible rfl
                                                        rotate_left
                                                        · simp only [Act.put, List.setIfInBounds_toArray, List.set_cons_zero, List.set_cons_succ, i64_w, i32_w]
                                                          rfl
                                                        refine pure_ (i := 5) (N := some 104) (v := ?_) (a' := ?_) #[true, true, true, true, false, true, false, false, false, false, false, false] rfl rfl (any_of HT_.out (by kernel_rfl)) (fun _ _ _ h => h) (Or.inl ⟨by rfl, ?_⟩) ?_ ?_
                                                        rotate_left
                                                        · intro w'
                                                          go_simp
                                                          with_reducible rfl
                                                        rotate_left
                                                        · simp only [Act.put, List.setIfInBounds_toArray, List.set_cons_zero, List.set_cons_succ, i64_w, i32_w]
                                                          rfl
                                                        refine pure_ (i := 6) (N := some 105) (v := ?_) (a' := ?_) #[true, true, true, true, false, true, true, false, false, false, false, false] rfl rfl (any_of HT_.out (by kernel_rfl)) (fun _ _ _ h => h) (Or.inl ⟨by rfl, ?_⟩) ?_ ?_
                                                        rotate_left
                                                        · intro w'
                                                          go_simp
                                                          with_reducible rfl
                                                        rotate_left
                                                        · simp only [Act.put, List.setIfInBounds_toArray, List.set_cons_zero, List.set_cons_succ, i64_w, i32_w]
                                                          rfl
                                                        refine pure_ (i := 7) (N := some 106) (v := ?_) (a' := ?_) #[true, true, true, true, false, true, true, true, false, false, false, false] rfl rfl (any_of HT_.out (by kernel_rfl)) (fun _ _ _ h => h) (Or.inl ⟨by rfl, ?_⟩) ?_ ?_
                                                        rotate_left
                                                        · intro w'
                                                          go_simp
                                                          with_reducible rfl
                                                        rotate_left
                                                        · simp only [Act.put, List.setIfInBounds_toArray, List.set_cons_zero, List.set_cons_succ, i64_w, i32_w]
                                                          rfl
                                                        refine pure_ (i := 8) (N := some 107) (v := ?_) (a' := ?_) #[true, true, true, true, false, true, true, true, true, false, false, false] rfl rfl (any_of HT_.out (by kernel_rfl)) (fun _ _ _ h => h) (Or.inl ⟨by rfl, ?_⟩) ?_ ?_
                                                        rotate_left
                                                        · intro w'
                                                          go_simp
                                                          with_reducible rfl
                                                        rotate_left
                                                        · simp only [Act.put, List.setIfInBounds_toArray, List.set_cons_zero, List.set_cons_succ, i64_w, i32_w]
                                                          rfl
                                                        refine one_ (i := 4) (N := some 103) #[true, true, true, true, true, true, true, true, true, false, false, false] rfl rfl (one_of HT_.out (by kernel_rfl)) (by decide) (fun K hK => ?_)
                                                        refine goes_ Tryd.func29 (by kernel_rfl) rfl #[.slice A0 (l0.take (ji3 : Int).toNat).length c0, .int .i64 x15_5] (by rfl) rfl rfl (by (try simp only [List.map_toArray, List.map_cons, List.map_nil]); first | done | (rw [show (l0.take (ji3 : Int).toNat).length = ji3.toNat from (by rw [List.length_take]; have h_ : (ji3 : Int) ≤ (l0.length : Int) := of_decide_eq_true (by first | (with_reducible assumption) | assumption); omega)] <;> rfl) | (simp only [hji3]; rfl) | rfl | (simp only [List.length_drop, List.length_take]; rfl)) ?_
                                                        with_reducible refine (intervalmonref28_Truths.calls k6 _ _ (l0.take (ji3 : Int).toNat) x15_5 t494 _ ?side1 ?side2 A40.out).mono ?_
                                                        (case side1 => repeat (first | exact (Kd.C_below HR493.out HB.out) | (with_reducible refine Kd.C_alloc ?_ _) | (with_reducible refine Kd.C_drewN ?_ _) | (with_reducible refine Kd.C_drew ?_)))
                                                        (case side2 => exact HC493.out)
                                                        rintro e w48 ⟨v495, rfl, ho0, hb⟩
                                                        refine ⟨_, rfl, ?_⟩
                                                        have n0_ := Aside0.mk (Kd.R_elder' (by (with_reducible repeat (first | apply Kd.R_alloc | apply Kd.R_drewN | apply Kd.R_drew)); exact HO_8.out) (Kd.R_base ho0) hb)
                                                        have n1_ := Aside0.mk (Kd.R_elder' (by (with_reducible repeat (first | apply Kd.R_alloc | apply Kd.R_drewN | apply Kd.R_drew)); exact HO_9.out) (Kd.R_base ho0) hb)
                                                        have n2_ := Aside0.mk (Kd.R_lower (Kd.R_new' (Kd.R_new' ho0 (Kd.R_lt (by (with_reducible repeat (first | apply Kd.R_alloc | apply Kd.R_drewN | apply Kd.R_drew)); exact HO_8.out))) (Kd.R_lt (by (with_reducible repeat (first | apply Kd.R_alloc | apply Kd.R_drewN | apply Kd.R_drew)); exact HO_9.out))) (below_size (by repeat (first | (with_reducible first | exact HB.out | apply below_alloc | apply pw_below_drewN | apply below_drew1) | exact HB.out))))
                                                        have n3_ := Aside0.mk (below_step (by repeat (first | (with_reducible first | exact HB.out | apply below_alloc | apply pw_below_drewN | apply below_drew1) | exact HB.out)) hb)
                                                        clear HO_8
                                                        clear HO_9
                                                        clear HB
                                                        have HO_8 := n0_
                                                        have HO_9 := n1_
                                                        have HO496 := n2_
                                                        have HB := n3_
                                                        clear n0_ n1_ n2_ n3_
                                                        (try clear hb)
                                                        (try clear hb2)
                                                        (try clear hk)
                                                        (try clear hi)
                                                        (try clear ho0)
                                                        refine hK.out _ _ trivial (fun hHeld => ?_)
                                                        clear hK K
                                                        refine norm_ (a' := ?_) ?_ ?_
                                                        rotate_left
                                                        · show Act.put _ (some 103) _ = _
                                                          simp only [Act.put, List.setIfInBounds_toArray, List.set_cons_zero, List.set_cons_succ, i64_w, i32_w]
                                                          rfl
                                                        refine one_ (i := 9) (N := some 108) #[true, true, true, true, true, true, true, true, true, true, false, false] rfl rfl (one_of HT_.out (by kernel_rfl)) (by decide) (fun K hK => ?_)
                                                        refine goes_ Tryd.func29 (by kernel_rfl) rfl #[.slice A1 (l1.take (ji3 : Int).toNat).length c1, .int .i64 x16_6] (by rfl) rfl rfl (by (try simp only [List.map_toArray, List.map_cons, List.map_nil]); first | done | (rw [show (l1.take (ji3 : Int).toNat).length = ji3.toNat from (by rw [List.length_take]; have h_ : (ji3 : Int) ≤ (l1.length : Int) := of_decide_eq_true (by first | (with_reducible assumption) | assumption); omega)] <;> rfl) | (simp only [hji3]; rfl) | rfl | (simp only [List.length_drop, List.length_take]; rfl)) ?_
                                                        with_reducible refine (intervalmonref28_Truths.calls k6 _ _ (l1.take (ji3 : Int).toNat) x16_6 t498 _ ?side1 ?side2 A43.out).mono ?_
                                                        (case side1 => repeat (first | exact (Kd.C_below HR497.out HB.out) | (with_reducible refine Kd.C_alloc ?_ _) | (with_reducible refine Kd.C_drewN ?_ _) | (with_reducible refine Kd.C_drew ?_)))
                                                        (case side2 => exact HC497.out)
                                                        rintro e w49 ⟨v499, rfl, ho0, hb⟩
                                                        refine ⟨_, rfl, ?_⟩
                                                        have n0_ := Aside0.mk (Kd.R_elder' (by (with_reducible repeat (first | apply Kd.R_alloc | apply Kd.R_drewN | apply Kd.R_drew)); exact HO_8.out) (Kd.R_base ho0) hb)
                                                        have n1_ := Aside0.mk (Kd.R_elder' (by (with_reducible repeat (first | apply Kd.R_alloc | apply Kd.R_drewN | apply Kd.R_drew)); exact HO_9.out) (Kd.R_base ho0) hb)
                                                        have n2_ := Aside0.mk (Kd.R_elder' (by (with_reducible repeat (first | apply Kd.R_alloc | apply Kd.R_drewN | apply Kd.R_drew)); exact HO496.out) (Kd.R_base ho0) hb)
                                                        have n3_ := Aside0.mk (Kd.R_lower (Kd.R_new' (Kd.R_new' (Kd.R_new' ho0 (Kd.R_lt (by (with_reducible repeat (first | apply Kd.R_alloc | apply Kd.R_drewN | apply Kd.R_drew)); exact HO_8.out))) (Kd.R_lt (by (with_reducible repeat (first | apply Kd.R_alloc | apply Kd.R_drewN | apply Kd.R_drew)); exact HO_9.out))) (Kd.R_lt (by (with_reducible repeat (first | apply Kd.R_alloc | apply Kd.R_drewN | apply Kd.R_drew)); exact HO496.out))) (below_size (by repeat (first | (with_reducible first | exact HB.out | apply below_alloc | apply pw_below_drewN | apply below_drew1) | exact HB.out))))
                                                        have n4_ := Aside0.mk (below_step (by repeat (first | (with_reducible first | exact HB.out | apply below_alloc | apply pw_below_drewN | apply below_drew1) | exact HB.out)) hb)
                                                        clear HO_8
                                                        clear HO_9
                                                        clear HO496
                                                        clear HB
                                                        have HO_8 := n0_
                                                        have HO_9 := n1_
                                                        have HO496 := n2_
                                                        have HO500 := n3_
                                                        have HB := n4_
                                                        clear n0_ n1_ n2_ n3_ n4_
                                                        (try clear hb)
                                                        (try clear hb2)
                                                        (try clear hk)
                                                        (try clear hi)
                                                        (try clear ho0)
                                                        obtain ⟨Ao50, co50, eo50⟩ := Kd.R_slice HO496.out
                                                        (first | subst eo50 | (injection eo50 with f1_ f2_ f3_; have f4_ := f1_.symm; have f5_ := f3_.symm; clear f1_ f2_ f3_; subst f4_; subst f5_))
                                                        obtain ⟨Ao51, co51, eo51⟩ := Kd.R_slice HO500.out
                                                        (first | subst eo51 | (injection eo51 with f1_ f2_ f3_; have f4_ := f1_.symm; have f5_ := f3_.symm; clear f1_ f2_ f3_; subst f4_; subst f5_))
                                                        refine hK.out _ _ trivial (fun hHeld => ?_)
                                                        clear hK K
                                                        refine norm_ (a' := ?_) ?_ ?_
                                                        rotate_left
                                                        · show Act.put _ (some 108) _ = _
                                                          simp only [Act.put, List.setIfInBounds_toArray, List.set_cons_zero, List.set_cons_succ, i64_w, i32_w]
                                                          rfl
                                                        refine one_ (i := 10) (N := some 109) #[true, true, true, true, true, true, true, true, true, true, true, false] rfl rfl (one_of HT_.out (by kernel_rfl)) (by decide) (fun K hK => ?_)
                                                        refine goes_ Tryd.func28 (by kernel_rfl) rfl #[.slice Ao50 t494.length co50, .slice Ao51 t498.length co51] (by rfl) rfl rfl (by (try simp only [List.map_toArray, List.map_cons, List.map_nil]); first | done | rfl | (simp only [List.length_drop, List.length_take]; rfl)) ?_
                                                        with_reducible refine (intervalmonref28_Latch.calls k6 _ _ t494 _ _ t498 t501 _ ?side1 ?side2 ?side3 ?side4 A44.out).mono ?_
                                                        (case side1 => repeat (first | exact (Kd.R_reads' HO496.out).2.2 | (with_reducible refine Kd.C_alloc ?_ _) | (with_reducible refine Kd.C_drewN ?_ _) | (with_reducible refine Kd.C_drew ?_)))
                                                        (case side2 => exact (Kd.R_reads' HO496.out).2.1)
                                                        (case side3 => repeat (first | exact (Kd.R_reads' HO500.out).2.2 | (with_reducible refine Kd.C_alloc ?_ _) | (with_reducible refine Kd.C_drewN ?_ _) | (with_reducible refine Kd.C_drew ?_)))
                                                        (case side4 => exact (Kd.R_reads' HO500.out).2.1)
                                                        rintro e w52 ⟨v502, rfl, ho0, hb⟩
                                                        refine ⟨_, rfl, ?_⟩
                                                        have n0_ := Aside0.mk (Kd.R_elder' (by (with_reducible repeat (first | apply Kd.R_alloc | apply Kd.R_drewN | apply Kd.R_drew)); exact HO_8.out) (Kd.R_base ho0) hb)
                                                        have n1_ := Aside0.mk (Kd.R_elder' (by (with_reducible repeat (first | apply Kd.R_alloc | apply Kd.R_drewN | apply Kd.R_drew)); exact HO_9.out) (Kd.R_base ho0) hb)
                                                        have n2_ := Aside0.mk (Kd.R_elder' (by (with_reducible repeat (first | apply Kd.R_alloc | apply Kd.R_drewN | apply Kd.R_drew)); exact HO496.out) (Kd.R_base ho0) hb)
                                                        have n3_ := Aside0.mk (Kd.R_elder' (by (with_reducible repeat (first | apply Kd.R_alloc | apply Kd.R_drewN | apply Kd.R_drew)); exact HO500.out) (Kd.R_base ho0) hb)
                                                        have n4_ := Aside0.mk (Kd.R_lower (Kd.R_new' (Kd.R_new' (Kd.R_new' (Kd.R_new' ho0 (Kd.R_lt (by (with_reducible repeat (first | apply Kd.R_alloc | apply Kd.R_drewN | apply Kd.R_drew)); exact HO_8.out))) (Kd.R_lt (by (with_reducible repeat (first | apply Kd.R_alloc | apply Kd.R_drewN | apply Kd.R_drew)); exact HO_9.out))) (Kd.R_lt (by (with_reducible repeat (first | apply Kd.R_alloc | apply Kd.R_drewN | apply Kd.R_drew)); exact HO496.out))) (Kd.R_lt (by (with_reducible repeat (first | apply Kd.R_alloc | apply Kd.R_drewN | apply Kd.R_drew)); exact HO500.out))) (below_size (by repeat (first | (with_reducible first | exact HB.out | apply below_alloc | apply pw_below_drewN | apply below_drew1) | exact HB.out))))
                                                        have n5_ := Aside0.mk (below_step (by repeat (first | (with_reducible first | exact HB.out | apply below_alloc | apply pw_below_drewN | apply below_drew1) | exact HB.out)) hb)
                                                        clear HO_8
                                                        clear HO_9
                                                        clear HO496
                                                        clear HO500
                                                        clear HB
                                                        have HO_8 := n0_
                                                        have HO_9 := n1_
                                                        have HO496 := n2_
                                                        have HO500 := n3_
                                                        have HO503 := n4_
                                                        have HB := n5_
                                                        clear n0_ n1_ n2_ n3_ n4_ n5_
                                                        (try clear hb)
                                                        (try clear hb2)
                                                        (try clear hk)
                                                        (try clear hi)
                                                        (try clear ho0)
                                                        refine hK.out _ _ trivial (fun hHeld => ?_)
                                                        clear hK K
                                                        refine norm_ (a' := ?_) ?_ ?_
                                                        rotate_left
                                                        · show Act.put _ (some 109) _ = _
                                                          simp only [Act.put, List.setIfInBounds_toArray, List.set_cons_zero, List.set_cons_succ, i64_w, i32_w]
                                                          rfl
                                                        refine pure_ (i := 11) (N := some 17) (v := ?_) (a' := ?_) #[true, true, true, true, true, true, true, true, true, true, true, true] rfl rfl (any_of HT_.out (by kernel_rfl)) (fun _ _ _ h => h) (Or.inl ⟨by rfl, ?_⟩) ?_ ?_
                                                        rotate_left
                                                        · intro w'
                                                          go_simp
                                                          with_reducible rfl
                                                        rotate_left
                                                        · simp only [Act.put, List.setIfInBounds_toArray, List.set_cons_zero, List.set_cons_succ, i64_w, i32_w]
                                                          rfl
                                                        refine done_ (done_of HT_.out (by kernel_rfl)) ?_
                                                        try go_wp2
                                                        go_loopg [18] k6 (fun kq v18 w' => ∃ (x8_7 : List Bool) (x9_7 : List Bool) (x18_7 : Int), v18 = .int .i64 x18_7 ∧ Aside0 (intervalmonref28_Hysteresis.l6 kq l0 l1 ji3 x8_7 x9_7 x11_3 x13_4 x15_5 x16_6 t501 x18_7 = some r) ∧ Aside0 (kq ≤ k6) ∧ Aside0 (Kd.R Kd.bool 4 w' w.heap.size (fun k_ => some k_ ≠ (v486 : Value).ownBlock ∧ some k_ ≠ (v502 : Value).ownBlock) v483 x8_7) ∧ Aside0 (Kd.R Kd.bool 4 w' w.heap.size (fun k_ => some k_ ≠ (v483 : Value).ownBlock ∧ some k_ ≠ (v502 : Value).ownBlock) v486 x9_7) ∧ Aside0 (Kd.R Kd.bool 4 w' w.heap.size (fun k_ => some k_ ≠ (v483 : Value).ownBlock ∧ some k_ ≠ (v486 : Value).ownBlock) v502 t501) ∧ Aside0 (Below w.heap.size w w'))
                                                        case atStart => exact ⟨(x8_6), (x9_6), (0), (by first | rfl | (simp; done) | (simp [*]; done)), H', ⟨Nat.le_refl _⟩, ⟨by (with_reducible repeat (first | apply Kd.R_alloc | apply Kd.R_drewN | apply Kd.R_drew)); exact Kd.R_mono HO_8.out (fun _ hk => ⟨hk.1.1.1, hk.2⟩)⟩, ⟨by (with_reducible repeat (first | apply Kd.R_alloc | apply Kd.R_drewN | apply Kd.R_drew)); exact Kd.R_mono HO_9.out (fun _ hk => ⟨hk.1.1.1, hk.2⟩)⟩, ⟨by (with_reducible repeat (first | apply Kd.R_alloc | apply Kd.R_drewN | apply Kd.R_drew)); exact Kd.R_mono HO503.out (fun _ hk => ⟨hk.1.1.1.2, hk.1.1.2⟩)⟩, ⟨by repeat (first | (with_reducible first | exact HB.out | apply below_alloc | apply pw_below_drewN | apply below_drew1) | exact HB.out)⟩⟩
                                                        case round =>
                                                          clear H'
                                                          try clear c1
                                                          try clear c2
                                                          try clear p2
                                                          try clear q2
                                                          try clear hx2
                                                          try clear hf2
                                                          try clear c3
                                                          try clear c4
                                                          try clear c4b0
                                                          try clear p4
                                                          try clear q4
                                                          try clear hx4
                                                          try clear c5
                                                          try clear c5b0
                                                          try clear c6
                                                          try clear c6b0
                                                          try clear p6
                                                          try clear c7
                                                          try clear c7b0
                                                          try clear c8
                                                          try clear c8b0
                                                          try clear c9
                                                          try clear c9b0
                                                          try clear c10
                                                          try clear c10b0
                                                          try clear c11
                                                          try clear c11b0
                                                          try clear c12
                                                          try clear c12b0
                                                          try clear c12b1
                                                          try clear c13
                                                          try clear c13b0
                                                          try clear c13b1
                                                          try clear c18
                                                          try clear c18b0
                                                          try clear c19
                                                          try clear c19b0
                                                          try clear c20
                                                          try clear c20b0
                                                          try clear p21
                                                          try clear q21
                                                          try clear hx21
                                                          try clear hf21
                                                          try clear c24
                                                          try clear c24b0
                                                          try clear c24b1
                                                          try clear c25
                                                          try clear c25b0
                                                          try clear c25b1
                                                          try clear c26
                                                          try clear c27
                                                          try clear c27b0
                                                          try clear c28
                                                          try clear c29
                                                          try clear c30
                                                          try clear c30b0
                                                          try clear c30b1
                                                          try clear c31
                                                          try clear c31b0
                                                          try clear c31b1
                                                          try clear c33
                                                          try clear c33b0
                                                          try clear c36
                                                          try clear c36b0
                                                          try clear c37
                                                          try clear c37b0
                                                          try clear c38
                                                          try clear c38b0
                                                          try clear c38b1
                                                          try clear c39
                                                          try clear c39b0
                                                          try clear c39b1
                                                          try clear c41
                                                          try clear c41b0
                                                          try clear c42
                                                          try clear c42b0
                                                          try clear c42b1
                                                          try clear p47
                                                          try clear q47
                                                          try clear hx47
                                                          try clear p48
                                                          try clear q48
                                                          try clear hx48
                                                          try clear hx21_0
                                                          try clear hx478_0
                                                          try clear hx479_0
                                                          try clear hx480_0
                                                          try clear hx481_0
                                                          try clear p2
                                                          try clear p21
                                                          try clear p4
                                                          try clear p478
                                                          try clear p479
                                                          try clear p480
                                                          try clear p481
                                                          try clear p6
                                                          try clear q2
                                                          try clear q21
                                                          try clear q4
                                                          try clear q478
                                                          try clear q479
                                                          try clear q480
                                                          try clear q481
                                                          obtain ⟨x8_7, x9_7, x18_7, rfl, HA, HK7, HO_8, HO_9, HO_17, HB⟩ := hrel
                                                          cases gk with
                                                          | zero => exact absurd HA.out (by simp [intervalmonref28_Hysteresis.l6])
                                                          | succ k7 =>
                                                            have H := HA.out
                                                            clear HA
                                                            simp only [intervalmonref28_Hysteresis.l6] at H
                                                            by_cases c53 : x18_7 < ji3
                                                            · rw [if_pos c53] at H
                                                              have c53b0 : decide (x18_7 < ji3) = true := decide_eq_true c53
                                                              clear c53
                                                              by_cases c54 : 0 ≤ x18_7
                                                              · rw [if_pos c54] at H
                                                                have c54b0 : decide (0 ≤ x18_7) = true := decide_eq_true c54
                                                                clear c54
                                                                by_cases c55 : x18_7 < (x8_7.length : Int)
                                                                · rw [if_pos c55] at H
                                                                  have c55b0 : decide (x18_7 < (x8_7.length : Int)) = true := decide_eq_true c55
                                                                  clear c55
                                                                  obtain ⟨bq56, hbq56⟩ : ∃ b_ : Bool, b_ = (rdOf false x8_7 x18_7) := ⟨_, rfl⟩
                                                                  replace H : (if bq56 = true then ((some (x8_7.set (x18_7 : Int).toNat true : List Bool)).bind fun y505 => (if x18_7 < (x9_7.length : Int) then (if rdOf false x9_7 x18_7 = true then (if x18_7 < (t501.length : Int) then (intervalmonref28_Hysteresis.l6 k7 l0 l1 ji3 y505 (x9_7.set (x18_7 : Int).toNat (rdOf false t501 x18_7)) x11_3 x13_4 x15_5 x16_6 t501 (wrap64 (x18_7 + 1))) else (none)) else (intervalmonref28_Hysteresis.l6 k7 l0 l1 ji3 y505 (x9_7.set (x18_7 : Int).toNat false) x11_3 x13_4 x15_5 x16_6 t501 (wrap64 (x18_7 + 1)))) else (none))) else (if x18_7 < (t501.length : Int) then ((some (x8_7.set (x18_7 : Int).toNat (rdOf false t501 x18_7) : List Bool)).bind fun y511 => (if x18_7 < (x9_7.length : Int) then (if rdOf false x9_7 x18_7 = true then (intervalmonref28_Hysteresis.l6 k7 l0 l1 ji3 y511 (x9_7.set (x18_7 : Int).toNat (rdOf false t501 x18_7)) x11_3 x13_4 x15_5 x16_6 t501 (wrap64 (x18_7 + 1))) else (intervalmonref28_Hysteresis.l6 k7 l0 l1 ji3 y511 (x9_7.set (x18_7 : Int).toNat false) x11_3 x13_4 x15_5 x16_6 t501 (wrap64 (x18_7 + 1)))) else (none))) else (none))) = some r := by rw [← hbq56] at H; exact H
                                                                  have Nbq56 := Aside0.mk hbq56
                                                                  clear hbq56
                                                                  by_cases c57 : bq56 = true
                                                                  · subst c57
                                                                    have H1 : ((some (x8_7.set (x18_7 : Int).toNat true : List Bool)).bind fun y505 => (if x18_7 < (x9_7.length : Int) then (if rdOf false x9_7 x18_7 = true then (if x18_7 < (t501.length : Int) then (intervalmonref28_Hysteresis.l6 k7 l0 l1 ji3 y505 (x9_7.set (x18_7 : Int).toNat (rdOf false t501 x18_7)) x11_3 x13_4 x15_5 x16_6 t501 (wrap64 (x18_7 + 1))) else (none)) else (intervalmonref28_Hysteresis.l6 k7 l0 l1 ji3 y505 (x9_7.set (x18_7 : Int).toNat false) x11_3 x13_4 x15_5 x16_6 t501 (wrap64 (x18_7 + 1)))) else (none))) = some r := by rw [if_pos rfl] at H; exact H
                                                                    clear H
                                                                    have H := H1
                                                                    clear H1
                                                                    obtain ⟨y505, hy505⟩ : ∃ y_ : List Bool, y_ = (x8_7.set (x18_7 : Int).toNat true) := ⟨_, rfl⟩
                                                                    replace H : (if x18_7 < (x9_7.length : Int) then (if rdOf false x9_7 x18_7 = true then (if x18_7 < (t501.length : Int) then (intervalmonref28_Hysteresis.l6 k7 l0 l1 ji3 y505 (x9_7.set (x18_7 : Int).toNat (rdOf false t501 x18_7)) x11_3 x13_4 x15_5 x16_6 t501 (wrap64 (x18_7 + 1))) else (none)) else (intervalmonref28_Hysteresis.l6 k7 l0 l1 ji3 y505 (x9_7.set (x18_7 : Int).toNat false) x11_3 x13_4 x15_5 x16_6 t501 (wrap64 (x18_7 + 1)))) else (none)) = some r := by first | (rw [hy505]; with_reducible exact H) | (have H2_ := (Option.bind_some _ _).symm.trans H; rw [hy505]; with_reducible exact H2_) | (have H2_ := (Option.bind_some _ _).symm.trans H; with_reducible exact H2_) | with_reducible exact H | (rw [hy505]; exact H) | exact H
                                                                    have Ny505 := Aside0.mk hy505
                                                                    clear hy505
                                                                    by_cases c59 : x18_7 < (x9_7.length : Int)
                                                                    · rw [if_pos c59] at H
                                                                      have c59b0 : decide (x18_7 < (x9_7.length : Int)) = true := decide_eq_true c59
                                                                      clear c59
                                                                      obtain ⟨bq60, hbq60⟩ : ∃ b_ : Bool, b_ = (rdOf false x9_7 x18_7) := ⟨_, rfl⟩
                                                                      replace H : (if bq60 = true then (if x18_7 < (t501.length : Int) then (intervalmonref28_Hysteresis.l6 k7 l0 l1 ji3 y505 (x9_7.set (x18_7 : Int).toNat (rdOf false t501 x18_7)) x11_3 x13_4 x15_5 x16_6 t501 (wrap64 (x18_7 + 1))) else (none)) else (intervalmonref28_Hysteresis.l6 k7 l0 l1 ji3 y505 (x9_7.set (x18_7 : Int).toNat false) x11_3 x13_4 x15_5 x16_6 t501 (wrap64 (x18_7 + 1)))) = some r := by rw [← hbq60] at H; exact H
                                                                      have Nbq60 := Aside0.mk hbq60
                                                                      clear hbq60
                                                                      by_cases c61 : bq60 = true
                                                                      · subst c61
                                                                        have H1 : (if x18_7 < (t501.length : Int) then (intervalmonref28_Hysteresis.l6 k7 l0 l1 ji3 y505 (x9_7.set (x18_7 : Int).toNat (rdOf false t501 x18_7)) x11_3 x13_4 x15_5 x16_6 t501 (wrap64 (x18_7 + 1))) else (none)) = some r := by rw [if_pos rfl] at H; exact H
                                                                        clear H
                                                                        have H := H1
                                                                        clear H1
                                                                        by_cases c62 : x18_7 < (t501.length : Int)
                                                                        · rw [if_pos c62] at H
                                                                          have c62b0 : decide (x18_7 < (t501.length : Int)) = true := decide_eq_true c62
                                                                          clear c62
                                                                          obtain ⟨y508, hy508⟩ : ∃ y_ : List Bool, y_ = (x9_7.set (x18_7 : Int).toNat (rdOf false t501 x18_7)) := ⟨_, rfl⟩
                                                                          replace H : (intervalmonref28_Hysteresis.l6 k7 l0 l1 ji3 y505 y508 x11_3 x13_4 x15_5 x16_6 t501 (wrap64 (x18_7 + 1))) = some r := by first | (rw [hy508]; with_reducible exact H) | (have H2_ := (Option.bind_some _ _).symm.trans H; rw [hy508]; with_reducible exact H2_) | (have H2_ := (Option.bind_some _ _).symm.trans H; with_reducible exact H2_) | with_reducible exact H | (rw [hy508]; exact H) | exact H
                                                                          have Ny508 := Aside0.mk hy508
                                                                          clear hy508
                                                                          have H' := Aside0.mk H
                                                                          clear H
                                                                          obtain ⟨Ao64, co64, eo64⟩ := Kd.R_slice HO_8.out
                                                                          subst eo64
                                                                          have p504 : 0 ≤ (x18_7 : Int) := of_decide_eq_true (by first | (with_reducible assumption) | assumption)
                                                                          have q504 : x18_7 < (x8_7.length : Int) := of_decide_eq_true (by first | (with_reducible assumption) | assumption)
                                                                          obtain ⟨Az504, cz504, ez504⟩ := Kd.R_slice HO_8.out
                                                                          (first | subst ez504 | (injection ez504 with f1_ f2_ f3_; subst f1_; subst f3_) | skip)
                                                                          obtain ⟨ad504, e504, hx504_0⟩ := Kd.at_bool (Kd.R_reads' HO_8.out).2.2 x18_7 p504 q504
                                                                          (try rw [← Nbq56.out] at hx504_0)
                                                                          (try rw [← Nbq60.out] at hx504_0)
                                                                          cases e504
                                                                          replace p504 := eq_true p504
                                                                          replace q504 := eq_true q504
                                                                          have p58 : 0 ≤ (x18_7 : Int) := of_decide_eq_true (by first | (with_reducible assumption) | assumption)
                                                                          have q58 : (x18_7 : Int) < ((x8_7.length : Int) : Int) := of_decide_eq_true (by first | (with_reducible assumption) | assumption)
                                                                          obtain ⟨go58, co58, eo58, gb58, gl58, cl58, HG58⟩ := Kd.R_form HO_8.out (by omega)
                                                                          (first | cases eo58 | (injection eo58 with ea_ en_ ec_; (first | subst ea_ | (injection ea_ with ea_; subst ea_)); subst ec_; clear en_))
                                                                          have GB58 := Aside0.mk gb58
                                                                          have GG58 := Aside0.mk HG58
                                                                          clear gb58 gl58 HG58
                                                                          (first | simp only [add_plain] at hx504_0 | skip)
                                                                          obtain ⟨hx58_0, hf58_0⟩ := Kd.R_celln false HO_8.out (x18_7 : Int) p58 q58
                                                                          replace p58 := eq_true p58
                                                                          replace q58 := eq_true q58
                                                                          have HP65 := Kd.R_putg HO_8.out (x18_7 : Int) true
                                                                          go_wp2_with (first | ((with_reducible refine gate_store (t := 4) (p := 127) rfl ?_); refine store_event (t := 4) (p := 127) (v := ?vo_w66) (w1 := (wr.setCell ⟨go58, (x18_7 : Int).toNat, none⟩ (.bool true))) ?hg ?ho ?hn ?hr ?_; (case ho => rfl); (case hg => rfl); (case hn => rfl); (case hr => first | (go_simp; done) | (go_simp; rfl)); intro w66 hw; have hg : wr.grownBy w66 (some go58) := (by rw [hw]; exact HP65.2); have hp_ : Kd.R Kd.bool 4 w66 w.heap.size (fun k_ => some k_ ≠ (v486 : Value).ownBlock ∧ some k_ ≠ (v502 : Value).ownBlock) (.slice (some ⟨go58, 0, none⟩) x8_7.length co64) y505 := (by rw [hw, Ny505.out]; exact HP65.1); clear HP65; have n0_ := Aside0.mk (hp_); have n1_ := Aside0.mk (Kd.R_after (v := (.slice (some ⟨go58, 0, none⟩) x8_7.length co64)) (v1 := (.slice (some ⟨go58, 0, none⟩) x8_7.length co64)) (ok := (fun k_ => some k_ ≠ (v502 : Value).ownBlock)) (by (with_reducible repeat (first | apply Kd.R_alloc | apply Kd.R_drewN | apply Kd.R_drew)); exact Kd.R_mono HO_9.out (fun _ hk => ⟨hk.2, hk.1⟩)) hg (.inl rfl)); have n2_ := Aside0.mk (Kd.R_after (v := (.slice (some ⟨go58, 0, none⟩) x8_7.length co64)) (v1 := (.slice (some ⟨go58, 0, none⟩) x8_7.length co64)) (ok := (fun k_ => some k_ ≠ (v486 : Value).ownBlock)) (by (with_reducible repeat (first | apply Kd.R_alloc | apply Kd.R_drewN | apply Kd.R_drew)); exact Kd.R_mono HO_17.out (fun _ hk => ⟨hk.2, hk.1⟩)) hg (.inl rfl)); have n3_ := Aside0.mk ((by rw [hw]; exact below_set (HB.out) GB58.out : Below w.heap.size w w66)); clear HO_8; clear HO_9; clear HO_17; clear HB; have HO_8 := n0_; have HO_9 := n1_; have HO_17 := n2_; have HB := n3_; clear n0_ n1_ n2_ n3_; clear hg hw hp_; obtain ⟨Ao67, co67, eo67⟩ := Kd.R_slice HO_9.out; subst eo67; have p506 : 0 ≤ (x18_7 : Int) := of_decide_eq_true (by first | (with_reducible assumption) | assumption); have q506 : x18_7 < (x9_7.length : Int) := of_decide_eq_true (by first | (with_reducible assumption) | assumption); obtain ⟨Az506, cz506, ez506⟩ := Kd.R_slice HO_9.out; (first | subst ez506 | (injection ez506 with f1_ f2_ f3_; subst f1_; subst f3_) | skip); obtain ⟨ad506, e506, hx506_0⟩ := Kd.at_bool (Kd.R_reads' HO_9.out).2.2 x18_7 p506 q506; (try rw [← Nbq56.out] at hx506_0); (try rw [← Nbq60.out] at hx506_0); cases e506; replace p506 := eq_true p506; replace q506 := eq_true q506; obtain ⟨Ao68, co68, eo68⟩ := Kd.R_slice HO_17.out; subst eo68; have p507 : 0 ≤ (x18_7 : Int) := of_decide_eq_true (by first | (with_reducible assumption) | assumption); have q507 : x18_7 < (t501.length : Int) := of_decide_eq_true (by first | (with_reducible assumption) | assumption); obtain ⟨Az507, cz507, ez507⟩ := Kd.R_slice HO_17.out; (first | subst ez507 | (injection ez507 with f1_ f2_ f3_; subst f1_; subst f3_) | skip); obtain ⟨ad507, e507, hx507_0⟩ := Kd.at_bool (Kd.R_reads' HO_17.out).2.2 x18_7 p507 q507; (try rw [← Nbq56.out] at hx507_0); (try rw [← Nbq60.out] at hx507_0); cases e507; replace p507 := eq_true p507; replace q507 := eq_true q507; have p63 : 0 ≤ (x18_7 : Int) := of_decide_eq_true (by first | (with_reducible assumption) | assumption); have q63 : (x18_7 : Int) < ((x9_7.length : Int) : Int) := of_decide_eq_true (by first | (with_reducible assumption) | assumption); obtain ⟨go63, co63, eo63, gb63, gl63, cl63, HG63⟩ := Kd.R_form HO_9.out (by omega); (first | cases eo63 | (injection eo63 with ea_ en_ ec_; (first | subst ea_ | (injection ea_ with ea_; subst ea_)); subst ec_; clear en_)); have GB63 := Aside0.mk gb63; have GG63 := Aside0.mk HG63; clear gb63 gl63 HG63; (first | simp only [add_plain] at hx506_0 | skip); obtain ⟨hx63_0, hf63_0⟩ := Kd.R_celln false HO_9.out (x18_7 : Int) p63 q63; replace p63 := eq_true p63; replace q63 := eq_true q63; obtain ⟨hy69_, hz69_⟩ := Kd.R_celln false HO_9.out (x18_7 : Int) (of_decide_eq_true (by first | (with_reducible assumption) | assumption)) (of_decide_eq_true (by first | (with_reducible assumption) | assumption)); have HP69 := Kd.R_putg HO_9.out (x18_7 : Int) (rdOf false t501 x18_7)) | ((with_reducible refine gate_store (t := 4) (p := 140) rfl ?_); refine store_event (t := 4) (p := 140) (v := ?vo_w70) (w1 := (w66.setCell ⟨go63, (x18_7 : Int).toNat, none⟩ (.bool (rdOf false t501 x18_7)))) ?hg ?ho ?hn ?hr ?_; (case ho => rfl); (case hg => rfl); (case hn => rfl); (case hr => first | (go_simp; done) | (go_simp; rfl)); intro w70 hw; have hg : w66.grownBy w70 (some go63) := (by rw [hw]; exact HP69.2); have hp_ : Kd.R Kd.bool 4 w70 w.heap.size (fun k_ => some k_ ≠ (.slice (some ad507) t501.length co68 : Value).ownBlock ∧ some k_ ≠ (.slice (some ⟨go58, 0, none⟩) x8_7.length co64 : Value).ownBlock) (.slice (some ⟨go63, 0, none⟩) x9_7.length co67) y508 := (by rw [hw, Ny508.out]; exact HP69.1); clear HP69; have n0_ := Aside0.mk (Kd.R_after (v := (.slice (some ⟨go63, 0, none⟩) x9_7.length co67)) (v1 := (.slice (some ⟨go63, 0, none⟩) x9_7.length co67)) (ok := (fun k_ => some k_ ≠ (.slice (some ad507) t501.length co68 : Value).ownBlock)) (by (with_reducible repeat (first | apply Kd.R_alloc | apply Kd.R_drewN | apply Kd.R_drew)); exact Kd.R_mono HO_8.out (fun _ hk => ⟨hk.2, hk.1⟩)) hg (.inl rfl)); have n1_ := Aside0.mk (hp_); have n2_ := Aside0.mk (Kd.R_after (v := (.slice (some ⟨go63, 0, none⟩) x9_7.length co67)) (v1 := (.slice (some ⟨go63, 0, none⟩) x9_7.length co67)) (ok := (fun k_ => some k_ ≠ (.slice (some ⟨go58, 0, none⟩) x8_7.length co64 : Value).ownBlock)) (by (with_reducible repeat (first | apply Kd.R_alloc | apply Kd.R_drewN | apply Kd.R_drew)); exact Kd.R_mono HO_17.out (fun _ hk => ⟨hk.2, hk.1⟩)) hg (.inl rfl)); have n3_ := Aside0.mk ((by rw [hw]; exact below_set (HB.out) GB63.out : Below w.heap.size w w70)); clear HO_8; clear HO_9; clear HO_17; clear HB; have HO_8 := n0_; have HO_9 := n1_; have HO_17 := n2_; have HB := n3_; clear n0_ n1_ n2_ n3_; clear hg hw hp_))
                                                                          go_roundg k7
                                                                          case measure => have := HK1.out; have := HK2.out; have := HK3.out; have := HK4.out; have := HK5.out; have := HK6.out; have := HK7.out; omega
                                                                          case rel => exact ⟨(y505), (y508), (wrap64 (x18_7 + 1)), (by first | rfl | (simp; done) | (simp [*]; done)), H', ⟨by have := HK1.out; have := HK2.out; have := HK3.out; have := HK4.out; have := HK5.out; have := HK6.out; have := HK7.out; omega⟩, ⟨by (with_reducible repeat (first | apply Kd.R_alloc | apply Kd.R_drewN | apply Kd.R_drew)); exact Kd.R_mono HO_8.out (fun _ hk => ⟨hk.2, hk.1⟩)⟩, ⟨by (with_reducible repeat (first | apply Kd.R_alloc | apply Kd.R_drewN | apply Kd.R_drew)); exact Kd.R_mono HO_9.out (fun _ hk => ⟨hk.2, hk.1⟩)⟩, ⟨by (with_reducible repeat (first | apply Kd.R_alloc | apply Kd.R_drewN | apply Kd.R_drew)); exact HO_17.out⟩, ⟨by repeat (first | (with_reducible first | exact HB.out | apply below_alloc | apply pw_below_drewN | apply below_drew1) | exact HB.out)⟩⟩
                                                                        · rw [if_neg c62] at H
                                                                          exact absurd H (by simp)
                                                                      · replace c61 := Bool.eq_false_iff.mpr c61
                                                                        subst c61
                                                                        have H1 : (intervalmonref28_Hysteresis.l6 k7 l0 l1 ji3 y505 (x9_7.set (x18_7 : Int).toNat false) x11_3 x13_4 x15_5 x16_6 t501 (wrap64 (x18_7 + 1))) = some r := by rw [if_neg (show ¬ (false = true) by decide)] at H; exact H
                                                                        clear H
                                                                        have H := H1
                                                                        clear H1
                                                                        obtain ⟨y509, hy509⟩ : ∃ y_ : List Bool, y_ = (x9_7.set (x18_7 : Int).toNat false) := ⟨_, rfl⟩
                                                                        replace H : (intervalmonref28_Hysteresis.l6 k7 l0 l1 ji3 y505 y509 x11_3 x13_4 x15_5 x16_6 t501 (wrap64 (x18_7 + 1))) = some r := by first | (rw [hy509]; with_reducible exact H) | (have H2_ := (Option.bind_some _ _).symm.trans H; rw [hy509]; with_reducible exact H2_) | (have H2_ := (Option.bind_some _ _).symm.trans H; with_reducible exact H2_) | with_reducible exact H | (rw [hy509]; exact H) | exact H
                                                                        have Ny509 := Aside0.mk hy509
                                                                        clear hy509
                                                                        have H' := Aside0.mk H
                                                                        clear H
                                                                        obtain ⟨Ao72, co72, eo72⟩ := Kd.R_slice HO_8.out
                                                                        subst eo72
                                                                        have p504 : 0 ≤ (x18_7 : Int) := of_decide_eq_true (by first | (with_reducible assumption) | assumption)
                                                                        have q504 : x18_7 < (x8_7.length : Int) := of_decide_eq_true (by first | (with_reducible assumption) | assumption)
                                                                        obtain ⟨Az504, cz504, ez504⟩ := Kd.R_slice HO_8.out
                                                                        (first | subst ez504 | (injection ez504 with f1_ f2_ f3_; subst f1_; subst f3_) | skip)
                                                                        obtain ⟨ad504, e504, hx504_0⟩ := Kd.at_bool (Kd.R_reads' HO_8.out).2.2 x18_7 p504 q504
                                                                        (try rw [← Nbq56.out] at hx504_0)
                                                                        (try rw [← Nbq60.out] at hx504_0)
                                                                        cases e504
                                                                        replace p504 := eq_true p504
                                                                        replace q504 := eq_true q504
                                                                        have p58 : 0 ≤ (x18_7 : Int) := of_decide_eq_true (by first | (with_reducible assumption) | assumption)
                                                                        have q58 : (x18_7 : Int) < ((x8_7.length : Int) : Int) := of_decide_eq_true (by first | (with_reducible assumption) | assumption)
                                                                        obtain ⟨go58, co58, eo58, gb58, gl58, cl58, HG58⟩ := Kd.R_form HO_8.out (by omega)
                                                                        (first | cases eo58 | (injection eo58 with ea_ en_ ec_; (first | subst ea_ | (injection ea_ with ea_; subst ea_)); subst ec_; clear en_))
                                                                        have GB58 := Aside0.mk gb58
                                                                        have GG58 := Aside0.mk HG58
                                                                        clear gb58 gl58 HG58
                                                                        (first | simp only [add_plain] at hx504_0 | skip)
                                                                        obtain ⟨hx58_0, hf58_0⟩ := Kd.R_celln false HO_8.out (x18_7 : Int) p58 q58
                                                                        replace p58 := eq_true p58
                                                                        replace q58 := eq_true q58
                                                                        have HP73 := Kd.R_putg HO_8.out (x18_7 : Int) true
                                                                        go_wp2_with (first | ((with_reducible refine gate_store (t := 4) (p := 127) rfl ?_); refine store_event (t := 4) (p := 127) (v := ?vo_w74) (w1 := (wr.setCell ⟨go58, (x18_7 : Int).toNat, none⟩ (.bool true))) ?hg ?ho ?hn ?hr ?_; (case ho => rfl); (case hg => rfl); (case hn => rfl); (case hr => first | (go_simp; done) | (go_simp; rfl)); intro w74 hw; have hg : wr.grownBy w74 (some go58) := (by rw [hw]; exact HP73.2); have hp_ : Kd.R Kd.bool 4 w74 w.heap.size (fun k_ => some k_ ≠ (v486 : Value).ownBlock ∧ some k_ ≠ (v502 : Value).ownBlock) (.slice (some ⟨go58, 0, none⟩) x8_7.length co72) y505 := (by rw [hw, Ny505.out]; exact HP73.1); clear HP73; have n0_ := Aside0.mk (hp_); have n1_ := Aside0.mk (Kd.R_after (v := (.slice (some ⟨go58, 0, none⟩) x8_7.length co72)) (v1 := (.slice (some ⟨go58, 0, none⟩) x8_7.length co72)) (ok := (fun k_ => some k_ ≠ (v502 : Value).ownBlock)) (by (with_reducible repeat (first | apply Kd.R_alloc | apply Kd.R_drewN | apply Kd.R_drew)); exact Kd.R_mono HO_9.out (fun _ hk => ⟨hk.2, hk.1⟩)) hg (.inl rfl)); have n2_ := Aside0.mk (Kd.R_after (v := (.slice (some ⟨go58, 0, none⟩) x8_7.length co72)) (v1 := (.slice (some ⟨go58, 0, none⟩) x8_7.length co72)) (ok := (fun k_ => some k_ ≠ (v486 : Value).ownBlock)) (by (with_reducible repeat (first | apply Kd.R_alloc | apply Kd.R_drewN | apply Kd.R_drew)); exact Kd.R_mono HO_17.out (fun _ hk => ⟨hk.2, hk.1⟩)) hg (.inl rfl)); have n3_ := Aside0.mk ((by rw [hw]; exact below_set (HB.out) GB58.out : Below w.heap.size w w74)); clear HO_8; clear HO_9; clear HO_17; clear HB; have HO_8 := n0_; have HO_9 := n1_; have HO_17 := n2_; have HB := n3_; clear n0_ n1_ n2_ n3_; clear hg hw hp_; obtain ⟨Ao75, co75, eo75⟩ := Kd.R_slice HO_9.out; subst eo75; have p506 : 0 ≤ (x18_7 : Int) := of_decide_eq_true (by first | (with_reducible assumption) | assumption); have q506 : x18_7 < (x9_7.length : Int) := of_decide_eq_true (by first | (with_reducible assumption) | assumption); obtain ⟨Az506, cz506, ez506⟩ := Kd.R_slice HO_9.out; (first | subst ez506 | (injection ez506 with f1_ f2_ f3_; subst f1_; subst f3_) | skip); obtain ⟨ad506, e506, hx506_0⟩ := Kd.at_bool (Kd.R_reads' HO_9.out).2.2 x18_7 p506 q506; (try rw [← Nbq56.out] at hx506_0); (try rw [← Nbq60.out] at hx506_0); cases e506; replace p506 := eq_true p506; replace q506 := eq_true q506; have p71 : 0 ≤ (x18_7 : Int) := of_decide_eq_true (by first | (with_reducible assumption) | assumption); have q71 : (x18_7 : Int) < ((x9_7.length : Int) : Int) := of_decide_eq_true (by first | (with_reducible assumption) | assumption); obtain ⟨go71, co71, eo71, gb71, gl71, cl71, HG71⟩ := Kd.R_form HO_9.out (by omega); (first | cases eo71 | (injection eo71 with ea_ en_ ec_; (first | subst ea_ | (injection ea_ with ea_; subst ea_)); subst ec_; clear en_)); have GB71 := Aside0.mk gb71; have GG71 := Aside0.mk HG71; clear gb71 gl71 HG71; (first | simp only [add_plain] at hx506_0 | skip); obtain ⟨hx71_0, hf71_0⟩ := Kd.R_celln false HO_9.out (x18_7 : Int) p71 q71; replace p71 := eq_true p71; replace q71 := eq_true q71; obtain ⟨hy76_, hz76_⟩ := Kd.R_celln false HO_9.out (x18_7 : Int) (of_decide_eq_true (by first | (with_reducible assumption) | assumption)) (of_decide_eq_true (by first | (with_reducible assumption) | assumption)); have HP76 := Kd.R_putg HO_9.out (x18_7 : Int) false) | ((with_reducible refine gate_store (t := 4) (p := 140) rfl ?_); refine store_event (t := 4) (p := 140) (v := ?vo_w77) (w1 := (w74.setCell ⟨go71, (x18_7 : Int).toNat, none⟩ (.bool false))) ?hg ?ho ?hn ?hr ?_; (case ho => rfl); (case hg => rfl); (case hn => rfl); (case hr => first | (go_simp; done) | (go_simp; rfl)); intro w77 hw; have hg : w74.grownBy w77 (some go71) := (by rw [hw]; exact HP76.2); have hp_ : Kd.R Kd.bool 4 w77 w.heap.size (fun k_ => some k_ ≠ (v502 : Value).ownBlock ∧ some k_ ≠ (.slice (some ⟨go58, 0, none⟩) x8_7.length co72 : Value).ownBlock) (.slice (some ⟨go71, 0, none⟩) x9_7.length co75) y509 := (by rw [hw, Ny509.out]; exact HP76.1); clear HP76; have n0_ := Aside0.mk (Kd.R_after (v := (.slice (some ⟨go71, 0, none⟩) x9_7.length co75)) (v1 := (.slice (some ⟨go71, 0, none⟩) x9_7.length co75)) (ok := (fun k_ => some k_ ≠ (v502 : Value).ownBlock)) (by (with_reducible repeat (first | apply Kd.R_alloc | apply Kd.R_drewN | apply Kd.R_drew)); exact Kd.R_mono HO_8.out (fun _ hk => ⟨hk.2, hk.1⟩)) hg (.inl rfl)); have n1_ := Aside0.mk (hp_); have n2_ := Aside0.mk (Kd.R_after (v := (.slice (some ⟨go71, 0, none⟩) x9_7.length co75)) (v1 := (.slice (some ⟨go71, 0, none⟩) x9_7.length co75)) (ok := (fun k_ => some k_ ≠ (.slice (some ⟨go58, 0, none⟩) x8_7.length co72 : Value).ownBlock)) (by (with_reducible repeat (first | apply Kd.R_alloc | apply Kd.R_drewN | apply Kd.R_drew)); exact Kd.R_mono HO_17.out (fun _ hk => ⟨hk.2, hk.1⟩)) hg (.inl rfl)); have n3_ := Aside0.mk ((by rw [hw]; exact below_set (HB.out) GB71.out : Below w.heap.size w w77)); clear HO_8; clear HO_9; clear HO_17; clear HB; have HO_8 := n0_; have HO_9 := n1_; have HO_17 := n2_; have HB := n3_; clear n0_ n1_ n2_ n3_; clear hg hw hp_))
                                                                        go_roundg k7
                                                                        case measure => have := HK1.out; have := HK2.out; have := HK3.out; have := HK4.out; have := HK5.out; have := HK6.out; have := HK7.out; omega
                                                                        case rel => exact ⟨(y505), (y509), (wrap64 (x18_7 + 1)), (by first | rfl | (simp; done) | (simp [*]; done)), H', ⟨by have := HK1.out; have := HK2.out; have := HK3.out; have := HK4.out; have := HK5.out; have := HK6.out; have := HK7.out; omega⟩, ⟨by (with_reducible repeat (first | apply Kd.R_alloc | apply Kd.R_drewN | apply Kd.R_drew)); exact Kd.R_mono HO_8.out (fun _ hk => ⟨hk.2, hk.1⟩)⟩, ⟨by (with_reducible repeat (first | apply Kd.R_alloc | apply Kd.R_drewN | apply Kd.R_drew)); exact Kd.R_mono HO_9.out (fun _ hk => ⟨hk.2, hk.1⟩)⟩, ⟨by (with_reducible repeat (first | apply Kd.R_alloc | apply Kd.R_drewN | apply Kd.R_drew)); exact HO_17.out⟩, ⟨by repeat (first | (with_reducible first | exact HB.out | apply below_alloc | apply pw_below_drewN | apply below_drew1) | exact HB.out)⟩⟩
                                                                    · rw [if_neg c59] at H
                                                                      exact absurd H (by simp)
                                                                  · replace c57 := Bool.eq_false_iff.mpr c57
                                                                    subst c57
                                                                    have H1 : (if x18_7 < (t501.length : Int) then ((some (x8_7.set (x18_7 : Int).toNat (rdOf false t501 x18_7) : List Bool)).bind fun y511 => (if x18_7 < (x9_7.length : Int) then (if rdOf false x9_7 x18_7 = true then (intervalmonref28_Hysteresis.l6 k7 l0 l1 ji3 y511 (x9_7.set (x18_7 : Int).toNat (rdOf false t501 x18_7)) x11_3 x13_4 x15_5 x16_6 t501 (wrap64 (x18_7 + 1))) else (intervalmonref28_Hysteresis.l6 k7 l0 l1 ji3 y511 (x9_7.set (x18_7 : Int).toNat false) x11_3 x13_4 x15_5 x16_6 t501 (wrap64 (x18_7 + 1)))) else (none))) else (none)) = some r := by rw [if_neg (show ¬ (false = true) by decide)] at H; exact H
                                                                    clear H
                                                                    have H := H1
                                                                    clear H1
                                                                    by_cases c78 : x18_7 < (t501.length : Int)
                                                                    · rw [if_pos c78] at H
                                                                      have c78b0 : decide (x18_7 < (t501.length : Int)) = true := decide_eq_true c78
                                                                      clear c78
                                                                      obtain ⟨y511, hy511⟩ : ∃ y_ : List Bool, y_ = (x8_7.set (x18_7 : Int).toNat (rdOf false t501 x18_7)) := ⟨_, rfl⟩
                                                                      replace H : (if x18_7 < (x9_7.length : Int) then (if rdOf false x9_7 x18_7 = true then (intervalmonref28_Hysteresis.l6 k7 l0 l1 ji3 y511 (x9_7.set (x18_7 : Int).toNat (rdOf false t501 x18_7)) x11_3 x13_4 x15_5 x16_6 t501 (wrap64 (x18_7 + 1))) else (intervalmonref28_Hysteresis.l6 k7 l0 l1 ji3 y511 (x9_7.set (x18_7 : Int).toNat false) x11_3 x13_4 x15_5 x16_6 t501 (wrap64 (x18_7 + 1)))) else (none)) = some r := by first | (rw [hy511]; with_reducible exact H) | (have H2_ := (Option.bind_some _ _).symm.trans H; rw [hy511]; with_reducible exact H2_) | (have H2_ := (Option.bind_some _ _).symm.trans H; with_reducible exact H2_) | with_reducible exact H | (rw [hy511]; exact H) | exact H
                                                                      have Ny511 := Aside0.mk hy511
                                                                      clear hy511
                                                                      by_cases c80 : x18_7 < (x9_7.length : Int)
                                                                      · rw [if_pos c80] at H
                                                                        have c80b0 : decide (x18_7 < (x9_7.length : Int)) = true := decide_eq_true c80
                                                                        clear c80
                                                                        obtain ⟨bq81, hbq81⟩ : ∃ b_ : Bool, b_ = (rdOf false x9_7 x18_7) := ⟨_, rfl⟩
                                                                        replace H : (if bq81 = true then (intervalmonref28_Hysteresis.l6 k7 l0 l1 ji3 y511 (x9_7.set (x18_7 : Int).toNat (rdOf false t501 x18_7)) x11_3 x13_4 x15_5 x16_6 t501 (wrap64 (x18_7 + 1))) else (intervalmonref28_Hysteresis.l6 k7 l0 l1 ji3 y511 (x9_7.set (x18_7 : Int).toNat false) x11_3 x13_4 x15_5 x16_6 t501 (wrap64 (x18_7 + 1)))) = some r := by rw [← hbq81] at H; exact H
                                                                        have Nbq81 := Aside0.mk hbq81
                                                                        clear hbq81
                                                                        by_cases c82 : bq81 = true
                                                                        · subst c82
                                                                          have H1 : (intervalmonref28_Hysteresis.l6 k7 l0 l1 ji3 y511 (x9_7.set (x18_7 : Int).toNat (rdOf false t501 x18_7)) x11_3 x13_4 x15_5 x16_6 t501 (wrap64 (x18_7 + 1))) = some r := by rw [if_pos rfl] at H; exact H
                                                                          clear H
                                                                          have H := H1
                                                                          clear H1
                                                                          obtain ⟨y514, hy514⟩ : ∃ y_ : List Bool, y_ = (x9_7.set (x18_7 : Int).toNat (rdOf false t501 x18_7)) := ⟨_, rfl⟩
                                                                          replace H : (intervalmonref28_Hysteresis.l6 k7 l0 l1 ji3 y511 y514 x11_3 x13_4 x15_5 x16_6 t501 (wrap64 (x18_7 + 1))) = some r := by first | (rw [hy514]; with_reducible exact H) | (have H2_ := (Option.bind_some _ _).symm.trans H; rw [hy514]; with_reducible exact H2_) | (have H2_ := (Option.bind_some _ _).symm.trans H; with_reducible exact H2_) | with_reducible exact H | (rw [hy514]; exact H) | exact H
                                                                          have Ny514 := Aside0.mk hy514
                                                                          clear hy514
                                                                          have H' := Aside0.mk H
                                                                          clear H
                                                                          obtain ⟨Ao84, co84, eo84⟩ := Kd.R_slice HO_8.out
                                                                          subst eo84
                                                                          have p504 : 0 ≤ (x18_7 : Int) := of_decide_eq_true (by first | (with_reducible assumption) | assumption)
                                                                          have q504 : x18_7 < (x8_7.length : Int) := of_decide_eq_true (by first | (with_reducible assumption) | assumption)
                                                                          obtain ⟨Az504, cz504, ez504⟩ := Kd.R_slice HO_8.out
                                                                          (first | subst ez504 | (injection ez504 with f1_ f2_ f3_; subst f1_; subst f3_) | skip)
                                                                          obtain ⟨ad504, e504, hx504_0⟩ := Kd.at_bool (Kd.R_reads' HO_8.out).2.2 x18_7 p504 q504
                                                                          (try rw [← Nbq56.out] at hx504_0)
                                                                          (try rw [← Nbq81.out] at hx504_0)
                                                                          cases e504
                                                                          replace p504 := eq_true p504
                                                                          replace q504 := eq_true q504
                                                                          obtain ⟨Ao85, co85, eo85⟩ := Kd.R_slice HO_17.out
                                                                          subst eo85
                                                                          have p510 : 0 ≤ (x18_7 : Int) := of_decide_eq_true (by first | (with_reducible assumption) | assumption)
                                                                          have q510 : x18_7 < (t501.length : Int) := of_decide_eq_true (by first | (with_reducible assumption) | assumption)
                                                                          obtain ⟨Az510, cz510, ez510⟩ := Kd.R_slice HO_17.out
                                                                          (first | subst ez510 | (injection ez510 with f1_ f2_ f3_; subst f1_; subst f3_) | skip)
                                                                          obtain ⟨ad510, e510, hx510_0⟩ := Kd.at_bool (Kd.R_reads' HO_17.out).2.2 x18_7 p510 q510
                                                                          (try rw [← Nbq56.out] at hx510_0)
                                                                          (try rw [← Nbq81.out] at hx510_0)
                                                                          cases e510
                                                                          replace p510 := eq_true p510
                                                                          replace q510 := eq_true q510
                                                                          have p79 : 0 ≤ (x18_7 : Int) := of_decide_eq_true (by first | (with_reducible assumption) | assumption)
                                                                          have q79 : (x18_7 : Int) < ((x8_7.length : Int) : Int) := of_decide_eq_true (by first | (with_reducible assumption) | assumption)
                                                                          obtain ⟨go79, co79, eo79, gb79, gl79, cl79, HG79⟩ := Kd.R_form HO_8.out (by omega)
                                                                          (first | cases eo79 | (injection eo79 with ea_ en_ ec_; (first | subst ea_ | (injection ea_ with ea_; subst ea_)); subst ec_; clear en_))
                                                                          have GB79 := Aside0.mk gb79
                                                                          have GG79 := Aside0.mk HG79
                                                                          clear gb79 gl79 HG79
                                                                          (first | simp only [add_plain] at hx504_0 | skip)
                                                                          obtain ⟨hx79_0, hf79_0⟩ := Kd.R_celln false HO_8.out (x18_7 : Int) p79 q79
                                                                          replace p79 := eq_true p79
                                                                          replace q79 := eq_true q79
                                                                          have HP86 := Kd.R_putg HO_8.out (x18_7 : Int) (rdOf false t501 x18_7)
                                                                          go_wp2_with (first | ((with_reducible refine gate_store (t := 4) (p := 127) rfl ?_); refine store_event (t := 4) (p := 127) (v := ?vo_w87) (w1 := (wr.setCell ⟨go79, (x18_7 : Int).toNat, none⟩ (.bool (rdOf false t501 x18_7)))) ?hg ?ho ?hn ?hr ?_; (case ho => rfl); (case hg => rfl); (case hn => rfl); (case hr => first | (go_simp; done) | (go_simp; rfl)); intro w87 hw; have hg : wr.grownBy w87 (some go79) := (by rw [hw]; exact HP86.2); have hp_ : Kd.R Kd.bool 4 w87 w.heap.size (fun k_ => some k_ ≠ (v486 : Value).ownBlock ∧ some k_ ≠ (.slice (some ad510) t501.length co85 : Value).ownBlock) (.slice (some ⟨go79, 0, none⟩) x8_7.length co84) y511 := (by rw [hw, Ny511.out]; exact HP86.1); clear HP86; have n0_ := Aside0.mk (hp_); have n1_ := Aside0.mk (Kd.R_after (v := (.slice (some ⟨go79, 0, none⟩) x8_7.length co84)) (v1 := (.slice (some ⟨go79, 0, none⟩) x8_7.length co84)) (ok := (fun k_ => some k_ ≠ (.slice (some ad510) t501.length co85 : Value).ownBlock)) (by (with_reducible repeat (first | apply Kd.R_alloc | apply Kd.R_drewN | apply Kd.R_drew)); exact Kd.R_mono HO_9.out (fun _ hk => ⟨hk.2, hk.1⟩)) hg (.inl rfl)); have n2_ := Aside0.mk (Kd.R_after (v := (.slice (some ⟨go79, 0, none⟩) x8_7.length co84)) (v1 := (.slice (some ⟨go79, 0, none⟩) x8_7.length co84)) (ok := (fun k_ => some k_ ≠ (v486 : Value).ownBlock)) (by (with_reducible repeat (first | apply Kd.R_alloc | apply Kd.R_drewN | apply Kd.R_drew)); exact Kd.R_mono HO_17.out (fun _ hk => ⟨hk.2, hk.1⟩)) hg (.inl rfl)); have n3_ := Aside0.mk ((by rw [hw]; exact below_set (HB.out) GB79.out : Below w.heap.size w w87)); clear HO_8; clear HO_9; clear HO_17; clear HB; have HO_8 := n0_; have HO_9 := n1_; have HO_17 := n2_; have HB := n3_; clear n0_ n1_ n2_ n3_; clear hg hw hp_; obtain ⟨Ao88, co88, eo88⟩ := Kd.R_slice HO_9.out; subst eo88; have p512 : 0 ≤ (x18_7 : Int) := of_decide_eq_true (by first | (with_reducible assumption) | assumption); have q512 : x18_7 < (x9_7.length : Int) := of_decide_eq_true (by first | (with_reducible assumption) | assumption); obtain ⟨Az512, cz512, ez512⟩ := Kd.R_slice HO_9.out; (first | subst ez512 | (injection ez512 with f1_ f2_ f3_; subst f1_; subst f3_) | skip); obtain ⟨ad512, e512, hx512_0⟩ := Kd.at_bool (Kd.R_reads' HO_9.out).2.2 x18_7 p512 q512; (try rw [← Nbq56.out] at hx512_0); (try rw [← Nbq81.out] at hx512_0); cases e512; replace p512 := eq_true p512; replace q512 := eq_true q512; have p513 : 0 ≤ (x18_7 : Int) := of_decide_eq_true (by first | (with_reducible assumption) | assumption); have q513 : x18_7 < (t501.length : Int) := of_decide_eq_true (by first | (with_reducible assumption) | assumption); obtain ⟨Az513, cz513, ez513⟩ := Kd.R_slice HO_17.out; (first | subst ez513 | (injection ez513 with f1_ f2_ f3_; subst f1_; subst f3_) | skip); obtain ⟨ad513, e513, hx513_0⟩ := Kd.at_bool (Kd.R_reads' HO_17.out).2.2 x18_7 p513 q513; (try rw [← Nbq56.out] at hx513_0); (try rw [← Nbq81.out] at hx513_0); obtain rfl : ad510 = ad513 := (by injection e513); replace p513 := eq_true p513; replace q513 := eq_true q513; have p83 : 0 ≤ (x18_7 : Int) := of_decide_eq_true (by first | (with_reducible assumption) | assumption); have q83 : (x18_7 : Int) < ((x9_7.length : Int) : Int) := of_decide_eq_true (by first | (with_reducible assumption) | assumption); obtain ⟨go83, co83, eo83, gb83, gl83, cl83, HG83⟩ := Kd.R_form HO_9.out (by omega); (first | cases eo83 | (injection eo83 with ea_ en_ ec_; (first | subst ea_ | (injection ea_ with ea_; subst ea_)); subst ec_; clear en_)); have GB83 := Aside0.mk gb83; have GG83 := Aside0.mk HG83; clear gb83 gl83 HG83; (first | simp only [add_plain] at hx512_0 | skip); obtain ⟨hx83_0, hf83_0⟩ := Kd.R_celln false HO_9.out (x18_7 : Int) p83 q83; replace p83 := eq_true p83; replace q83 := eq_true q83; obtain ⟨hy89_, hz89_⟩ := Kd.R_celln false HO_9.out (x18_7 : Int) (of_decide_eq_true (by first | (with_reducible assumption) | assumption)) (of_decide_eq_true (by first | (with_reducible assumption) | assumption)); have HP89 := Kd.R_putg HO_9.out (x18_7 : Int) (rdOf false t501 x18_7)) | ((with_reducible refine gate_store (t := 4) (p := 140) rfl ?_); refine store_event (t := 4) (p := 140) (v := ?vo_w90) (w1 := (w87.setCell ⟨go83, (x18_7 : Int).toNat, none⟩ (.bool (rdOf false t501 x18_7)))) ?hg ?ho ?hn ?hr ?_; (case ho => rfl); (case hg => rfl); (case hn => rfl); (case hr => first | (go_simp; done) | (go_simp; rfl)); intro w90 hw; have hg : w87.grownBy w90 (some go83) := (by rw [hw]; exact HP89.2); have hp_ : Kd.R Kd.bool 4 w90 w.heap.size (fun k_ => some k_ ≠ (.slice (some ad510) t501.length co85 : Value).ownBlock ∧ some k_ ≠ (.slice (some ⟨go79, 0, none⟩) x8_7.length co84 : Value).ownBlock) (.slice (some ⟨go83, 0, none⟩) x9_7.length co88) y514 := (by rw [hw, Ny514.out]; exact HP89.1); clear HP89; have n0_ := Aside0.mk (Kd.R_after (v := (.slice (some ⟨go83, 0, none⟩) x9_7.length co88)) (v1 := (.slice (some ⟨go83, 0, none⟩) x9_7.length co88)) (ok := (fun k_ => some k_ ≠ (.slice (some ad510) t501.length co85 : Value).ownBlock)) (by (with_reducible repeat (first | apply Kd.R_alloc | apply Kd.R_drewN | apply Kd.R_drew)); exact Kd.R_mono HO_8.out (fun _ hk => ⟨hk.2, hk.1⟩)) hg (.inl rfl)); have n1_ := Aside0.mk (hp_); have n2_ := Aside0.mk (Kd.R_after (v := (.slice (some ⟨go83, 0, none⟩) x9_7.length co88)) (v1 := (.slice (some ⟨go83, 0, none⟩) x9_7.length co88)) (ok := (fun k_ => some k_ ≠ (.slice (some ⟨go79, 0, none⟩) x8_7.length co84 : Value).ownBlock)) (by (with_reducible repeat (first | apply Kd.R_alloc | apply Kd.R_drewN | apply Kd.R_drew)); exact Kd.R_mono HO_17.out (fun _ hk => ⟨hk.2, hk.1⟩)) hg (.inl rfl)); have n3_ := Aside0.mk ((by rw [hw]; exact below_set (HB.out) GB83.out : Below w.heap.size w w90)); clear HO_8; clear HO_9; clear HO_17; clear HB; have HO_8 := n0_; have HO_9 := n1_; have HO_17 := n2_; have HB := n3_; clear n0_ n1_ n2_ n3_; clear hg hw hp_))
                                                                          go_roundg k7
                                                                          case measure => have := HK1.out; have := HK2.out; have := HK3.out; have := HK4.out; have := HK5.out; have := HK6.out; have := HK7.out; omega
                                                                          case rel => exact ⟨(y511), (y514), (wrap64 (x18_7 + 1)), (by first | rfl | (simp; done) | (simp [*]; done)), H', ⟨by have := HK1.out; have := HK2.out; have := HK3.out; have := HK4.out; have := HK5.out; have := HK6.out; have := HK7.out; omega⟩, ⟨by (with_reducible repeat (first | apply Kd.R_alloc | apply Kd.R_drewN | apply Kd.R_drew)); exact Kd.R_mono HO_8.out (fun _ hk => ⟨hk.2, hk.1⟩)⟩, ⟨by (with_reducible repeat (first | apply Kd.R_alloc | apply Kd.R_drewN | apply Kd.R_drew)); exact Kd.R_mono HO_9.out (fun _ hk => ⟨hk.2, hk.1⟩)⟩, ⟨by (with_reducible repeat (first | apply Kd.R_alloc | apply Kd.R_drewN | apply Kd.R_drew)); exact HO_17.out⟩, ⟨by repeat (first | (with_reducible first | exact HB.out | apply below_alloc | apply pw_below_drewN | apply below_drew1) | exact HB.out)⟩⟩
                                                                        · replace c82 := Bool.eq_false_iff.mpr c82
                                                                          subst c82
                                                                          have H1 : (intervalmonref28_Hysteresis.l6 k7 l0 l1 ji3 y511 (x9_7.set (x18_7 : Int).toNat false) x11_3 x13_4 x15_5 x16_6 t501 (wrap64 (x18_7 + 1))) = some r := by rw [if_neg (show ¬ (false = true) by decide)] at H; exact H
                                                                          clear H
                                                                          have H := H1
                                                                          clear H1
                                                                          obtain ⟨y515, hy515⟩ : ∃ y_ : List Bool, y_ = (x9_7.set (x18_7 : Int).toNat false) := ⟨_, rfl⟩
                                                                          replace H : (intervalmonref28_Hysteresis.l6 k7 l0 l1 ji3 y511 y515 x11_3 x13_4 x15_5 x16_6 t501 (wrap64 (x18_7 + 1))) = some r := by first | (rw [hy515]; with_reducible exact H) | (have H2_ := (Option.bind_some _ _).symm.trans H; rw [hy515]; with_reducible exact H2_) | (have H2_ := (Option.bind_some _ _).symm.trans H; with_reducible exact H2_) | with_reducible exact H | (rw [hy515]; exact H) | exact H
                                                                          have Ny515 := Aside0.mk hy515
                                                                          clear hy515
                                                                          have H' := Aside0.mk H
                                                                          clear H
                                                                          obtain ⟨Ao92, co92, eo92⟩ := Kd.R_slice HO_8.out
                                                                          subst eo92
                                                                          have p504 : 0 ≤ (x18_7 : Int) := of_decide_eq_true (by first | (with_reducible assumption) | assumption)
                                                                          have q504 : x18_7 < (x8_7.length : Int) := of_decide_eq_true (by first | (with_reducible assumption) | assumption)
                                                                          obtain ⟨Az504, cz504, ez504⟩ := Kd.R_slice HO_8.out
                                                                          (first | subst ez504 | (injection ez504 with f1_ f2_ f3_; subst f1_; subst f3_) | skip)
                                                                          obtain ⟨ad504, e504, hx504_0⟩ := Kd.at_bool (Kd.R_reads' HO_8.out).2.2 x18_7 p504 q504
                                                                          (try rw [← Nbq56.out] at hx504_0)
                                                                          (try rw [← Nbq81.out] at hx504_0)
                                                                          cases e504
                                                                          replace p504 := eq_true p504
                                                                          replace q504 := eq_true q504
                                                                          obtain ⟨Ao93, co93, eo93⟩ := Kd.R_slice HO_17.out
                                                                          subst eo93
                                                                          have p510 : 0 ≤ (x18_7 : Int) := of_decide_eq_true (by first | (with_reducible assumption) | assumption)
                                                                          have q510 : x18_7 < (t501.length : Int) := of_decide_eq_true (by first | (with_reducible assumption) | assumption)
                                                                          obtain ⟨Az510, cz510, ez510⟩ := Kd.R_slice HO_17.out
                                                                          (first | subst ez510 | (injection ez510 with f1_ f2_ f3_; subst f1_; subst f3_) | skip)
                                                                          obtain ⟨ad510, e510, hx510_0⟩ := Kd.at_bool (Kd.R_reads' HO_17.out).2.2 x18_7 p510 q510
                                                                          (try rw [← Nbq56.out] at hx510_0)
                                                                          (try rw [← Nbq81.out] at hx510_0)
                                                                          cases e510
                                                                          replace p510 := eq_true p510
                                                                          replace q510 := eq_true q510
                                                                          have p79 : 0 ≤ (x18_7 : Int) := of_decide_eq_true (by first | (with_reducible assumption) | assumption)
                                                                          have q79 : (x18_7 : Int) < ((x8_7.length : Int) : Int) := of_decide_eq_true (by first | (with_reducible assumption) | assumption)
                                                                          obtain ⟨go79, co79, eo79, gb79, gl79, cl79, HG79⟩ := Kd.R_form HO_8.out (by omega)
                                                                          (first | cases eo79 | (injection eo79 with ea_ en_ ec_; (first | subst ea_ | (injection ea_ with ea_; subst ea_)); subst ec_; clear en_))
                                                                          have GB79 := Aside0.mk gb79
                                                                          have GG79 := Aside0.mk HG79
                                                                          clear gb79 gl79 HG79
                                                                          (first | simp only [add_plain] at hx504_0 | skip)
                                                                          obtain ⟨hx79_0, hf79_0⟩ := Kd.R_celln false HO_8.out (x18_7 : Int) p79 q79
                                                                          replace p79 := eq_true p79
                                                                          replace q79 := eq_true q79
                                                                          have HP94 := Kd.R_putg HO_8.out (x18_7 : Int) (rdOf false t501 x18_7)
                                                                          go_wp2_with (first | ((with_reducible refine gate_store (t := 4) (p := 127) rfl ?_); refine store_event (t := 4) (p := 127) (v := ?vo_w95) (w1 := (wr.setCell ⟨go79, (x18_7 : Int).toNat, none⟩ (.bool (rdOf false t501 x18_7)))) ?hg ?ho ?hn ?hr ?_; (case ho => rfl); (case hg => rfl); (case hn => rfl); (case hr => first | (go_simp; done) | (go_simp; rfl)); intro w95 hw; have hg : wr.grownBy w95 (some go79) := (by rw [hw]; exact HP94.2); have hp_ : Kd.R Kd.bool 4 w95 w.heap.size (fun k_ => some k_ ≠ (v486 : Value).ownBlock ∧ some k_ ≠ (.slice (some ad510) t501.length co93 : Value).ownBlock) (.slice (some ⟨go79, 0, none⟩) x8_7.length co92) y511 := (by rw [hw, Ny511.out]; exact HP94.1); clear HP94; have n0_ := Aside0.mk (hp_); have n1_ := Aside0.mk (Kd.R_after (v := (.slice (some ⟨go79, 0, none⟩) x8_7.length co92)) (v1 := (.slice (some ⟨go79, 0, none⟩) x8_7.length co92)) (ok := (fun k_ => some k_ ≠ (.slice (some ad510) t501.length co93 : Value).ownBlock)) (by (with_reducible repeat (first | apply Kd.R_alloc | apply Kd.R_drewN | apply Kd.R_drew)); exact Kd.R_mono HO_9.out (fun _ hk => ⟨hk.2, hk.1⟩)) hg (.inl rfl)); have n2_ := Aside0.mk (Kd.R_after (v := (.slice (some ⟨go79, 0, none⟩) x8_7.length co92)) (v1 := (.slice (some ⟨go79, 0, none⟩) x8_7.length co92)) (ok := (fun k_ => some k_ ≠ (v486 : Value).ownBlock)) (by (with_reducible repeat (first | apply Kd.R_alloc | apply Kd.R_drewN | apply Kd.R_drew)); exact Kd.R_mono HO_17.out (fun _ hk => ⟨hk.2, hk.1⟩)) hg (.inl rfl)); have n3_ := Aside0.mk ((by rw [hw]; exact below_set (HB.out) GB79.out : Below w.heap.size w w95)); clear HO_8; clear HO_9; clear HO_17; clear HB; have HO_8 := n0_; have HO_9 := n1_; have HO_17 := n2_; have HB := n3_; clear n0_ n1_ n2_ n3_; clear hg hw hp_; obtain ⟨Ao96, co96, eo96⟩ := Kd.R_slice HO_9.out; subst eo96; have p512 : 0 ≤ (x18_7 : Int) := of_decide_eq_true (by first | (with_reducible assumption) | assumption); have q512 : x18_7 < (x9_7.length : Int) := of_decide_eq_true (by first | (with_reducible assumption) | assumption); obtain ⟨Az512, cz512, ez512⟩ := Kd.R_slice HO_9.out; (first | subst ez512 | (injection ez512 with f1_ f2_ f3_; subst f1_; subst f3_) | skip); obtain ⟨ad512, e512, hx512_0⟩ := Kd.at_bool (Kd.R_reads' HO_9.out).2.2 x18_7 p512 q512; (try rw [← Nbq56.out] at hx512_0); (try rw [← Nbq81.out] at hx512_0); cases e512; replace p512 := eq_true p512; replace q512 := eq_true q512; have p91 : 0 ≤ (x18_7 : Int) := of_decide_eq_true (by first | (with_reducible assumption) | assumption); have q91 : (x18_7 : Int) < ((x9_7.length : Int) : Int) := of_decide_eq_true (by first | (with_reducible assumption) | assumption); obtain ⟨go91, co91, eo91, gb91, gl91, cl91, HG91⟩ := Kd.R_form HO_9.out (by omega); (first | cases eo91 | (injection eo91 with ea_ en_ ec_; (first | subst ea_ | (injection ea_ with ea_; subst ea_)); subst ec_; clear en_)); have GB91 := Aside0.mk gb91; have GG91 := Aside0.mk HG91; clear gb91 gl91 HG91; (first | simp only [add_plain] at hx512_0 | skip); obtain ⟨hx91_0, hf91_0⟩ := Kd.R_celln false HO_9.out (x18_7 : Int) p91 q91; replace p91 := eq_true p91; replace q91 := eq_true q91; obtain ⟨hy97_, hz97_⟩ := Kd.R_celln false HO_9.out (x18_7 : Int) (of_decide_eq_true (by first | (with_reducible assumption) | assumption)) (of_decide_eq_true (by first | (with_reducible assumption) | assumption)); have HP97 := Kd.R_putg HO_9.out (x18_7 : Int) false) | ((with_reducible refine gate_store (t := 4) (p := 140) rfl ?_); refine store_event (t := 4) (p := 140) (v := ?vo_w98) (w1 := (w95.setCell ⟨go91, (x18_7 : Int).toNat, none⟩ (.bool false))) ?hg ?ho ?hn ?hr ?_; (case ho => rfl); (case hg => rfl); (case hn => rfl); (case hr => first | (go_simp; done) | (go_simp; rfl)); intro w98 hw; have hg : w95.grownBy w98 (some go91) := (by rw [hw]; exact HP97.2); have hp_ : Kd.R Kd.bool 4 w98 w.heap.size (fun k_ => some k_ ≠ (.slice (some ad510) t501.length co93 : Value).ownBlock ∧ some k_ ≠ (.slice (some ⟨go79, 0, none⟩) x8_7.length co92 : Value).ownBlock) (.slice (some ⟨go91, 0, none⟩) x9_7.length co96) y515 := (by rw [hw, Ny515.out]; exact HP97.1); clear HP97; have n0_ := Aside0.mk (Kd.R_after (v := (.slice (some ⟨go91, 0, none⟩) x9_7.length co96)) (v1 := (.slice (some ⟨go91, 0, none⟩) x9_7.length co96)) (ok := (fun k_ => some k_ ≠ (.slice (some ad510) t501.length co93 : Value).ownBlock)) (by (with_reducible repeat (first | apply Kd.R_alloc | apply Kd.R_drewN | apply Kd.R_drew)); exact Kd.R_mono HO_8.out (fun _ hk => ⟨hk.2, hk.1⟩)) hg (.inl rfl)); have n1_ := Aside0.mk (hp_); have n2_ := Aside0.mk (Kd.R_after (v := (.slice (some ⟨go91, 0, none⟩) x9_7.length co96)) (v1 := (.slice (some ⟨go91, 0, none⟩) x9_7.length co96)) (ok := (fun k_ => some k_ ≠ (.slice (some ⟨go79, 0, none⟩) x8_7.length co92 : Value).ownBlock)) (by (with_reducible repeat (first | apply Kd.R_alloc | apply Kd.R_drewN | apply Kd.R_drew)); exact Kd.R_mono HO_17.out (fun _ hk => ⟨hk.2, hk.1⟩)) hg (.inl rfl)); have n3_ := Aside0.mk ((by rw [hw]; exact below_set (HB.out) GB91.out : Below w.heap.size w w98)); clear HO_8; clear HO_9; clear HO_17; clear HB; have HO_8 := n0_; have HO_9 := n1_; have HO_17 := n2_; have HB := n3_; clear n0_ n1_ n2_ n3_; clear hg hw hp_))
                                                                          go_roundg k7
                                                                          case measure => have := HK1.out; have := HK2.out; have := HK3.out; have := HK4.out; have := HK5.out; have := HK6.out; have := HK7.out; omega
                                                                          case rel => exact ⟨(y511), (y515), (wrap64 (x18_7 + 1)), (by first | rfl | (simp; done) | (simp [*]; done)), H', ⟨by have := HK1.out; have := HK2.out; have := HK3.out; have := HK4.out; have := HK5.out; have := HK6.out; have := HK7.out; omega⟩, ⟨by (with_reducible repeat (first | apply Kd.R_alloc | apply Kd.R_drewN | apply Kd.R_drew)); exact Kd.R_mono HO_8.out (fun _ hk => ⟨hk.2, hk.1⟩)⟩, ⟨by (with_reducible repeat (first | apply Kd.R_alloc | apply Kd.R_drewN | apply Kd.R_drew)); exact Kd.R_mono HO_9.out (fun _ hk => ⟨hk.2, hk.1⟩)⟩, ⟨by (with_reducible repeat (first | apply Kd.R_alloc | apply Kd.R_drewN | apply Kd.R_drew)); exact HO_17.out⟩, ⟨by repeat (first | (with_reducible first | exact HB.out | apply below_alloc | apply pw_below_drewN | apply below_drew1) | exact HB.out)⟩⟩
                                                                      · rw [if_neg c80] at H
                                                                        exact absurd H (by simp)
                                                                    · rw [if_neg c78] at H
                                                                      exact absurd H (by simp)
                                                                · rw [if_neg c55] at H
                                                                  exact absurd H (by simp)
                                                              · rw [if_neg c54] at H
                                                                exact absurd H (by simp)
                                                            · rw [if_neg c53] at H
                                                              have c53b0 : decide (x18_7 < ji3) = false := decide_eq_false c53
                                                              clear c53
                                                              have H' := Aside0.mk H
                                                              clear H
                                                              go_wp2
                                                              go_roundg k7
                                                              case measure => have := HK1.out; have := HK2.out; have := HK3.out; have := HK4.out; have := HK5.out; have := HK6.out; have := HK7.out; omega
                                                              case rel => exact ⟨(x8_7), (x9_7), (wrap64 (x16_6 + 1)), (by first | rfl | (simp; done) | (simp [*]; done)), H', ⟨by have := HK1.out; have := HK2.out; have := HK3.out; have := HK4.out; have := HK5.out; have := HK6.out; have := HK7.out; omega⟩, ⟨by (with_reducible repeat (first | apply Kd.R_alloc | apply Kd.R_drewN | apply Kd.R_drew)); exact Kd.R_mono HO_8.out (fun _ hk => hk.1)⟩, ⟨by (with_reducible repeat (first | apply Kd.R_alloc | apply Kd.R_drewN | apply Kd.R_drew)); exact Kd.R_mono HO_9.out (fun _ hk => hk.1)⟩, ⟨by repeat (first | (with_reducible first | exact HB.out | apply below_alloc | apply pw_below_drewN | apply below_drew1) | exact HB.out)⟩⟩
                                                      · rw [if_neg c42] at H
                                                        exact absurd H (by simp)
                                                    · rw [if_neg c39] at H
                                                      exact absurd H (by simp)
                                                  · rw [if_neg c38] at H
                                                    exact absurd H (by simp)
                                                · rw [if_neg c37] at H
                                                  have c37b0 : decide (x16_6 < x13_4) = false := decide_eq_false c37
                                                  clear c37
                                                  have H' := Aside0.mk H
                                                  clear H
                                                  go_wp2
                                                  go_roundg k6
                                                  case measure => have := HK1.out; have := HK2.out; have := HK3.out; have := HK4.out; have := HK5.out; have := HK6.out; omega
                                                  case rel => exact ⟨(x8_6), (x9_6), (wrap64 (x15_5 + 1)), (by first | rfl | (simp; done) | (simp [*]; done)), H', ⟨by have := HK1.out; have := HK2.out; have := HK3.out; have := HK4.out; have := HK5.out; have := HK6.out; omega⟩, ⟨by (with_reducible repeat (first | apply Kd.R_alloc | apply Kd.R_drewN | apply Kd.R_drew)); exact HO_8.out⟩, ⟨by (with_reducible repeat (first | apply Kd.R_alloc | apply Kd.R_drewN | apply Kd.R_drew)); exact HO_9.out⟩, ⟨by repeat (first | (with_reducible first | exact HB.out | apply below_alloc | apply pw_below_drewN | apply below_drew1) | exact HB.out)⟩⟩
                                          · rw [if_neg c36] at H
                                            have c36b0 : decide (x15_5 < x11_3) = false := decide_eq_false c36
                                            clear c36
                                            have H' := Aside0.mk H
                                            clear H
                                            go_wp2
                                            go_loopg [6, 19] k5 (fun kq v6 v19 w' => ∃ (x6_6 : List Int) (x19_6 : Int), v19 = .int .i64 x19_6 ∧ Aside0 (intervalmonref28_Hysteresis.l7 kq ji3 x6_6 x8_5 x9_5 x19_6 = some r) ∧ Aside0 (kq ≤ k5) ∧ Aside0 (Kd.R (Kd.int .i64) 3 w' w.heap.size (fun _ => True) v6 x6_6) ∧ Aside0 (Kd.R Kd.bool 4 w' w.heap.size (fun k_ => some k_ ≠ (v486 : Value).ownBlock) v483 x8_5) ∧ Aside0 (Kd.R Kd.bool 4 w' w.heap.size (fun k_ => some k_ ≠ (v483 : Value).ownBlock) v486 x9_5) ∧ Aside0 (Below w.heap.size w w'))
                                            case atStart => exact ⟨(([] : List Int)), (0), (by first | rfl | (simp; done) | (simp [*]; done)), H', ⟨Nat.le_refl _⟩, ⟨by first | exact Kd.R_nil _ _ _ _ _ | exact Kd.N_nil _ _ _ _ _ | exact Kd.V_nil _ _ _ _ _ | exact Kd.Q_nil _ _ _ _ _ | exact Kd.S_nil _ _ _ _ _⟩, ⟨by (with_reducible repeat (first | apply Kd.R_alloc | apply Kd.R_drewN | apply Kd.R_drew)); exact HO_8.out⟩, ⟨by (with_reducible repeat (first | apply Kd.R_alloc | apply Kd.R_drewN | apply Kd.R_drew)); exact HO_9.out⟩, ⟨by repeat (first | (with_reducible first | exact HB.out | apply below_alloc | apply pw_below_drewN | apply below_drew1) | exact HB.out)⟩⟩
                                            case round =>
                                              clear H'
                                              try clear c1
                                              try clear c2
                                              try clear p2
                                              try clear q2
                                              try clear hx2
                                              try clear hf2
                                              try clear c3
                                              try clear c4
                                              try clear c4b0
                                              try clear p4
                                              try clear q4
                                              try clear hx4
                                              try clear c5
                                              try clear c5b0
                                              try clear p5
                                              try clear q5
                                              try clear hx5
                                              try clear hf5
                                              try clear c6
                                              try clear c6b0
                                              try clear p6
                                              try clear q6
                                              try clear hx6
                                              try clear hf6
                                              try clear c7
                                              try clear c7b0
                                              try clear p7
                                              try clear q7
                                              try clear hx7
                                              try clear hf7
                                              try clear c8
                                              try clear c8b0
                                              try clear p8
                                              try clear q8
                                              try clear hx8
                                              try clear hf8
                                              try clear c9
                                              try clear c9b0
                                              try clear p9
                                              try clear q9
                                              try clear hx9
                                              try clear hf9
                                              try clear c10
                                              try clear c10b0
                                              try clear c11
                                              try clear c11b0
                                              try clear c12
                                              try clear c12b0
                                              try clear c12b1
                                              try clear c13
                                              try clear c13b0
                                              try clear c13b1
                                              try clear c18
                                              try clear c18b0
                                              try clear c19
                                              try clear c19b0
                                              try clear c20
                                              try clear c20b0
                                              try clear p21
                                              try clear q21
                                              try clear hx21
                                              try clear hf21
                                              try clear c24
                                              try clear c24b0
                                              try clear c24b1
                                              try clear c25
                                              try clear c25b0
                                              try clear c25b1
                                              try clear c26
                                              try clear c27
                                              try clear c27b0
                                              try clear c28
                                              try clear c29
                                              try clear c30
                                              try clear c30b0
                                              try clear c30b1
                                              try clear c31
                                              try clear c31b0
                                              try clear c31b1
                                              try clear c33
                                              try clear c33b0
                                              try clear c36
                                              try clear c36b0
                                              try clear c37
                                              try clear c37b0
                                              try clear c38
                                              try clear c38b0
                                              try clear c38b1
                                              try clear c39
                                              try clear c39b0
                                              try clear c39b1
                                              try clear c41
                                              try clear c41b0
                                              try clear c42
                                              try clear c42b0
                                              try clear c42b1
                                              try clear p47
                                              try clear q47
                                              try clear hx47
                                              try clear p48
                                              try clear q48
                                              try clear hx48
                                              try clear p50
                                              try clear q50
                                              try clear hx50
                                              try clear p51
                                              try clear q51
                                              try clear hx51
                                              try clear c53
                                              try clear c53b0
                                              try clear c54
                                              try clear c54b0
                                              try clear c55
                                              try clear c55b0
                                              try clear q56
                                              try clear c57
                                              try clear p58
                                              try clear q58
                                              try clear hx58
                                              try clear hf58
                                              try clear c59
                                              try clear c59b0
                                              try clear q60
                                              try clear c61
                                              try clear c62
                                              try clear c62b0
                                              try clear p63
                                              try clear q63
                                              try clear hx63
                                              try clear hf63
                                              try clear p64
                                              try clear p71
                                              try clear q71
                                              try clear hx71
                                              try clear hf71
                                              try clear c78
                                              try clear c78b0
                                              try clear p79
                                              try clear q79
                                              try clear hx79
                                              try clear hf79
                                              try clear c80
                                              try clear c80b0
                                              try clear q81
                                              try clear c82
                                              try clear p83
                                              try clear q83
                                              try clear hx83
                                              try clear hf83
                                              try clear p91
                                              try clear q91
                                              try clear hx91
                                              try clear hf91
                                              try clear hx21_0
                                              try clear hx478_0
                                              try clear hx479_0
                                              try clear hx480_0
                                              try clear hx481_0
                                              try clear hx504_0
                                              try clear hx506_0
                                              try clear hx507_0
                                              try clear hx510_0
                                              try clear hx512_0
                                              try clear hx513_0
                                              try clear hx58_0
                                              try clear hx63_0
                                              try clear hx71_0
                                              try clear hx79_0
                                              try clear hx83_0
                                              try clear hx91_0
                                              try clear p2
                                              try clear p21
                                              try clear p4
                                              try clear p47
                                              try clear p478
                                              try clear p479
                                              try clear p48
                                              try clear p480
                                              try clear p481
                                              try clear p504
                                              try clear p506
                                              try clear p507
                                              try clear p510
                                              try clear p512
                                              try clear p513
                                              try clear p58
                                              try clear p6
                                              try clear p63
                                              try clear p71
                                              try clear p79
                                              try clear p83
                                              try clear p91
                                              try clear q2
                                              try clear q21
                                              try clear q4
                                              try clear q47
                                              try clear q478
                                              try clear q479
                                              try clear q48
                                              try clear q480
                                              try clear q481
                                              try clear q504
                                              try clear q506
                                              try clear q507
                                              try clear q510
                                              try clear q512
                                              try clear q513
                                              try clear q58
                                              try clear q63
                                              try clear q71
                                              try clear q79
                                              try clear q83
                                              try clear q91
                                              obtain ⟨x6_6, x19_6, rfl, HA, HK6, HO_6, HO_8, HO_9, HB⟩ := hrel
                                              cases gk with
                                              | zero => exact absurd HA.out (by simp [intervalmonref28_Hysteresis.l7])
                                              | succ k6 =>
                                                have H := HA.out
                                                clear HA
                                                simp only [intervalmonref28_Hysteresis.l7] at H
                                                by_cases c99 : x19_6 < ji3
                                                · rw [if_pos c99] at H
                                                  have c99b0 : decide (x19_6 < ji3) = true := decide_eq_true c99
                                                  clear c99
                                                  by_cases c100 : 0 ≤ x19_6
                                                  · rw [if_pos c100] at H
                                                    have c100b0 : decide (0 ≤ x19_6) = true := decide_eq_true c100
                                                    clear c100
                                                    by_cases c101 : x19_6 < (x9_5.length : Int)
                                                    · rw [if_pos c101] at H
                                                      have c101b0 : decide (x19_6 < (x9_5.length : Int)) = true := decide_eq_true c101
                                                      clear c101
                                                      obtain ⟨bq102, hbq102⟩ : ∃ b_ : Bool, b_ = (rdOf false x9_5 x19_6) := ⟨_, rfl⟩
                                                      replace H : (if bq102 = true then (if x6_6.length < 17592186044416 then (intervalmonref28_Hysteresis.l7 k6 ji3 (x6_6 ++ [2]) x8_5 x9_5 (wrap64 (x19_6 + 1))) else (none)) else (if x19_6 < (x8_5.length : Int) then (if rdOf false x8_5 x19_6 = true then (if x6_6.length < 17592186044416 then (intervalmonref28_Hysteresis.l7 k6 ji3 (x6_6 ++ [1]) x8_5 x9_5 (wrap64 (x19_6 + 1))) else (none)) else (if x6_6.length < 17592186044416 then (intervalmonref28_Hysteresis.l7 k6 ji3 (x6_6 ++ [0]) x8_5 x9_5 (wrap64 (x19_6 + 1))) else (none))) else (none))) = some r := by rw [← hbq102] at H; exact H
                                                      have Nbq102 := Aside0.mk hbq102
                                                      clear hbq102
                                                      by_cases c103 : bq102 = true
                                                      · subst c103
                                                        have H1 : (if x6_6.length < 17592186044416 then (intervalmonref28_Hysteresis.l7 k6 ji3 (x6_6 ++ [2]) x8_5 x9_5 (wrap64 (x19_6 + 1))) else (none)) = some r := by rw [if_pos rfl] at H; exact H
                                                        clear H
                                                        have H := H1
                                                        clear H1
                                                        by_cases c104 : x6_6.length < 17592186044416
                                                        · rw [if_pos c104] at H
                                                          have LMc104 := Aside0.mk c104
                                                          clear c104
                                                          obtain ⟨y517, hy517⟩ : ∃ y_ : List Int, y_ = (x6_6 ++ [2]) := ⟨_, rfl⟩
                                                          replace H : (intervalmonref28_Hysteresis.l7 k6 ji3 y517 x8_5 x9_5 (wrap64 (x19_6 + 1))) = some r := by first | (rw [hy517]; with_reducible exact H) | (have H2_ := (Option.bind_some _ _).symm.trans H; rw [hy517]; with_reducible exact H2_) | (have H2_ := (Option.bind_some _ _).symm.trans H; with_reducible exact H2_) | with_reducible exact H | (rw [hy517]; exact H) | exact H
                                                          have Ny517 := Aside0.mk hy517
                                                          clear hy517
                                                          have H' := Aside0.mk H
                                                          clear H
                                                          obtain ⟨Ao105, co105, eo105⟩ := Kd.R_slice HO_9.out
                                                          subst eo105
                                                          have p516 : 0 ≤ (x19_6 : Int) := of_decide_eq_true (by first | (with_reducible assumption) | assumption)
                                                          have q516 : x19_6 < (x9_5.length : Int) := of_decide_eq_true (by first | (with_reducible assumption) | assumption)
                                                          obtain ⟨Az516, cz516, ez516⟩ := Kd.R_slice HO_9.out
                                                          (first | subst ez516 | (injection ez516 with f1_ f2_ f3_; subst f1_; subst f3_) | skip)
                                                          obtain ⟨ad516, e516, hx516_0⟩ := Kd.at_bool (Kd.R_reads' HO_9.out).2.2 x19_6 p516 q516
                                                          (try rw [← Nbq102.out] at hx516_0)
                                                          cases e516
                                                          replace p516 := eq_true p516
                                                          replace q516 := eq_true q516
                                                          go_wp2_with (first | ((with_reducible refine gate_builtin (b := .append) (xs := #[.tmp 154, .tmp 156]) rfl ?_); at_builtin; refine Kd.R_append (Kd.int .i64) (w0 := w) w.heap.size rfl (.tmp 154) (.tmp 156) 22 3 (.int .i64 0) 8 rfl Tryd.underlying22 info3 rfl (by decide) (by omega) u6 x6_6 2 [.int .i64 2] (fun _ => True) (fun _ => False) rfl rfl ?aP (fun _ hk => hk.elim) ?aF ?aO ?aB ?aS ?aL ?_; (case aP => exact rfl); (case aB => exact (by repeat (first | (with_reducible first | exact HB.out | apply below_alloc | apply pw_below_drewN | apply below_drew1) | exact HB.out))); (case aF => exact (fun _ _ => trivial)); (case aO => exact (by (with_reducible repeat (first | apply Kd.R_alloc | apply Kd.R_drewN | apply Kd.R_drew)); exact HO_6.out)); (case aS => exact (below_size (by repeat (first | (with_reducible first | exact HB.out | apply below_alloc | apply pw_below_drewN | apply below_drew1) | exact HB.out)))); (case aL => have := LMc104.out; omega); intro v518 w106 ho hb hg hat; rw [← Ny517.out] at ho; have n0_ := Aside0.mk (Kd.R_over' (by (with_reducible repeat (first | apply Kd.R_alloc | apply Kd.R_drewN | apply Kd.R_drew)); exact HO_8.out) (Kd.R_typed (by (with_reducible repeat (first | apply Kd.R_alloc | apply Kd.R_drewN | apply Kd.R_drew)); exact HO_6.out)) (by decide) hg); have n1_ := Aside0.mk (Kd.R_over' (by (with_reducible repeat (first | apply Kd.R_alloc | apply Kd.R_drewN | apply Kd.R_drew)); exact HO_9.out) (Kd.R_typed (by (with_reducible repeat (first | apply Kd.R_alloc | apply Kd.R_drewN | apply Kd.R_drew)); exact HO_6.out)) (by decide) hg); have n2_ := Aside0.mk (hb); have n3_ := Aside0.mk (ho); clear HO_8; clear HO_9; clear HB; clear HO_6; have HO_8 := n0_; have HO_9 := n1_; have HB := n2_; have HO519 := n3_; clear n0_ n1_ n2_ n3_; clear ho hb hg hat))
                                                          go_roundg k6
                                                          case measure => have := HK1.out; have := HK2.out; have := HK3.out; have := HK4.out; have := HK5.out; have := HK6.out; omega
                                                          case rel => exact ⟨(y517), (wrap64 (x19_6 + 1)), (by first | rfl | (simp; done) | (simp [*]; done)), H', ⟨by have := HK1.out; have := HK2.out; have := HK3.out; have := HK4.out; have := HK5.out; have := HK6.out; omega⟩, ⟨by (with_reducible repeat (first | apply Kd.R_alloc | apply Kd.R_drewN | apply Kd.R_drew)); exact HO519.out⟩, ⟨by (with_reducible repeat (first | apply Kd.R_alloc | apply Kd.R_drewN | apply Kd.R_drew)); exact HO_8.out⟩, ⟨by (with_reducible repeat (first | apply Kd.R_alloc | apply Kd.R_drewN | apply Kd.R_drew)); exact HO_9.out⟩, ⟨by repeat (first | (with_reducible first | exact HB.out | apply below_alloc | apply pw_below_drewN | apply below_drew1) | exact HB.out)⟩⟩
                                                        · rw [if_neg c104] at H
                                                          exact absurd H (by simp)
                                                      · replace c103 := Bool.eq_false_iff.mpr c103
                                                        subst c103
                                                        have H1 : (if x19_6 < (x8_5.length : Int) then (if rdOf false x8_5 x19_6 = true then (if x6_6.length < 17592186044416 then (intervalmonref28_Hysteresis.l7 k6 ji3 (x6_6 ++ [1]) x8_5 x9_5 (wrap64 (x19_6 + 1))) else (none)) else (if x6_6.length < 17592186044416 then (intervalmonref28_Hysteresis.l7 k6 ji3 (x6_6 ++ [0]) x8_5 x9_5 (wrap64 (x19_6 + 1))) else (none))) else (none)) = some r := by rw [if_neg (show ¬ (false = true) by decide)] at H; exact H
                                                        clear H
                                                        have H := H1
                                                        clear H1
                                                        by_cases c107 : x19_6 < (x8_5.length : Int)
                                                        · rw [if_pos c107] at H
                                                          have c107b0 : decide (x19_6 < (x8_5.length : Int)) = true := decide_eq_true c107
                                                          clear c107
                                                          obtain ⟨bq108, hbq108⟩ : ∃ b_ : Bool, b_ = (rdOf false x8_5 x19_6) := ⟨_, rfl⟩
                                                          replace H : (if bq108 = true then (if x6_6.length < 17592186044416 then (intervalmonref28_Hysteresis.l7 k6 ji3 (x6_6 ++ [1]) x8_5 x9_5 (wrap64 (x19_6 + 1))) else (none)) else (if x6_6.length < 17592186044416 then (intervalmonref28_Hysteresis.l7 k6 ji3 (x6_6 ++ [0]) x8_5 x9_5 (wrap64 (x19_6 + 1))) else (none))) = some r := by rw [← hbq108] at H; exact H
                                                          have Nbq108 := Aside0.mk hbq108
                                                          clear hbq108
                                                          by_cases c109 : bq108 = true
                                                          · subst c109
                                                            have H1 : (if x6_6.length < 17592186044416 then (intervalmonref28_Hysteresis.l7 k6 ji3 (x6_6 ++ [1]) x8_5 x9_5 (wrap64 (x19_6 + 1))) else (none)) = some r := by rw [if_pos rfl] at H; exact H
                                                            clear H
                                                            have H := H1
                                                            clear H1
                                                            by_cases c110 : x6_6.length < 17592186044416
                                                            · rw [if_pos c110] at H
                                                              have LMc110 := Aside0.mk c110
                                                              clear c110
                                                              obtain ⟨y521, hy521⟩ : ∃ y_ : List Int, y_ = (x6_6 ++ [1]) := ⟨_, rfl⟩
                                                              replace H : (intervalmonref28_Hysteresis.l7 k6 ji3 y521 x8_5 x9_5 (wrap64 (x19_6 + 1))) = some r := by first | (rw [hy521]; with_reducible exact H) | (have H2_ := (Option.bind_some _ _).symm.trans H; rw [hy521]; with_reducible exact H2_) | (have H2_ := (Option.bind_some _ _).symm.trans H; with_reducible exact H2_) | with_reducible exact H | (rw [hy521]; exact H) | exact H
                                                              have Ny521 := Aside0.mk hy521
                                                              clear hy521
                                                              have H' := Aside0.mk H
                                                              clear H
                                                              obtain ⟨Ao111, co111, eo111⟩ := Kd.R_slice HO_9.out
                                                              subst eo111
                                                              have p516 : 0 ≤ (x19_6 : Int) := of_decide_eq_true (by first | (with_reducible assumption) | assumption)
                                                              have q516 : x19_6 < (x9_5.length : Int) := of_decide_eq_true (by first | (with_reducible assumption) | assumption)
                                                              obtain ⟨Az516, cz516, ez516⟩ := Kd.R_slice HO_9.out
                                                              (first | subst ez516 | (injection ez516 with f1_ f2_ f3_; subst f1_; subst f3_) | skip)
                                                              obtain ⟨ad516, e516, hx516_0⟩ := Kd.at_bool (Kd.R_reads' HO_9.out).2.2 x19_6 p516 q516
                                                              (try rw [← Nbq102.out] at hx516_0)
                                                              (try rw [← Nbq108.out] at hx516_0)
                                                              cases e516
                                                              replace p516 := eq_true p516
                                                              replace q516 := eq_true q516
                                                              obtain ⟨Ao112, co112, eo112⟩ := Kd.R_slice HO_8.out
                                                              subst eo112
                                                              have p520 : 0 ≤ (x19_6 : Int) := of_decide_eq_true (by first | (with_reducible assumption) | assumption)
                                                              have q520 : x19_6 < (x8_5.length : Int) := of_decide_eq_true (by first | (with_reducible assumption) | assumption)
                                                              obtain ⟨Az520, cz520, ez520⟩ := Kd.R_slice HO_8.out
                                                              (first | subst ez520 | (injection ez520 with f1_ f2_ f3_; subst f1_; subst f3_) | skip)
                                                              obtain ⟨ad520, e520, hx520_0⟩ := Kd.at_bool (Kd.R_reads' HO_8.out).2.2 x19_6 p520 q520
                                                              (try rw [← Nbq102.out] at hx520_0)
                                                              (try rw [← Nbq108.out] at hx520_0)
                                                              cases e520
                                                              replace p520 := eq_true p520
                                                              replace q520 := eq_true q520
                                                              go_wp2_with (first | ((with_reducible refine gate_builtin (b := .append) (xs := #[.tmp 154, .tmp 156]) rfl ?_); at_builtin; refine Kd.R_append (Kd.int .i64) (w0 := w) w.heap.size rfl (.tmp 154) (.tmp 156) 22 3 (.int .i64 0) 8 rfl Tryd.underlying22 info3 rfl (by decide) (by omega) u6 x6_6 1 [.int .i64 1] (fun _ => True) (fun _ => False) rfl rfl ?aP (fun _ hk => hk.elim) ?aF ?aO ?aB ?aS ?aL ?_; (case aP => exact rfl); (case aB => exact (by repeat (first | (with_reducible first | exact HB.out | apply below_alloc | apply pw_below_drewN | apply below_drew1) | exact HB.out))); (case aF => exact (fun _ _ => trivial)); (case aO => exact (by (with_reducible repeat (first | apply Kd.R_alloc | apply Kd.R_drewN | apply Kd.R_drew)); exact HO_6.out)); (case aS => exact (below_size (by repeat (first | (with_reducible first | exact HB.out | apply below_alloc | apply pw_below_drewN | apply below_drew1) | exact HB.out)))); (case aL => have := LMc110.out; omega); intro v522 w113 ho hb hg hat; rw [← Ny521.out] at ho; have n0_ := Aside0.mk (Kd.R_over' (by (with_reducible repeat (first | apply Kd.R_alloc | apply Kd.R_drewN | apply Kd.R_drew)); exact HO_8.out) (Kd.R_typed (by (with_reducible repeat (first | apply Kd.R_alloc | apply Kd.R_drewN | apply Kd.R_drew)); exact HO_6.out)) (by decide) hg); have n1_ := Aside0.mk (Kd.R_over' (by (with_reducible repeat (first | apply Kd.R_alloc | apply Kd.R_drewN | apply Kd.R_drew)); exact HO_9.out) (Kd.R_typed (by (with_reducible repeat (first | apply Kd.R_alloc | apply Kd.R_drewN | apply Kd.R_drew)); exact HO_6.out)) (by decide) hg); have n2_ := Aside0.mk (hb); have n3_ := Aside0.mk (ho); clear HO_8; clear HO_9; clear HB; clear HO_6; have HO_8 := n0_; have HO_9 := n1_; have HB := n2_; have HO523 := n3_; clear n0_ n1_ n2_ n3_; clear ho hb hg hat))
                                                              go_roundg k6
                                                              case measure => have := HK1.out; have := HK2.out; have := HK3.out; have := HK4.out; have := HK5.out; have := HK6.out; omega
                                                              case rel => exact ⟨(y521), (wrap64 (x19_6 + 1)), (by first | rfl | (simp; done) | (simp [*]; done)), H', ⟨by have := HK1.out; have := HK2.out; have := HK3.out; have := HK4.out; have := HK5.out; have := HK6.out; omega⟩, ⟨by (with_reducible repeat (first | apply Kd.R_alloc | apply Kd.R_drewN | apply Kd.R_drew)); exact HO523.out⟩, ⟨by (with_reducible repeat (first | apply Kd.R_alloc | apply Kd.R_drewN | apply Kd.R_drew)); exact HO_8.out⟩, ⟨by (with_reducible repeat (first | apply Kd.R_alloc | apply Kd.R_drewN | apply Kd.R_drew)); exact HO_9.out⟩, ⟨by repeat (first | (with_reducible first | exact HB.out | apply below_alloc | apply pw_below_drewN | apply below_drew1) | exact HB.out)⟩⟩
                                                            · rw [if_neg c110] at H
                                                              exact absurd H (by simp)
                                                          · replace c109 := Bool.eq_false_iff.mpr c109
                                                            subst c109
                                                            have H1 : (if x6_6.length < 17592186044416 then (intervalmonref28_Hysteresis.l7 k6 ji3 (x6_6 ++ [0]) x8_5 x9_5 (wrap64 (x19_6 + 1))) else (none)) = some r := by rw [if_neg (show ¬ (false = true) by decide)] at H; exact H
                                                            clear H
                                                            have H := H1
                                                            clear H1
                                                            by_cases c114 : x6_6.length < 17592186044416
                                                            · rw [if_pos c114] at H
                                                              have LMc114 := Aside0.mk c114
                                                              clear c114
                                                              obtain ⟨y524, hy524⟩ : ∃ y_ : List Int, y_ = (x6_6 ++ [0]) := ⟨_, rfl⟩
                                                              replace H : (intervalmonref28_Hysteresis.l7 k6 ji3 y524 x8_5 x9_5 (wrap64 (x19_6 + 1))) = some r := by first | (rw [hy524]; with_reducible exact H) | (have H2_ := (Option.bind_some _ _).symm.trans H; rw [hy524]; with_reducible exact H2_) | (have H2_ := (Option.bind_some _ _).symm.trans H; with_reducible exact H2_) | with_reducible exact H | (rw [hy524]; exact H) | exact H
                                                              have Ny524 := Aside0.mk hy524
                                                              clear hy524
                                                              have H' := Aside0.mk H
                                                              clear H
                                                              obtain ⟨Ao115, co115, eo115⟩ := Kd.R_slice HO_9.out
                                                              subst eo115
                                                              have p516 : 0 ≤ (x19_6 : Int) := of_decide_eq_true (by first | (with_reducible assumption) | assumption)
                                                              have q516 : x19_6 < (x9_5.length : Int) := of_decide_eq_true (by first | (with_reducible assumption) | assumption)
                                                              obtain ⟨Az516, cz516, ez516⟩ := Kd.R_slice HO_9.out
                                                              (first | subst ez516 | (injection ez516 with f1_ f2_ f3_; subst f1_; subst f3_) | skip)
                                                              obtain ⟨ad516, e516, hx516_0⟩ := Kd.at_bool (Kd.R_reads' HO_9.out).2.2 x19_6 p516 q516
                                                              (try rw [← Nbq102.out] at hx516_0)
                                                              (try rw [← Nbq108.out] at hx516_0)
                                                              cases e516
                                                              replace p516 := eq_true p516
                                                              replace q516 := eq_true q516
                                                              obtain ⟨Ao116, co116, eo116⟩ := Kd.R_slice HO_8.out
                                                              subst eo116
                                                              have p520 : 0 ≤ (x19_6 : Int) := of_decide_eq_true (by first | (with_reducible assumption) | assumption)
                                                              have q520 : x19_6 < (x8_5.length : Int) := of_decide_eq_true (by first | (with_reducible assumption) | assumption)
                                                              obtain ⟨Az520, cz520, ez520⟩ := Kd.R_slice HO_8.out
                                                              (first | subst ez520 | (injection ez520 with f1_ f2_ f3_; subst f1_; subst f3_) | skip)
                                                              obtain ⟨ad520, e520, hx520_0⟩ := Kd.at_bool (Kd.R_reads' HO_8.out).2.2 x19_6 p520 q520
                                                              (try rw [← Nbq102.out] at hx520_0)
                                                              (try rw [← Nbq108.out] at hx520_0)
                                                              cases e520
                                                              replace p520 := eq_true p520
                                                              replace q520 := eq_true q520
                                                              go_wp2_with (first | ((with_reducible refine gate_builtin (b := .append) (xs := #[.tmp 154, .tmp 156]) rfl ?_); at_builtin; refine Kd.R_append (Kd.int .i64) (w0 := w) w.heap.size rfl (.tmp 154) (.tmp 156) 22 3 (.int .i64 0) 8 rfl Tryd.underlying22 info3 rfl (by decide) (by omega) u6 x6_6 0 [.int .i64 0] (fun _ => True) (fun _ => False) rfl rfl ?aP (fun _ hk => hk.elim) ?aF ?aO ?aB ?aS ?aL ?_; (case aP => exact rfl); (case aB => exact (by repeat (first | (with_reducible first | exact HB.out | apply below_alloc | apply pw_below_drewN | apply below_drew1) | exact HB.out))); (case aF => exact (fun _ _ => trivial)); (case aO => exact (by (with_reducible repeat (first | apply Kd.R_alloc | apply Kd.R_drewN | apply Kd.R_drew)); exact HO_6.out)); (case aS => exact (below_size (by repeat (first | (with_reducible first | exact HB.out | apply below_alloc | apply pw_below_drewN | apply below_drew1) | exact HB.out)))); (case aL => have := LMc114.out; omega); intro v525 w117 ho hb hg hat; rw [← Ny524.out] at ho; have n0_ := Aside0.mk (Kd.R_over' (by (with_reducible repeat (first | apply Kd.R_alloc | apply Kd.R_drewN | apply Kd.R_drew)); exact HO_8.out) (Kd.R_typed (by (with_reducible repeat (first | apply Kd.R_alloc | apply Kd.R_drewN | apply Kd.R_drew)); exact HO_6.out)) (by decide) hg); have n1_ := Aside0.mk (Kd.R_over' (by (with_reducible repeat (first | apply Kd.R_alloc | apply Kd.R_drewN | apply Kd.R_drew)); exact HO_9.out) (Kd.R_typed (by (with_reducible repeat (first | apply Kd.R_alloc | apply Kd.R_drewN | apply Kd.R_drew)); exact HO_6.out)) (by decide) hg); have n2_ := Aside0.mk (hb); have n3_ := Aside0.mk (ho); clear HO_8; clear HO_9; clear HB; clear HO_6; have HO_8 := n0_; have HO_9 := n1_; have HB := n2_; have HO526 := n3_; clear n0_ n1_ n2_ n3_; clear ho hb hg hat))
                                                              go_roundg k6
                                                              case measure => have := HK1.out; have := HK2.out; have := HK3.out; have := HK4.out; have := HK5.out; have := HK6.out; omega
                                                              case rel => exact ⟨(y524), (wrap64 (x19_6 + 1)), (by first | rfl | (simp; done) | (simp [*]; done)), H', ⟨by have := HK1.out; have := HK2.out; have := HK3.out; have := HK4.out; have := HK5.out; have := HK6.out; omega⟩, ⟨by (with_reducible repeat (first | apply Kd.R_alloc | apply Kd.R_drewN | apply Kd.R_drew)); exact HO526.out⟩, ⟨by (with_reducible repeat (first | apply Kd.R_alloc | apply Kd.R_drewN | apply Kd.R_drew)); exact HO_8.out⟩, ⟨by (with_reducible repeat (first | apply Kd.R_alloc | apply Kd.R_drewN | apply Kd.R_drew)); exact HO_9.out⟩, ⟨by repeat (first | (with_reducible first | exact HB.out | apply below_alloc | apply pw_below_drewN | apply below_drew1) | exact HB.out)⟩⟩
                                                            · rw [if_neg c114] at H
                                                              exact absurd H (by simp)
                                                        · rw [if_neg c107] at H
                                                          exact absurd H (by simp)
                                                    · rw [if_neg c101] at H
                                                      exact absurd H (by simp)
                                                  · rw [if_neg c100] at H
                                                    exact absurd H (by simp)
                                                · rw [if_neg c99] at H
                                                  have c99b0 : decide (x19_6 < ji3) = false := decide_eq_false c99
                                                  clear c99
                                                  obtain rfl := Option.some.inj H
                                                  go_wp2
                                                  go_ret
                                                  exact ⟨_, by first | rfl | (simp [errW_none, errW_some] <;> rfl) | (simp only [← hji3]; first | rfl | (simp [errW_none, errW_some] <;> rfl)) | (simp [*, errW_none, errW_some] <;> rfl), by (with_reducible repeat (first | apply Kd.R_alloc | apply Kd.R_drewN | apply Kd.R_drew)); exact HO_6.out, by repeat (first | (with_reducible first | exact HB.out | apply below_alloc | apply pw_below_drewN | apply below_drew1) | exact HB.out)⟩
                                  · rw [if_neg c31] at H
                                    exact absurd H (by simp)
                                · rw [if_neg c30] at H
                                  exact absurd H (by simp)
                        · rw [if_neg c25] at H
                          exact absurd H (by simp)
                      · rw [if_neg c24] at H
                        exact absurd H (by simp)
          · rw [if_neg c13] at H
            exact absurd H (by simp)
        · rw [if_neg c12] at H
          exact absurd H (by simp)

end Go.Proofs.YtbbddeilbcpmiaaDoor.Q
