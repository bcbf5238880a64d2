/- alert.Hysteresis: what it computes, and that the code computes it. -/
import Derived.Test.YtbbddeilbcpmiaaDoorQ0
import Derived.Outline
import Derived.Deep.DeepMust
namespace Go.Proofs.YtbbddeilbcpmiaaDoor.Q
open Go.RowKit Go.Proofs.YtbbddeilbcpmiaaDoorW.PrintWords Go.Proofs.YtbbddeilbcpmiaaDoorW.PrintLast Go.Proofs.YtbbddeilbcpmiaaDoorW.PrintMore
attribute [local go_sem] max2_int min2_int max_two min_two max_three min_three max_four min_four
set_option linter.unusedVariables false
set_option linter.unusedSimpArgs false
/-- A verdict of one position. -/
def hyOut (l g : Bool) : Int := if l = true then 2 else if g = true then 1 else 0
/-- From position i on: the two conditions as they stand, what has been told. -/
def hyGo (l0 l1 : List Int) : Nat → Int → Bool → Bool → List Int → List Int
  | 0, _, _, _, acc => acc
  | d + 1, i, l, g, acc =>
    if rd l0 i < 0 ∨ 2 < rd l0 i ∨ rd l1 i < 0 ∨ 2 < rd l1 i then []
    else hyGo l0 l1 d (i + 1) ((rd l0 i == 2) || (l && !(rd l1 i != 0))) ((rd l0 i != 0) || (g && !(rd l1 i == 2)))
      (acc ++ [hyOut ((rd l0 i == 2) || (l && !(rd l1 i != 0))) ((rd l0 i != 0) || (g && !(rd l1 i == 2)))])
def alert_Hysteresis.f (l0 l1 : List Int) : Option (List Int) :=
  if l0.length < 17592186044416 then some (hyGo l0 l1 (min l0.length l1.length) 0 false false []) else none
set_option maxHeartbeats 4000000 in
set_option maxRecDepth 100000 in
theorem latch_next (b : Nat) (on s c : Bool) (W : World) (hb : W.heap[b]? = some (.cells #[.bool on] 79 (0, 0))) :
    Calls Tryd.prog 54 #[.pointer (some ⟨b, 0, none⟩), .bool s, .bool c] W fun e w' => e = .returned (.bool (s || (on && !c))) ∧ w' = W.setCell ⟨b, 0, none⟩ (.bool (s || (on && !c))) := by
  have hu := Tryd.underlying79
  have hc0 : W.cell? ⟨b, 0, none⟩ = some (.bool on) := (blk_cell hb 0).trans rfl
  have hf0 : W.frozen? ⟨b, 0, none⟩ = false := blk_frozen hb 0
  have hlt : b < W.heap.size := blk_lt hb
  clear hb
  cases s <;> cases on <;> cases c
  all_goals
    go_enter Tryd.func54, Tryd.ntmps54
    go_wp2
    go_ret
    exact ⟨rfl, rfl⟩
theorem alloc_sizeH (w : World) (o : Obj) : (w.alloc o).heap.size = w.heap.size + 1 := Array.size_push _
theorem latch_after {w W w1 : World} {b b2 : Nat} {on on2 v : Bool} {x : Value} {acc : List Int} (hw : w1 = W.setCell ⟨b, 0, none⟩ (.bool v)) (hb : W.heap[b]? = some (.cells #[.bool on] 79 (0, 0))) (hb2 : W.heap[b2]? = some (.cells #[.bool on2] 79 (0, 0))) (hne : b2 ≠ b)
    (HO : Kd.R (Kd.int .i64) 3 W w.heap.size (fun _ => True) x acc) (HB : Below w.heap.size w W) (hge : w.heap.size ≤ b) :
    w1.heap[b]? = some (.cells #[.bool v] 79 (0, 0)) ∧ w1.heap[b2]? = some (.cells #[.bool on2] 79 (0, 0)) ∧ Kd.R (Kd.int .i64) 3 w1 w.heap.size (fun _ => True) x acc ∧ Below w.heap.size w w1 := by
  subst hw
  exact ⟨blk_put hb 0 _ rfl, (Below.heap_setCell W ⟨b, 0, none⟩ _ b2 hne).trans hb2, Kd.R_set HO hb (by decide) 0 _, below_set HB hge⟩
theorem hyGo_bad (l0 l1 : List Int) (d : Nat) (i : Int) (l g : Bool) (acc : List Int) (h : rd l0 i < 0 ∨ 2 < rd l0 i ∨ rd l1 i < 0 ∨ 2 < rd l1 i) : hyGo l0 l1 (d + 1) i l g acc = [] := by
  unfold hyGo
  rw [if_pos h]
theorem hyGo_go (l0 l1 : List Int) (d : Nat) (i : Int) (l g : Bool) (acc : List Int) (s c : Int) (hs : rd l0 i = s) (hc : rd l1 i = c) (l' g' : Bool) (hl : ((s == 2) || (l && !(c != 0))) = l') (hg : ((s != 0) || (g && !(c == 2))) = g') (h : 0 ≤ s ∧ s ≤ 2 ∧ 0 ≤ c ∧ c ≤ 2) :
    hyGo l0 l1 (d + 1) i l g acc = hyGo l0 l1 d (i + 1) l' g' (acc ++ [hyOut l' g']) := by
  subst hl hg hs hc
  rw [hyGo, if_neg (by omega)]
set_option maxHeartbeats 16000000 in
set_option maxRecDepth 100000 in
theorem alert_Hysteresis.calls (A0 : Option Addr) (c0 : Nat) (l0 : List Int) (A1 : Option Addr) (c1 : Nat) (l1 : List Int) (r : List Int) (w : World) (hr0 : Kd.C (Kd.int .i64) w A0 l0.length l0) (hc0 : l0.length ≤ c0) (hr1 : Kd.C (Kd.int .i64) w A1 l1.length l1) (hc1 : l1.length ≤ c1) (h : alert_Hysteresis.f l0 l1 = some r) :
    Calls Tryd.prog 25 #[.slice A0 l0.length c0, .slice A1 l1.length c1] w fun e w' => ∃ v0_ : Value, e = .returned (v0_) ∧ Kd.R (Kd.int .i64) 3 w' w.heap.size (fun _ => True) v0_ r ∧ Below w.heap.size w w' := by
  have hu := Tryd.underlying79
  unfold alert_Hysteresis.f at h
  by_cases hM' : ¬ l0.length < 17592186044416
  · rw [if_neg hM'] at h
    cases h
  have hM : l0.length < 17592186044416 := by omega
  clear hM'
  rw [if_pos hM] at h
  obtain rfl := Option.some.inj h
  clear h
  have HR0 := Aside0.mk hr0
  have HR1 := Aside0.mk hr1
  have HM := Aside0.mk hM
  have hmin : (if l1.length < l0.length then (l1.length : Int) else (l0.length : Int)) = ((min l0.length l1.length : Nat) : Int) := by
    split <;> omega
  have hn0 : min l0.length l1.length ≤ l0.length := Nat.min_le_left _ _
  have hn1 : min l0.length l1.length ≤ l1.length := Nat.min_le_right _ _
  generalize min l0.length l1.length = n at hmin hn0 hn1 ⊢
  have HN0 := Aside0.mk hn0
  have HN1 := Aside0.mk hn1
  clear hr0 hr1 hc0 hc1 hM hn0 hn1
  go_enter Tryd.func25, Tryd.ntmps25
  go_wp2
  have hb1 := blk_below (blk_new w (.cells #[.bool false] 79)) (below_alloc (Below.refl _ (w.alloc (.cells #[.bool false] 79))) (.cells #[.bool false] 79))
  have hb2 := blk_new (w.alloc (.cells #[.bool false] 79)) (.cells #[.bool false] 79)
  have hb3 := below_alloc (below_alloc (Below.refl w.heap.size w) (.cells #[.bool false] 79)) (.cells #[.bool false] 79)
  have hsz : (w.alloc (.cells #[.bool false] 79)).heap.size = w.heap.size + 1 := alloc_sizeH _ _
  rw [hsz] at hb2
  have HB1 := Aside0.mk hb1
  have HB2 := Aside0.mk hb2
  have HB3 := Aside0.mk hb3
  clear hb1 hb2 hb3 hsz
  go_loopw [6, 9] (fun v6 v9 w' => ∃ (i : Int) (l g : Bool) (acc : List Int), v9 = .int .i64 i ∧ 0 ≤ i ∧ i ≤ n ∧ Aside0 (acc.length = i.toNat) ∧ Aside0 (hyGo l0 l1 n 0 false false [] = hyGo l0 l1 (n - i.toNat) i l g acc) ∧ Aside0 (w'.heap[w.heap.size]? = some (.cells #[.bool l] 79 (0, 0))) ∧ Aside0 (w'.heap[w.heap.size + 1]? = some (.cells #[.bool g] 79 (0, 0))) ∧ Aside0 (Kd.R (Kd.int .i64) 3 w' w.heap.size (fun _ => True) v6 acc) ∧ Aside0 (Below w.heap.size w w')) (fun _ v9 _ => n - (intOf v9).toNat)
  case atStart => exact ⟨0, false, false, [], rfl, Int.le_refl _, by omega, ⟨rfl⟩, ⟨rfl⟩, HB1, HB2, ⟨Kd.R_nil _ _ _ _ _⟩, HB3⟩
  case round =>
    obtain ⟨i, l, g, acc, rfl, hi0, hi, HAL, HE, K1, K2, HO, HB⟩ := hrel
    have HI := Aside0.mk hi
    have hi1 : i ≤ 17592186044416 := by have := HM.out; have := HN0.out; omega
    by_cases hlt : i < n
    · have hltb : decide (i < (n : Int)) = true := decide_eq_true hlt
      have hl0 : i < (l0.length : Int) := by have := HN0.out; omega
      have hl1 : i < (l1.length : Int) := by have := HN1.out; omega
      obtain ⟨ad0, e0, hx0⟩ := Kd.at_int (Kd.C_below HR0.out HB.out) i hi0 hl0
      obtain ⟨ad1, e1, hx1⟩ := Kd.at_int (Kd.C_below HR1.out HB.out) i hi0 hl1
      subst e0 e1
      have en : n - i.toNat = (n - (i + 1).toNat) + 1 := by omega
      have HE2 := HE.out
      rw [en] at HE2
      have HE := Aside0.mk HE2
      have HLT := Aside0.mk hlt
      have p0 := eq_true hi0
      have q0 := eq_true hl0
      have q1 := eq_true hl1
      clear hlt hi HE2 en hl0 hl1
      generalize hs : rd l0 i = s at hx0
      generalize hc : rd l1 i = c at hx1
      have HSC := Aside0.mk (And.intro hs hc)
      clear hs hc
      by_cases b1 : s < 0
      · have HF := Aside0.mk (HE.out.trans (hyGo_bad l0 l1 _ i l g acc (by rw [HSC.out.1]; exact .inl b1)))
        have d1 : decide (s < 0) = true := decide_eq_true b1
        clear b1
        skip
        clear HE
        go_wp2
        go_quiet (fail)
        go_wp2
        go_ret
        exact ⟨_, rfl, by rw [HF.out]; exact Kd.R_nil _ _ _ _ _, pw_below_drewN HB.out _⟩
      have d1 : decide (s < 0) = false := decide_eq_false b1
      by_cases b2 : 2 < s
      · have HF := Aside0.mk (HE.out.trans (hyGo_bad l0 l1 _ i l g acc (by rw [HSC.out.1]; exact .inr (.inl b2))))
        have d2 : decide (2 < s) = true := decide_eq_true b2
        clear b1 b2
        skip
        clear HE
        go_wp2
        go_quiet (fail)
        go_wp2
        go_ret
        exact ⟨_, rfl, by rw [HF.out]; exact Kd.R_nil _ _ _ _ _, pw_below_drewN HB.out _⟩
      have d2 : decide (2 < s) = false := decide_eq_false b2
      by_cases b3 : c < 0
      · have HF := Aside0.mk (HE.out.trans (hyGo_bad l0 l1 _ i l g acc (by rw [HSC.out.2]; exact .inr (.inr (.inl b3)))))
        have d3 : decide (c < 0) = true := decide_eq_true b3
        clear b1 b2 b3
        skip
        clear HE
        go_wp2
        go_quiet (fail)
        go_wp2
        go_ret
        exact ⟨_, rfl, by rw [HF.out]; exact Kd.R_nil _ _ _ _ _, pw_below_drewN HB.out _⟩
      have d3 : decide (c < 0) = false := decide_eq_false b3
      by_cases b4 : 2 < c
      · have HF := Aside0.mk (HE.out.trans (hyGo_bad l0 l1 _ i l g acc (by rw [HSC.out.2]; exact .inr (.inr (.inr b4)))))
        have d4 : decide (2 < c) = true := decide_eq_true b4
        clear b1 b2 b3 b4
        skip
        clear HE
        go_wp2
        go_quiet (fail)
        go_wp2
        go_ret
        exact ⟨_, rfl, by rw [HF.out]; exact Kd.R_nil _ _ _ _ _, pw_below_drewN HB.out _⟩
      have d4 : decide (2 < c) = false := decide_eq_false b4
      have HG := fun l' g' hl hg => HE.out.trans (hyGo_go l0 l1 _ i l g acc s c HSC.out.1 HSC.out.2 l' g' hl hg ⟨by omega, by omega, by omega, by omega⟩)
      clear b1 b2 b3 b4 HE
      generalize hb1 : (s == 2) = b1 at HG
      generalize hb2 : (s != 0) = b2 at HG
      generalize hb3 : (c != 0) = b3 at HG
      generalize hb4 : (c == 2) = b4 at HG
      have C1 := fun W h => latch_next w.heap.size l b1 b3 W h
      have C2 := fun W h => latch_next (w.heap.size + 1) g b2 b4 W h
      have HG1 := HG _ _ rfl rfl
      clear HG
      generalize (b1 || (l && !b3)) = l' at C1 HG1
      generalize (b2 || (g && !b4)) = g' at C2 HG1
      have HS := Aside0.mk HG1
      clear HG1
      cases l' with
      | true =>
        cases g' with
        | true =>
          go_wp2
          go_quiet (fail)
          go_wp2_with (first | (go_at_call 54; (with_reducible refine (C1 _ ?side1).mono ?_); (case side1 => exact blk_drewN K1.out _); rintro e w1 ⟨rfl, hw⟩; have hh := latch_after hw (blk_drewN K1.out _) (blk_drewN K2.out _) (Nat.succ_ne_self _) (Kd.R_drewN HO.out _) (pw_below_drewN HB.out _) (Nat.le_refl _); have K11 := Aside0.mk hh.1; have K21 := Aside0.mk hh.2.1; have HO1 := Aside0.mk hh.2.2.1; have HB1 := Aside0.mk hh.2.2.2; clear hw hh) | (go_at_call 54; (with_reducible refine (C2 _ ?side2).mono ?_); (case side2 => exact K21.out); rintro e w2 ⟨rfl, hw⟩; have hh := latch_after hw K21.out K11.out (Nat.ne_of_lt (Nat.lt_succ_self _)) HO1.out HB1.out (Nat.le_succ _); have K12 := Aside0.mk hh.2.1; have K22 := Aside0.mk hh.1; have HO2 := Aside0.mk hh.2.2.1; have HB2 := Aside0.mk hh.2.2.2; clear hw hh) | ((with_reducible refine gate_builtin (b := .append) (xs := #[.tmp 69, .tmp 70]) rfl ?_); at_builtin; refine Kd.R_append (Kd.int .i64) (w0 := w) w.heap.size rfl (.tmp 69) (.tmp 70) 22 3 (.int .i64 0) 8 rfl Tryd.underlying22 info3 rfl (by decide) (by omega) u6 acc 2 [.int .i64 2] (fun _ => True) (fun _ => False) rfl rfl ?aP (fun _ hk => hk.elim) ?aF ?aO ?aB ?aS ?aL ?_; (case aP => exact rfl); (case aB => exact HB2.out); (case aF => exact (fun _ _ => trivial)); (case aO => exact HO2.out); (case aS => exact HB2.out.size); (case aL => have := HAL.out; have := HM.out; have := HN0.out; have := HLT.out; omega); intro v691 w9 ho hb hg hat; have HBe := Aside0.mk hb; have HOe := Aside0.mk ho; have K1e := Aside0.mk (blk_grown K12.out hg (Kd.R_ne HO2.out K12.out (by decide))); have K2e := Aside0.mk (blk_grown K22.out hg (Kd.R_ne HO2.out K22.out (by decide))); clear ho hb hg hat))
          go_roundw
          case rel => exact ⟨i + 1, true, true, acc ++ [2], rfl, by omega, by have := HLT.out; omega, ⟨by rw [List.length_append, HAL.out]; simp; omega⟩, HS, K1e, K2e, HOe, HBe⟩
          case measure => have := HLT.out; simp [intOf]; omega
        | false =>
          go_wp2
          go_quiet (fail)
          go_wp2_with (first | (go_at_call 54; (with_reducible refine (C1 _ ?side1).mono ?_); (case side1 => exact blk_drewN K1.out _); rintro e w1 ⟨rfl, hw⟩; have hh := latch_after hw (blk_drewN K1.out _) (blk_drewN K2.out _) (Nat.succ_ne_self _) (Kd.R_drewN HO.out _) (pw_below_drewN HB.out _) (Nat.le_refl _); have K11 := Aside0.mk hh.1; have K21 := Aside0.mk hh.2.1; have HO1 := Aside0.mk hh.2.2.1; have HB1 := Aside0.mk hh.2.2.2; clear hw hh) | (go_at_call 54; (with_reducible refine (C2 _ ?side2).mono ?_); (case side2 => exact K21.out); rintro e w2 ⟨rfl, hw⟩; have hh := latch_after hw K21.out K11.out (Nat.ne_of_lt (Nat.lt_succ_self _)) HO1.out HB1.out (Nat.le_succ _); have K12 := Aside0.mk hh.2.1; have K22 := Aside0.mk hh.1; have HO2 := Aside0.mk hh.2.2.1; have HB2 := Aside0.mk hh.2.2.2; clear hw hh) | ((with_reducible refine gate_builtin (b := .append) (xs := #[.tmp 69, .tmp 70]) rfl ?_); at_builtin; refine Kd.R_append (Kd.int .i64) (w0 := w) w.heap.size rfl (.tmp 69) (.tmp 70) 22 3 (.int .i64 0) 8 rfl Tryd.underlying22 info3 rfl (by decide) (by omega) u6 acc 2 [.int .i64 2] (fun _ => True) (fun _ => False) rfl rfl ?aP (fun _ hk => hk.elim) ?aF ?aO ?aB ?aS ?aL ?_; (case aP => exact rfl); (case aB => exact HB2.out); (case aF => exact (fun _ _ => trivial)); (case aO => exact HO2.out); (case aS => exact HB2.out.size); (case aL => have := HAL.out; have := HM.out; have := HN0.out; have := HLT.out; omega); intro v691 w9 ho hb hg hat; have HBe := Aside0.mk hb; have HOe := Aside0.mk ho; have K1e := Aside0.mk (blk_grown K12.out hg (Kd.R_ne HO2.out K12.out (by decide))); have K2e := Aside0.mk (blk_grown K22.out hg (Kd.R_ne HO2.out K22.out (by decide))); clear ho hb hg hat))
          go_roundw
          case rel => exact ⟨i + 1, true, false, acc ++ [2], rfl, by omega, by have := HLT.out; omega, ⟨by rw [List.length_append, HAL.out]; simp; omega⟩, HS, K1e, K2e, HOe, HBe⟩
          case measure => have := HLT.out; simp [intOf]; omega
      | false =>
        cases g' with
        | true =>
          go_wp2
          go_quiet (fail)
          go_wp2_with (first | (go_at_call 54; (with_reducible refine (C1 _ ?side1).mono ?_); (case side1 => exact blk_drewN K1.out _); rintro e w1 ⟨rfl, hw⟩; have hh := latch_after hw (blk_drewN K1.out _) (blk_drewN K2.out _) (Nat.succ_ne_self _) (Kd.R_drewN HO.out _) (pw_below_drewN HB.out _) (Nat.le_refl _); have K11 := Aside0.mk hh.1; have K21 := Aside0.mk hh.2.1; have HO1 := Aside0.mk hh.2.2.1; have HB1 := Aside0.mk hh.2.2.2; clear hw hh) | (go_at_call 54; (with_reducible refine (C2 _ ?side2).mono ?_); (case side2 => exact K21.out); rintro e w2 ⟨rfl, hw⟩; have hh := latch_after hw K21.out K11.out (Nat.ne_of_lt (Nat.lt_succ_self _)) HO1.out HB1.out (Nat.le_succ _); have K12 := Aside0.mk hh.2.1; have K22 := Aside0.mk hh.1; have HO2 := Aside0.mk hh.2.2.1; have HB2 := Aside0.mk hh.2.2.2; clear hw hh) | ((with_reducible refine gate_builtin (b := .append) (xs := #[.tmp 74, .tmp 75]) rfl ?_); at_builtin; refine Kd.R_append (Kd.int .i64) (w0 := w) w.heap.size rfl (.tmp 74) (.tmp 75) 22 3 (.int .i64 0) 8 rfl Tryd.underlying22 info3 rfl (by decide) (by omega) u6 acc 1 [.int .i64 1] (fun _ => True) (fun _ => False) rfl rfl ?aP (fun _ hk => hk.elim) ?aF ?aO ?aB ?aS ?aL ?_; (case aP => exact rfl); (case aB => exact HB2.out); (case aF => exact (fun _ _ => trivial)); (case aO => exact HO2.out); (case aS => exact HB2.out.size); (case aL => have := HAL.out; have := HM.out; have := HN0.out; have := HLT.out; omega); intro v691 w9 ho hb hg hat; have HBe := Aside0.mk hb; have HOe := Aside0.mk ho; have K1e := Aside0.mk (blk_grown K12.out hg (Kd.R_ne HO2.out K12.out (by decide))); have K2e := Aside0.mk (blk_grown K22.out hg (Kd.R_ne HO2.out K22.out (by decide))); clear ho hb hg hat))
          go_roundw
          case rel => exact ⟨i + 1, false, true, acc ++ [1], rfl, by omega, by have := HLT.out; omega, ⟨by rw [List.length_append, HAL.out]; simp; omega⟩, HS, K1e, K2e, HOe, HBe⟩
          case measure => have := HLT.out; simp [intOf]; omega
        | false =>
          go_wp2
          go_quiet (fail)
          go_wp2_with (first | (go_at_call 54; (with_reducible refine (C1 _ ?side1).mono ?_); (case side1 => exact blk_drewN K1.out _); rintro e w1 ⟨rfl, hw⟩; have hh := latch_after hw (blk_drewN K1.out _) (blk_drewN K2.out _) (Nat.succ_ne_self _) (Kd.R_drewN HO.out _) (pw_below_drewN HB.out _) (Nat.le_refl _); have K11 := Aside0.mk hh.1; have K21 := Aside0.mk hh.2.1; have HO1 := Aside0.mk hh.2.2.1; have HB1 := Aside0.mk hh.2.2.2; clear hw hh) | (go_at_call 54; (with_reducible refine (C2 _ ?side2).mono ?_); (case side2 => exact K21.out); rintro e w2 ⟨rfl, hw⟩; have hh := latch_after hw K21.out K11.out (Nat.ne_of_lt (Nat.lt_succ_self _)) HO1.out HB1.out (Nat.le_succ _); have K12 := Aside0.mk hh.2.1; have K22 := Aside0.mk hh.1; have HO2 := Aside0.mk hh.2.2.1; have HB2 := Aside0.mk hh.2.2.2; clear hw hh) | ((with_reducible refine gate_builtin (b := .append) (xs := #[.tmp 64, .tmp 65]) rfl ?_); at_builtin; refine Kd.R_append (Kd.int .i64) (w0 := w) w.heap.size rfl (.tmp 64) (.tmp 65) 22 3 (.int .i64 0) 8 rfl Tryd.underlying22 info3 rfl (by decide) (by omega) u6 acc 0 [.int .i64 0] (fun _ => True) (fun _ => False) rfl rfl ?aP (fun _ hk => hk.elim) ?aF ?aO ?aB ?aS ?aL ?_; (case aP => exact rfl); (case aB => exact HB2.out); (case aF => exact (fun _ _ => trivial)); (case aO => exact HO2.out); (case aS => exact HB2.out.size); (case aL => have := HAL.out; have := HM.out; have := HN0.out; have := HLT.out; omega); intro v691 w9 ho hb hg hat; have HBe := Aside0.mk hb; have HOe := Aside0.mk ho; have K1e := Aside0.mk (blk_grown K12.out hg (Kd.R_ne HO2.out K12.out (by decide))); have K2e := Aside0.mk (blk_grown K22.out hg (Kd.R_ne HO2.out K22.out (by decide))); clear ho hb hg hat))
          go_roundw
          case rel => exact ⟨i + 1, false, false, acc ++ [0], rfl, by omega, by have := HLT.out; omega, ⟨by rw [List.length_append, HAL.out]; simp; omega⟩, HS, K1e, K2e, HOe, HBe⟩
          case measure => have := HLT.out; simp [intOf]; omega
    · have hltb : decide (i < (n : Int)) = false := decide_eq_false hlt
      have HF := Aside0.mk (show hyGo l0 l1 n 0 false false [] = acc by rw [HE.out, show n - i.toNat = 0 by omega]; rfl)
      clear hlt hi
      go_wp2
      go_ret
      exact ⟨_, rfl, by rw [HF.out]; exact HO.out, HB.out⟩
end Go.Proofs.YtbbddeilbcpmiaaDoor.Q
