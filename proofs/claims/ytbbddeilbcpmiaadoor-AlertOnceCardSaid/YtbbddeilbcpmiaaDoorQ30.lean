-- Written by a program (pp: this repo's wip/pp/patch.py over the kit's print), out of the translation. Lean checks it.
import Derived.Test.YtbbddeilbcpmiaaDoorQ0
import Derived.Test.YtbbddeilbcpmiaaDoorMAlertValid
import Derived.Test.YtbbddeilbcpmiaaDoorMLives28
import Derived.Test.YtbbddeilbcpmiaaDoorQ17
import Derived.Test.YtbbddeilbcpmiaaDoorQ23
import Derived.Test.YtbbddeilbcpmiaaDoorQ3
namespace Go.Proofs.YtbbddeilbcpmiaaDoor.Q
open Go.RowKit Go.Proofs.YtbbddeilbcpmiaaDoorW.PrintWords Go.Proofs.YtbbddeilbcpmiaaDoorW.PrintLast Go.Proofs.YtbbddeilbcpmiaaDoorW.PrintMore
attribute [local go_sem] max2_int min2_int max_two min_two max_three min_three max_four min_four   -- for this text's walks alone
set_option linter.unusedVariables false
set_option linter.unusedSimpArgs false

/-! ### intervalmonlaw28_AlertOnce: function 8 -/
mutual
def intervalmonlaw28_AlertOnce.l0 : Nat → Int → List Int → Bool → Int → ByteArray → Int → List (S35) → Int → Int → Int → Option (Bool)
  | 0, _, _, _, _, _, _, _, _, _, _ => none
  | k + 1, x1, x5, x7, x8, x588000, x588001, x588002, x588003, x588004, x588005 => if x8 < (x5.length : Int) then (if 0 ≤ x8 then ((intervalmonref01_Around.f x1 1000).bind fun t591 => ((alert_Step.f k x588000 x588001 x588002 x588003 x588004 x588005 (rd x5 x8) (wrap64 (t591 + x8))).bind fun bt592 => (if x7 = true then (intervalmonlaw28_AlertOnce.j1 k x1 x5 x7 x8 (bt592.2.2.2.2.2.2 != ((rd x5 x8) == 2)) bt592.1 bt592.2.1 bt592.2.2.1 bt592.2.2.2.1 bt592.2.2.2.2.1 bt592.2.2.2.2.2.1) else (intervalmonlaw28_AlertOnce.j1 k x1 x5 x7 x8 (bt592.2.2.2.2.2.2 != false) bt592.1 bt592.2.1 bt592.2.2.1 bt592.2.2.2.1 bt592.2.2.2.2.1 bt592.2.2.2.2.2.1)))) else (none)) else ((alert_Valid.f k x588000 x588001 x588002 x588003 x588004 x588005).bind fun t588 => (if t588 = true then ((intervalmonlaw28_lives.f).bind fun t589 => (some t589)) else (some false)))
def intervalmonlaw28_AlertOnce.j1 : Nat → Int → List Int → Bool → Int → Bool → ByteArray → Int → List (S35) → Int → Int → Int → Option (Bool)
  | 0, _, _, _, _, _, _, _, _, _, _, _ => none
  | k + 1, x1, x5, x7, x8, x42, x602000, x602001, x602002, x602003, x602004, x602005 => if x42 = true then (some false) else (if 0 ≤ x8 then (if x8 < (x5.length : Int) then (if (rd x5 x8) = 1 then (intervalmonlaw28_AlertOnce.l0 k x1 x5 x7 (wrap64 (x8 + 1)) x602000 x602001 x602002 x602003 x602004 x602005) else (intervalmonlaw28_AlertOnce.l0 k x1 x5 ((rd x5 x8) == 0) (wrap64 (x8 + 1)) x602000 x602001 x602002 x602003 x602004 x602005)) else (none)) else (none))
end
def intervalmonlaw28_AlertOnce.f (k : Nat) (l0 : List Int) (a1 : Int) : Option (Bool) := (intervalmonref28_Verdicts.f k l0 40).bind fun t584 => (intervalmonlaw28_AlertOnce.l0 k a1 t584 true 0 (⟨#[104, 111, 116]⟩ : ByteArray) 1 ([] : List (S35)) 0 0 0)
theorem intervalmonlaw28_AlertOnce.mono_l : ∀ k, (∀ y0 y1 y2 y3 y4 y5 y6 y7 y8 y9, LeO (intervalmonlaw28_AlertOnce.l0 k y0 y1 y2 y3 y4 y5 y6 y7 y8 y9) (intervalmonlaw28_AlertOnce.l0 (k + 1) y0 y1 y2 y3 y4 y5 y6 y7 y8 y9)) ∧ (∀ y0 y1 y2 y3 y4 y5 y6 y7 y8 y9 y10, LeO (intervalmonlaw28_AlertOnce.j1 k y0 y1 y2 y3 y4 y5 y6 y7 y8 y9 y10) (intervalmonlaw28_AlertOnce.j1 (k + 1) y0 y1 y2 y3 y4 y5 y6 y7 y8 y9 y10))
  | 0 => ⟨fun _ _ _ _ _ _ _ _ _ _ r h => by simp [intervalmonlaw28_AlertOnce.l0] at h, fun _ _ _ _ _ _ _ _ _ _ _ r h => by simp [intervalmonlaw28_AlertOnce.j1] at h⟩
  | k + 1 => by
    obtain ⟨ih0, ih1⟩ := intervalmonlaw28_AlertOnce.mono_l k
    refine ⟨?_, ?_⟩
    · intro y0 y1 y2 y3 y4 y5 y6 y7 y8 y9
      unfold intervalmonlaw28_AlertOnce.l0
      repeat' first
      | (with_reducible exact ih0 _ _ _ _ _ _ _ _ _ _)
      | (with_reducible exact ih1 _ _ _ _ _ _ _ _ _ _ _)
      | (with_reducible exact alert_Step.mono _ _ _ _ _ _ _ _ _)
      | (with_reducible exact alert_Valid.mono _ _ _ _ _ _ _)
      | (with_reducible exact intervalmonref28_Verdicts.mono _ _ _)
      | (with_reducible exact LeO.refl _)
      | (with_reducible exact LeO.none _)
      | (with_reducible refine LeO.ite ?_ ?_)
      | (with_reducible refine LeO.bind ?_ (fun _ => ?_))
      | exact ih0 _ _ _ _ _ _ _ _ _ _
      | exact ih1 _ _ _ _ _ _ _ _ _ _ _
      | exact alert_Step.mono _ _ _ _ _ _ _ _ _
      | exact alert_Valid.mono _ _ _ _ _ _ _
      | exact intervalmonref28_Verdicts.mono _ _ _
      | exact LeO.none _
      | refine LeO.ite ?_ ?_
      | refine LeO.bind ?_ (fun _ => ?_)
    · intro y0 y1 y2 y3 y4 y5 y6 y7 y8 y9 y10
      unfold intervalmonlaw28_AlertOnce.j1
      repeat' first
      | (with_reducible exact ih0 _ _ _ _ _ _ _ _ _ _)
      | (with_reducible exact ih1 _ _ _ _ _ _ _ _ _ _ _)
      | (with_reducible exact alert_Step.mono _ _ _ _ _ _ _ _ _)
      | (with_reducible exact alert_Valid.mono _ _ _ _ _ _ _)
      | (with_reducible exact intervalmonref28_Verdicts.mono _ _ _)
      | (with_reducible exact LeO.refl _)
      | (with_reducible exact LeO.none _)
      | (with_reducible refine LeO.ite ?_ ?_)
      | (with_reducible refine LeO.bind ?_ (fun _ => ?_))
      | exact ih0 _ _ _ _ _ _ _ _ _ _
      | exact ih1 _ _ _ _ _ _ _ _ _ _ _
      | exact alert_Step.mono _ _ _ _ _ _ _ _ _
      | exact alert_Valid.mono _ _ _ _ _ _ _
      | exact intervalmonref28_Verdicts.mono _ _ _
      | exact LeO.none _
      | refine LeO.ite ?_ ?_
      | refine LeO.bind ?_ (fun _ => ?_)
theorem intervalmonlaw28_AlertOnce.mono : ∀ a0 a1 k, LeO (intervalmonlaw28_AlertOnce.f k a0 a1) (intervalmonlaw28_AlertOnce.f (k + 1) a0 a1) := by
  intro a0 a1 k
  obtain ⟨ih0, ih1⟩ := intervalmonlaw28_AlertOnce.mono_l k
  unfold intervalmonlaw28_AlertOnce.f
  repeat' first
      | (with_reducible exact ih0 _ _ _ _ _ _ _ _ _ _)
      | (with_reducible exact ih1 _ _ _ _ _ _ _ _ _ _ _)
      | (with_reducible exact alert_Step.mono _ _ _ _ _ _ _ _ _)
      | (with_reducible exact alert_Valid.mono _ _ _ _ _ _ _)
      | (with_reducible exact intervalmonref28_Verdicts.mono _ _ _)
      | (with_reducible exact LeO.refl _)
      | (with_reducible exact LeO.none _)
      | (with_reducible refine LeO.ite ?_ ?_)
      | (with_reducible refine LeO.bind ?_ (fun _ => ?_))
      | exact ih0 _ _ _ _ _ _ _ _ _ _
      | exact ih1 _ _ _ _ _ _ _ _ _ _ _
      | exact alert_Step.mono _ _ _ _ _ _ _ _ _
      | exact alert_Valid.mono _ _ _ _ _ _ _
      | exact intervalmonref28_Verdicts.mono _ _ _
      | exact LeO.none _
      | refine LeO.ite ?_ ?_
      | refine LeO.bind ?_ (fun _ => ?_)
def intervalmonlaw28_AlertOnce.T7 : Bool × List (List Nat × List Nat) := (true, [([], []), ([], []), ([], []), ([1, 2], [1, 2]), ([3], [3]), ([], []), ([5], [5]), ([], []), ([6, 7], [6, 7]), ([0, 4, 8, 6], [0, 4, 8]), ([9], [9]), ([10], [10]), ([10], [10]), ([], []), ([13, 11, 9, 0, 1, 2, 3, 4, 5, 6, 7, 8, 9, 10, 11, 13], [11, 13]), ([12, 14, 0, 1, 2, 3, 4, 5, 6, 7, 8, 9, 10, 11, 12, 13, 14], [12])])
def intervalmonlaw28_AlertOnce.B7 : List Nat := [0, 0, 0, 6, 14, 0, 32, 0, 224, 511, 1023, 2047, 2047, 0, 12287, 32767]
theorem intervalmonlaw28_AlertOnce.tab7 : rtab .any (opsOf Tryd.f8 7) = intervalmonlaw28_AlertOnce.T7 := by kernel_rfl
theorem intervalmonlaw28_AlertOnce.bits7 : waitsOk intervalmonlaw28_AlertOnce.T7.2 intervalmonlaw28_AlertOnce.B7 = true := by kernel_rfl
set_option maxHeartbeats 8000000 in
set_option maxRecDepth 100000 in
theorem intervalmonlaw28_AlertOnce.calls (k : Nat) (A0 : Option Addr) (c0 : Nat) (l0 : List Int) (a1 : Int) (r : Bool) (w : World) (hLd : Allowed w) (hr0 : Kd.C (Kd.int .i64) w A0 l0.length l0) (hc0 : l0.length ≤ c0) (h : intervalmonlaw28_AlertOnce.f k l0 a1 = some r) :
    Calls Tryd.prog 8 #[.slice A0 l0.length c0, .int .i64 a1] w fun e w' => e = .returned (.bool r) ∧ Below w.heap.size w w' := by
  have hu25 := Tryd.underlying25
  have HLd := Aside0.mk hLd
  clear hLd
  have HR0 := Aside0.mk hr0
  have HC0 := Aside0.mk hc0
  clear hr0 hc0
  have HB := Aside0.mk (Below.refl w.heap.size w)
  have H : ((intervalmonref28_Verdicts.f k l0 40).bind fun t584 => (intervalmonlaw28_AlertOnce.l0 k a1 t584 true 0 (⟨#[104, 111, 116]⟩ : ByteArray) 1 ([] : List (S35)) 0 0 0)) = some r := h
  clear h
  replace H := Option.bind_eq_some_iff.mp H
  obtain ⟨t584, A30, H⟩ := H
  replace H : (intervalmonlaw28_AlertOnce.l0 k a1 t584 true 0 (⟨#[104, 111, 116]⟩ : ByteArray) 1 ([] : List (S35)) 0 0 0) = some r := H
  have A3 := Aside0.mk A30
  clear A30
  have H' := Aside0.mk H
  clear H
  go_enter Tryd.func8, Tryd.ntmps8
  go_wp2_with (first | ((with_reducible refine gate_callee (f := 23) rfl ?_); refine goesL_ (some 12) rfl rfl Tryd.func23 (by kernel_rfl) rfl #[.slice A0 l0.length c0, .int .i64 40] rfl (by (try simp only [List.map_toArray, List.map_cons, List.map_nil]); first | done | rfl | (simp only [List.length_drop, List.length_take]; rfl)) ?_; (with_reducible refine (intervalmonref28_Verdicts.calls k _ _ l0 40 t584 _ ?side1 ?side2 A3.out).mono ?_); (case side1 => repeat (first | exact HR0.out | (with_reducible refine Kd.C_alloc ?_ _) | (with_reducible refine Kd.C_drewN ?_ _) | (with_reducible refine Kd.C_drew ?_))); (case side2 => exact HC0.out); rintro e w4 ⟨v585, rfl, ho0, hb⟩; refine ⟨_, rfl, ?_⟩; have n0_ := Aside0.mk (Kd.R_lower ho0 (below_size (by repeat (first | (with_reducible first | exact HB.out | apply below_alloc | apply pw_below_drewN | apply below_drew1) | exact HB.out)))); have n1_ := Aside0.mk (below_step (by repeat (first | (with_reducible first | exact HB.out | apply below_alloc | apply pw_below_drewN | apply below_drew1) | exact HB.out)) hb); clear HB; have HO586 := n0_; have HB := n1_; clear n0_ n1_; (try clear hb); (try clear hb2); (try clear hk); (try clear hi); (try clear ho0)) | ((with_reducible refine gate_dst (N := 6) rfl ?_); refine box_event ?hg (N := 6) ?hd (cs := #[.string (⟨#[]⟩ : ByteArray), .int .i64 0, .slice none 0 0, .int .i64 0, .int .i64 0, .int .i64 0]) (t := 25) ?hr ?_; (case hd => rfl); (case hg => rfl); (case hr => first | (go_simp; done) | (go_simp; rfl)); intro gb587 hg w5 hbox hb; have n0_ := Aside0.mk (Kd.R_below (by (with_reducible repeat (first | apply Kd.R_alloc | apply Kd.R_drewN | apply Kd.R_drew)); exact HO586.out) hb); have n1_ := Aside0.mk (below_step (by repeat (first | (with_reducible first | exact HB.out | apply below_alloc | apply pw_below_drewN | apply below_drew1) | exact HB.out)) hb); have n2_ := Aside0.mk (hbox); have n3_ := Aside0.mk ((by rw [hg]; exact (below_size (by repeat (first | (with_reducible first | exact HB.out | apply below_alloc | apply pw_below_drewN | apply below_drew1) | exact HB.out))) : w.heap.size ≤ gb587)); have n4_ := Aside0.mk ((by rw [hg]; exact (below_size (by repeat (first | (with_reducible first | exact HB.out | apply below_alloc | apply pw_below_drewN | apply below_drew1) | exact HB.out))) : w.heap.size ≤ gb587)); clear HO586; clear HB; have HO586 := n0_; have HB := n1_; have BK587 := n2_; have GW587 := n3_; have GE587 := n4_; clear n0_ n1_ n2_ n3_ n4_; clear hb hbox hg; have hcz6_0 : w5.cell? ⟨gb587, 0, none⟩ = some (.string (⟨#[]⟩ : ByteArray)) := (blk_cell BK587.out 0).trans rfl; have hcz6_1 : w5.cell? ⟨gb587, 1, none⟩ = some (.int .i64 0) := (blk_cell BK587.out 1).trans rfl; have hcz6_2 : w5.cell? ⟨gb587, 2, none⟩ = some (.slice none 0 0) := (blk_cell BK587.out 2).trans rfl; have hcz6_3 : w5.cell? ⟨gb587, 3, none⟩ = some (.int .i64 0) := (blk_cell BK587.out 3).trans rfl; have hcz6_4 : w5.cell? ⟨gb587, 4, none⟩ = some (.int .i64 0) := (blk_cell BK587.out 4).trans rfl; have hcz6_5 : w5.cell? ⟨gb587, 5, none⟩ = some (.int .i64 0) := (blk_cell BK587.out 5).trans rfl; have hfz6_0 := blk_frozen BK587.out 0; have hfz6_1 := blk_frozen BK587.out 1; have hfz6_2 := blk_frozen BK587.out 2; have hfz6_3 := blk_frozen BK587.out 3; have hfz6_4 := blk_frozen BK587.out 4; have hfz6_5 := blk_frozen BK587.out 5))
  go_loopg [7, 8] k (fun kq v7 v8 w' => ∃ (x7_1 : Bool) (x8_1 : Int) (x588000_1 : ByteArray) (x588001_1 : Int) (x588002_1 : List (S35)) (x588003_1 : Int) (x588004_1 : Int) (x588005_1 : Int) (u588002 : Value), v7 = .bool x7_1 ∧ v8 = .int .i64 x8_1 ∧ Aside0 (intervalmonlaw28_AlertOnce.l0 kq a1 t584 x7_1 x8_1 x588000_1 x588001_1 x588002_1 x588003_1 x588004_1 x588005_1 = some r) ∧ Aside0 (kq ≤ k) ∧ Aside0 (Kd.R (Kd.int .i64) 3 w' w.heap.size (fun _ => True) v585 t584) ∧ Aside0 (Kd.R k35 35 w' w.heap.size (fun _ => True) u588002 x588002_1) ∧ Aside0 (w'.heap[gb587]? = some (.cells #[.string x588000_1, .int .i64 x588001_1, u588002, .int .i64 x588003_1, .int .i64 x588004_1, .int .i64 x588005_1] 25 (0, 0))) ∧ Aside0 (Below w.heap.size w w'))
  case atStart => exact ⟨(true), (0), ((⟨#[104, 111, 116]⟩ : ByteArray)), (1), (([] : List (S35))), (0), (0), (0), (.slice none 0 0), (by first | rfl | (simp; done) | (simp [*]; done)), (by first | rfl | (simp; done) | (simp [*]; done)), H', ⟨Nat.le_refl _⟩, ⟨by (with_reducible repeat (first | apply Kd.R_alloc | apply Kd.R_drewN | apply Kd.R_drew)); exact Kd.R_mono (Kd.R_far (p := ⟨gb587, 5, none⟩) (Kd.R_far (p := ⟨gb587, 4, none⟩) (Kd.R_far (p := ⟨gb587, 3, none⟩) (Kd.R_far (p := ⟨gb587, 2, none⟩) (Kd.R_far (p := ⟨gb587, 1, none⟩) (Kd.R_far (p := ⟨gb587, 0, none⟩) (Kd.R_types HO586.out BK587.out (by decide)) (fun _ hk => hk.2) (.string (⟨#[104, 111, 116]⟩ : ByteArray))) (fun _ hk => hk.2) (.int .i64 1)) (fun _ hk => hk.2) (.slice none 0 0)) (fun _ hk => hk.2) (.int .i64 0)) (fun _ hk => hk.2) (.int .i64 0)) (fun _ hk => hk.2) (.int .i64 0)) (fun _ hk => trivial)⟩, ⟨by first | exact Kd.R_nil _ _ _ _ _ | exact Kd.N_nil _ _ _ _ _ | exact Kd.V_nil _ _ _ _ _ | exact Kd.Q_nil _ _ _ _ _ | exact Kd.S_nil _ _ _ _ _⟩, ⟨by (with_reducible repeat (first | refine blk_drewN ?_ _ | refine blk_drew ?_ | refine blk_alloc ?_ _)); refine blk_put (cs := #[.string (⟨#[104, 111, 116]⟩ : ByteArray), .int .i64 1, .slice none 0 0, .int .i64 0, .int .i64 0, .int .i64 0]) ?_ 5 _ rfl; (with_reducible repeat (first | refine blk_drewN ?_ _ | refine blk_drew ?_ | refine blk_alloc ?_ _)); refine blk_put (cs := #[.string (⟨#[104, 111, 116]⟩ : ByteArray), .int .i64 1, .slice none 0 0, .int .i64 0, .int .i64 0, .int .i64 0]) ?_ 4 _ rfl; (with_reducible repeat (first | refine blk_drewN ?_ _ | refine blk_drew ?_ | refine blk_alloc ?_ _)); refine blk_put (cs := #[.string (⟨#[104, 111, 116]⟩ : ByteArray), .int .i64 1, .slice none 0 0, .int .i64 0, .int .i64 0, .int .i64 0]) ?_ 3 _ rfl; (with_reducible repeat (first | refine blk_drewN ?_ _ | refine blk_drew ?_ | refine blk_alloc ?_ _)); refine blk_put (cs := #[.string (⟨#[104, 111, 116]⟩ : ByteArray), .int .i64 1, .slice none 0 0, .int .i64 0, .int .i64 0, .int .i64 0]) ?_ 2 _ rfl; (with_reducible repeat (first | refine blk_drewN ?_ _ | refine blk_drew ?_ | refine blk_alloc ?_ _)); refine blk_put (cs := #[.string (⟨#[104, 111, 116]⟩ : ByteArray), .int .i64 0, .slice none 0 0, .int .i64 0, .int .i64 0, .int .i64 0]) ?_ 1 _ rfl; (with_reducible repeat (first | refine blk_drewN ?_ _ | refine blk_drew ?_ | refine blk_alloc ?_ _)); refine blk_put (cs := #[.string (⟨#[]⟩ : ByteArray), .int .i64 0, .slice none 0 0, .int .i64 0, .int .i64 0, .int .i64 0]) ?_ 0 _ rfl; (with_reducible repeat (first | refine blk_drewN ?_ _ | refine blk_drew ?_ | refine blk_alloc ?_ _)); exact BK587.out⟩, ⟨by repeat (first | (with_reducible first | exact HB.out | apply below_alloc | apply pw_below_drewN | apply below_drew1 | refine below_set ?_ GE587.out) | exact HB.out)⟩⟩
  case round =>
    clear H'
    try clear c2
    try clear p2
    try clear hcz6_0
    try clear hcz6_1
    try clear hcz6_2
    try clear hcz6_3
    try clear hcz6_4
    try clear hcz6_5
    try clear hfz6_0
    try clear hfz6_1
    try clear hfz6_2
    try clear hfz6_3
    try clear hfz6_4
    try clear hfz6_5
    obtain ⟨x7_1, x8_1, x588000_1, x588001_1, x588002_1, x588003_1, x588004_1, x588005_1, u588002, rfl, rfl, HA, HK1, HO_5, HO_588002, BK587, HB⟩ := hrel
    cases gk with
    | zero => exact absurd HA.out (by simp [intervalmonlaw28_AlertOnce.l0])
    | succ k1 =>
      have H := HA.out
      clear HA
      simp only [intervalmonlaw28_AlertOnce.l0] at H
      by_cases c7 : x8_1 < (t584.length : Int)
      · rw [if_pos c7] at H
        have c7b0 : decide (x8_1 < (t584.length : Int)) = true := decide_eq_true c7
        clear c7
        by_cases c8 : 0 ≤ x8_1
        · rw [if_pos c8] at H
          have c8b0 : decide (0 ≤ x8_1) = true := decide_eq_true c8
          clear c8
          replace H := Option.bind_eq_some_iff.mp H
          obtain ⟨t591, A90, H⟩ := H
          replace H : ((alert_Step.f k1 x588000_1 x588001_1 x588002_1 x588003_1 x588004_1 x588005_1 (rd t584 x8_1) (wrap64 (t591 + x8_1))).bind fun bt592 => (if x7_1 = true then (intervalmonlaw28_AlertOnce.j1 k1 a1 t584 x7_1 x8_1 (bt592.2.2.2.2.2.2 != ((rd t584 x8_1) == 2)) bt592.1 bt592.2.1 bt592.2.2.1 bt592.2.2.2.1 bt592.2.2.2.2.1 bt592.2.2.2.2.2.1) else (intervalmonlaw28_AlertOnce.j1 k1 a1 t584 x7_1 x8_1 (bt592.2.2.2.2.2.2 != false) bt592.1 bt592.2.1 bt592.2.2.1 bt592.2.2.2.1 bt592.2.2.2.2.1 bt592.2.2.2.2.2.1))) = some r := H
          have A9 := Aside0.mk A90
          clear A90
          replace H := Option.bind_eq_some_iff.mp H
          obtain ⟨⟨t592, t593, t594, t597, t598, t599, t600⟩, A100, H⟩ := H
          replace H : (if x7_1 = true then (intervalmonlaw28_AlertOnce.j1 k1 a1 t584 x7_1 x8_1 (t600 != ((rd t584 x8_1) == 2)) t592 t593 t594 t597 t598 t599) else (intervalmonlaw28_AlertOnce.j1 k1 a1 t584 x7_1 x8_1 (t600 != false) t592 t593 t594 t597 t598 t599)) = some r := H
          have A10 := Aside0.mk A100
          clear A100
          have HC11 := Aside0.mk H
          clear H
          obtain ⟨Ao12, co12, eo12⟩ := Kd.R_slice HO_5.out
          subst eo12
          obtain ⟨Ao13, co13, eo13⟩ := Kd.R_slice HO_588002.out
          subst eo13
          try go_wp2
          have n0_ := Aside0.mk (Kd.R_drew HO_5.out)
          have n1_ := Aside0.mk (Kd.R_drew HO_588002.out)
          have n2_ := Aside0.mk (blk_drew BK587.out)
          have n3_ := Aside0.mk (below_drew1 HB.out)
          clear HO_5
          clear HO_588002
          clear BK587
          clear HB
          have HO_5 := n0_
          have HO_588002 := n1_
          have BK587 := n2_
          have HB := n3_
          clear n0_ n1_ n2_ n3_
          have p590 : 0 ≤ (x8_1 : Int) := of_decide_eq_true (by first | (with_reducible assumption) | assumption)
          have q590 : x8_1 < (t584.length : Int) := of_decide_eq_true (by first | (with_reducible assumption) | assumption)
          obtain ⟨Az590, cz590, ez590⟩ := Kd.R_slice HO_5.out
          (first | subst ez590 | (injection ez590 with f1_ f2_ f3_; subst f1_; subst f3_) | skip)
          obtain ⟨ad590, e590, hx590_0⟩ := Kd.at_int (Kd.R_reads' HO_5.out).2.2 x8_1 p590 q590
          cases e590
          replace p590 := eq_true p590
          replace q590 := eq_true q590
          refine start_ (n := 16) (S := fun w' => w'.cell? ⟨gb587, 0, none⟩ = some (.string x588000_1) ∧ w'.cell? ⟨gb587, 1, none⟩ = some (.int .i64 x588001_1) ∧ w'.cell? ⟨gb587, 2, none⟩ = some (.slice Ao13 x588002_1.length co13) ∧ w'.cell? ⟨gb587, 3, none⟩ = some (.int .i64 x588003_1) ∧ w'.cell? ⟨gb587, 4, none⟩ = some (.int .i64 x588004_1) ∧ w'.cell? ⟨gb587, 5, none⟩ = some (.int .i64 x588005_1) ∧ w'.cell? (ad590.add (x8_1).toNat) = some (.int .i64 (rd t584 x8_1))) (ds := []) #[false, false, false, false, false, false, false, false, false, false, false, false, false, false, false, false] (by kernel_rfl) rfl rfl ⟨(blk_cell BK587.out 0).trans rfl, (blk_cell BK587.out 1).trans rfl, (blk_cell BK587.out 2).trans rfl, (blk_cell BK587.out 3).trans rfl, (blk_cell BK587.out 4).trans rfl, (blk_cell BK587.out 5).trans rfl, hx590_0⟩ (fun hHeld => ?_); refine with_tabW intervalmonlaw28_AlertOnce.tab7 intervalmonlaw28_AlertOnce.bits7 (fun HT_ HW_ => ?_)
          generalize wr.drew = w14 at HO_5 HO_588002 BK587 HB hx590_0 hHeld ⊢
          refine pure_ (i := 1) (N := some 22) (v := ?_) (a' := ?_) #[false, true, false, false, false, false, false, false, false, false, false, false, false, false, false, false] rfl rfl (any_of HT_.out (by kernel_rfl)) (fun _ _ _ h => h) (Or.inl ⟨by rfl, ?_⟩) ?_ ?_
          rotate_left
          · intro w'
            go_simp
            with_reducible rfl
          rotate_left
          · simp only [Act.put, List.setIfInBounds_toArray, List.set_cons_zero, List.set_cons_succ, i64_w, i32_w]
            rfl
          refine pure_ (i := 2) (N := some 23) (v := ?_) (a' := ?_) #[false, true, true, false, false, false, false, false, false, false, false, false, false, false, false, false] rfl rfl (any_of HT_.out (by kernel_rfl)) (fun _ _ _ h => h) (Or.inl ⟨by rfl, ?_⟩) ?_ ?_
          rotate_left
          · intro w'
            go_simp
            with_reducible rfl
          rotate_left
          · simp only [Act.put, List.setIfInBounds_toArray, List.set_cons_zero, List.set_cons_succ, i64_w, i32_w]
            rfl
          refine pure_ (i := 3) (N := some 24) (v := ?_) (a' := ?_) #[false, true, true, true, false, false, false, false, false, false, false, false, false, false, false, false] rfl rfl (any_of HT_.out (by kernel_rfl)) (fun _ _ _ h => h) (Or.inl ⟨by rfl, ?_⟩) ?_ ?_
          rotate_left
          · intro w'
            go_simp
            with_reducible rfl
          rotate_left
          · simp only [Act.put, List.setIfInBounds_toArray, List.set_cons_zero, List.set_cons_succ, i64_w, i32_w]
            rfl
          refine pure_ (i := 5) (N := some 26) (v := ?_) (a' := ?_) #[false, true, true, true, false, true, false, false, false, false, false, false, false, false, false, false] rfl rfl (any_of HT_.out (by kernel_rfl)) (fun _ _ _ h => h) (Or.inl ⟨by rfl, ?_⟩) ?_ ?_
          rotate_left
          · intro w'
            go_simp
            with_reducible rfl
          rotate_left
          · simp only [Act.put, List.setIfInBounds_toArray, List.set_cons_zero, List.set_cons_succ, i64_w, i32_w]
            rfl
          refine pure_ (i := 7) (N := some 28) (v := ?_) (a' := ?_) #[false, true, true, true, false, true, false, true, false, false, false, false, false, false, false, false] rfl rfl (any_of HT_.out (by kernel_rfl)) (fun _ _ _ h => h) (Or.inl ⟨by rfl, ?_⟩) ?_ ?_
          rotate_left
          · intro w'
            go_simp
            with_reducible rfl
          rotate_left
          · simp only [Act.put, List.setIfInBounds_toArray, List.set_cons_zero, List.set_cons_succ, i64_w, i32_w]
            rfl
          refine take_ (i := 0) (N := some 21) (v := ?_) (a' := ?_) #[true, true, true, true, false, true, false, true, false, false, false, false, false, false, false, false] rfl rfl (take_ofW HT_.out HW_.out (by kernel_rfl)) (fun _ _ _ h => h) (Or.inl ⟨by rfl, ?_⟩) hHeld ?_ ?_
          rotate_left
          · rintro w' ⟨s0, s1, s2, s3, s4, s5, s6⟩
            go_simp
            with_reducible rfl
          rotate_left
          · simp only [Act.put, List.setIfInBounds_toArray, List.set_cons_zero, List.set_cons_succ, i64_w, i32_w]
            rfl
          refine take_ (i := 4) (N := some 25) (v := ?_) (a' := ?_) #[true, true, true, true, true, true, false, true, false, false, false, false, false, false, false, false] rfl rfl (take_ofW HT_.out HW_.out (by kernel_rfl)) (fun _ _ _ h => h) (Or.inl ⟨by rfl, ?_⟩) hHeld ?_ ?_
          rotate_left
          · rintro w' ⟨s0, s1, s2, s3, s4, s5, s6⟩
            go_simp
            with_reducible rfl
          rotate_left
          · simp only [Act.put, List.setIfInBounds_toArray, List.set_cons_zero, List.set_cons_succ, i64_w, i32_w]
            rfl
          refine join_ (σ := Value × Nat) 2 #[true, true, true, true, true, true, true, true, true, true, true, true, true, true, false, false] (fun s_ => [(27, .int .i64 t591), (30, .tuple #[.agg #[.string t592, .int .i64 t593, s_.1, .int .i64 t597, .int .i64 t598, .int .i64 t599], .bool t600]), (9, .pointer (some ⟨s_.2, 0, none⟩)), (29, .int .i64 (wrap64 (t591 + x8_1))), (20, .tuple #[.agg #[.string t592, .int .i64 t593, s_.1, .int .i64 t597, .int .i64 t598, .int .i64 t599], .bool t600]), (31, .agg #[.string t592, .int .i64 t593, s_.1, .int .i64 t597, .int .i64 t598, .int .i64 t599]), (32, .bool t600)]) (fun s_ w' => (w'.cell? ⟨gb587, 0, none⟩ = some (.string x588000_1) ∧ w'.cell? ⟨gb587, 1, none⟩ = some (.int .i64 x588001_1) ∧ w'.cell? ⟨gb587, 2, none⟩ = some (.slice Ao13 x588002_1.length co13) ∧ w'.cell? ⟨gb587, 3, none⟩ = some (.int .i64 x588003_1) ∧ w'.cell? ⟨gb587, 4, none⟩ = some (.int .i64 x588004_1) ∧ w'.cell? ⟨gb587, 5, none⟩ = some (.int .i64 x588005_1) ∧ w'.cell? (ad590.add (x8_1).toNat) = some (.int .i64 (rd t584 x8_1))) ∧ (Kd.R k35 35 w' w.heap.size (fun k_ => some k_ ≠ (.slice Ao13 x588002_1.length co13 : Value).ownBlock) s_.1 t594) ∧ (Kd.R (Kd.int .i64) 3 w' w.heap.size (fun _ => True) (.slice (some ad590) t584.length co12) t584) ∧ (Kd.R k35 35 w' w.heap.size (fun k_ => some k_ ≠ (s_.1 : Value).ownBlock) (.slice Ao13 x588002_1.length co13) x588002_1) ∧ (w'.heap[gb587]? = some (.cells #[.string x588000_1, .int .i64 x588001_1, .slice Ao13 x588002_1.length co13, .int .i64 x588003_1, .int .i64 x588004_1, .int .i64 x588005_1] 25 (0, 0))) ∧ (w'.heap[s_.2]? = some (.cells #[.string (⟨#[]⟩ : ByteArray), .int .i64 0, .slice none 0 0, .int .i64 0, .int .i64 0, .int .i64 0] 25 (0, 0))) ∧ (w.heap.size ≤ s_.2) ∧ (w.heap.size ≤ s_.2) ∧ (gb587 ≠ s_.2) ∧ (s_.2 ≠ gb587) ∧ (Below w.heap.size w w')) ?_ ?_
          rotate_left
          · intro hCont
            refine two_ (i := 6) (j := 13) (Ni := some 27) (Nj := some 9) #[true, true, true, true, true, true, true, true, false, false, false, false, false, false, false, false] #[true, true, true, true, true, true, false, true, false, false, false, false, false, true, false, false] rfl rfl rfl rfl (two_of HT_.out (by kernel_rfl)) (by decide) (by decide) (fun K hK => ?_) (fun K hK => ?_)
            · skip
              refine goes_ Tryd.func27 (by kernel_rfl) rfl #[.int .i64 a1, .int .i64 1000] (by rfl) rfl rfl (by (try simp only [List.map_toArray, List.map_cons, List.map_nil]); first | done | rfl | (simp only [List.length_drop, List.length_take]; rfl)) ?_
              with_reducible refine (intervalmonref01_Around.calls a1 1000 t591 _ A9.out).mono ?_
              rintro e w' ⟨rfl, ⟨nd, rfl⟩⟩
              refine ⟨_, rfl, ?_⟩
              refine hK.out _ _ ⟨(blk_cell BK587.out 0).trans rfl, (blk_cell BK587.out 1).trans rfl, (blk_cell BK587.out 2).trans rfl, (blk_cell BK587.out 3).trans rfl, (blk_cell BK587.out 4).trans rfl, (blk_cell BK587.out 5).trans rfl, hHeld.2.2.2.2.2.2⟩ (fun hHeld => ?_)
              clear hK K
              refine norm_ (a' := ?_) ?_ ?_
              rotate_left
              · show Act.put _ (some 27) _ = _
                simp only [Act.put, List.setIfInBounds_toArray, List.set_cons_zero, List.set_cons_succ, i64_w, i32_w]
                rfl
              refine pure_ (i := 8) (N := some 29) (v := ?_) (a' := ?_) #[true, true, true, true, true, true, true, true, true, false, false, false, false, false, false, false] rfl rfl (any_of HT_.out (by kernel_rfl)) (fun _ _ _ h => h) (Or.inl ⟨by rfl, ?_⟩) ?_ ?_
              rotate_left
              · intro w'
                go_simp
                with_reducible rfl
              rotate_left
              · simp only [Act.put, List.setIfInBounds_toArray, List.set_cons_zero, List.set_cons_succ, i64_w, i32_w]
                rfl
              refine two_ (i := 9) (j := 13) (Ni := some 30) (Nj := some 9) #[true, true, true, true, true, true, true, true, true, true, false, false, false, false, false, false] #[true, true, true, true, true, true, true, true, true, false, false, false, false, true, false, false] rfl rfl rfl rfl (two_of HT_.out (by kernel_rfl)) (by decide) (by decide) (fun K hK => ?_) (fun K hK => ?_)
              · skip
                refine goes_ Tryd.func18 (by kernel_rfl) rfl #[.agg #[.string x588000_1, .int .i64 x588001_1, .slice Ao13 x588002_1.length co13, .int .i64 x588003_1, .int .i64 x588004_1, .int .i64 x588005_1], .int .i64 (rd t584 x8_1), .int .i64 (wrap64 (t591 + x8_1))] (by rfl) rfl rfl (by (try simp only [List.map_toArray, List.map_cons, List.map_nil]); first | done | rfl | (simp only [List.length_drop, List.length_take]; rfl)) ?_
                with_reducible refine (alert_Step.calls k1 x588000_1 x588001_1 _ _ x588002_1 x588003_1 x588004_1 x588005_1 (rd t584 x8_1) (wrap64 (t591 + x8_1)) t592 t593 t594 t597 t598 t599 t600 _ ?side3 ?side1 ?side2 A10.out).mono ?_
                (case side1 => repeat (first | exact (Kd.R_reads' HO_588002.out).2.2 | (with_reducible refine Kd.C_alloc ?_ _) | (with_reducible refine Kd.C_drewN ?_ _) | (with_reducible refine Kd.C_drew ?_)))
                (case side2 => exact (Kd.R_reads' HO_588002.out).2.1)
                (case side3 => first | exact Allowed.below HLd.out (by repeat (first | (with_reducible first | exact HB.out | apply below_alloc | apply pw_below_drewN | apply below_drew1 | refine below_set ?_ GE587.out) | exact HB.out)) | (repeat (first | exact HLd.out | apply Allowed.drewN | apply Allowed.drew | apply Allowed.alloc)))
                rintro e w15 ⟨v595, rfl, ho0, hb⟩
                have HS6_ := (hb.cell (World.block_lt_of_cell? _ _ (hHeld.2.2.2.2.2.2))).trans (hHeld.2.2.2.2.2.2)
                refine ⟨_, rfl, ?_⟩
                have n0_ := Aside0.mk (Kd.R_below (by (with_reducible repeat (first | apply Kd.R_alloc | apply Kd.R_drewN | apply Kd.R_drew)); exact HO_5.out) hb)
                have n1_ := Aside0.mk (Kd.R_elder' (by (with_reducible repeat (first | apply Kd.R_alloc | apply Kd.R_drewN | apply Kd.R_drew)); exact HO_588002.out) (Kd.R_base ho0) hb)
                have n2_ := Aside0.mk (Kd.R_lower (Kd.R_new' ho0 (Kd.R_lt (by (with_reducible repeat (first | apply Kd.R_alloc | apply Kd.R_drewN | apply Kd.R_drew)); exact HO_588002.out))) (below_size (by repeat (first | (with_reducible first | exact HB.out | apply below_alloc | apply pw_below_drewN | apply below_drew1 | refine below_set ?_ GE587.out) | exact HB.out))))
                have n3_ := Aside0.mk (blk_below (g := gb587) (o := .cells #[.string x588000_1, .int .i64 x588001_1, .slice Ao13 x588002_1.length co13, .int .i64 x588003_1, .int .i64 x588004_1, .int .i64 x588005_1] 25 (0, 0)) (by (with_reducible repeat (first | refine blk_drewN ?_ _ | refine blk_drew ?_ | refine blk_alloc ?_ _)); exact BK587.out) hb)
                have n4_ := Aside0.mk (below_step (by repeat (first | (with_reducible first | exact HB.out | apply below_alloc | apply pw_below_drewN | apply below_drew1 | refine below_set ?_ GE587.out) | exact HB.out)) hb)
                clear HO_5
                clear HO_588002
                clear BK587
                clear HB
                have HO_5 := n0_
                have HO_588002 := n1_
                have HO596 := n2_
                have BK587 := n3_
                have HB := n4_
                clear n0_ n1_ n2_ n3_ n4_
                (try clear hb)
                (try clear hb2)
                (try clear hk)
                (try clear hi)
                (try clear ho0)
                refine hK.out _ _ ⟨(blk_cell BK587.out 0).trans rfl, (blk_cell BK587.out 1).trans rfl, (blk_cell BK587.out 2).trans rfl, (blk_cell BK587.out 3).trans rfl, (blk_cell BK587.out 4).trans rfl, (blk_cell BK587.out 5).trans rfl, HS6_⟩ (fun hHeld => ?_)
                clear hK K
                refine norm_ (a' := ?_) ?_ ?_
                rotate_left
                · show Act.put _ (some 30) _ = _
                  simp only [Act.put, List.setIfInBounds_toArray, List.set_cons_zero, List.set_cons_succ, i64_w, i32_w]
                  rfl
                refine pure_ (i := 10) (N := some 20) (v := ?_) (a' := ?_) #[true, true, true, true, true, true, true, true, true, true, true, false, false, false, false, false] rfl rfl (any_of HT_.out (by kernel_rfl)) (fun _ _ _ h => h) (Or.inl ⟨by rfl, ?_⟩) ?_ ?_
                rotate_left
                · intro w'
                  go_simp
                  with_reducible rfl
                rotate_left
                · simp only [Act.put, List.setIfInBounds_toArray, List.set_cons_zero, List.set_cons_succ, i64_w, i32_w]
                  rfl
                refine pure_ (i := 11) (N := some 31) (v := ?_) (a' := ?_) #[true, true, true, true, true, true, true, true, true, true, true, true, false, false, false, false] rfl rfl (any_of HT_.out (by kernel_rfl)) (fun _ _ _ h => h) (Or.inl ⟨by rfl, ?_⟩) ?_ ?_
                rotate_left
                · intro w'
                  go_simp
                  with_reducible rfl
                rotate_left
                · simp only [Act.put, List.setIfInBounds_toArray, List.set_cons_zero, List.set_cons_succ, i64_w, i32_w]
                  rfl
                refine pure_ (i := 12) (N := some 32) (v := ?_) (a' := ?_) #[true, true, true, true, true, true, true, true, true, true, true, true, true, false, false, false] rfl rfl (any_of HT_.out (by kernel_rfl)) (fun _ _ _ h => h) (Or.inl ⟨by rfl, ?_⟩) ?_ ?_
                rotate_left
                · intro w'
                  go_simp
                  with_reducible rfl
                rotate_left
                · simp only [Act.put, List.setIfInBounds_toArray, List.set_cons_zero, List.set_cons_succ, i64_w, i32_w]
                  rfl
                refine one_ (i := 13) (N := some 9) #[true, true, true, true, true, true, true, true, true, true, true, true, true, true, false, false] rfl rfl (one_of HT_.out (by kernel_rfl)) (by decide) (fun K hK => ?_)
                refine box_step ?hg (N := 9) ?hd (cs := #[.string (⟨#[]⟩ : ByteArray), .int .i64 0, .slice none 0 0, .int .i64 0, .int .i64 0, .int .i64 0]) (t := 25) ?hr ?_; (case hd => rfl); (case hg => rfl); (case hr => first | (go_simp; done) | (go_simp; rfl))
                intro gb601 hg w16 hbox hb
                have HS6_ := (hb.cell (World.block_lt_of_cell? _ _ (hHeld.2.2.2.2.2.2))).trans (hHeld.2.2.2.2.2.2)
                have n0_ := Aside0.mk (Kd.R_below (by (with_reducible repeat (first | apply Kd.R_alloc | apply Kd.R_drewN | apply Kd.R_drew)); exact HO_5.out) hb)
                have n1_ := Aside0.mk (Kd.R_below (by (with_reducible repeat (first | apply Kd.R_alloc | apply Kd.R_drewN | apply Kd.R_drew)); exact HO_588002.out) hb)
                have n2_ := Aside0.mk (Kd.R_below (by (with_reducible repeat (first | apply Kd.R_alloc | apply Kd.R_drewN | apply Kd.R_drew)); exact HO596.out) hb)
                have n3_ := Aside0.mk (blk_below (g := gb587) (o := .cells #[.string x588000_1, .int .i64 x588001_1, .slice Ao13 x588002_1.length co13, .int .i64 x588003_1, .int .i64 x588004_1, .int .i64 x588005_1] 25 (0, 0)) (by (with_reducible repeat (first | refine blk_drewN ?_ _ | refine blk_drew ?_ | refine blk_alloc ?_ _)); exact BK587.out) hb)
                have n4_ := Aside0.mk (below_step (by repeat (first | (with_reducible first | exact HB.out | apply below_alloc | apply pw_below_drewN | apply below_drew1 | refine below_set ?_ GE587.out) | exact HB.out)) hb)
                have n5_ := Aside0.mk (hbox)
                have n6_ := Aside0.mk ((by rw [hg]; exact (below_size (by repeat (first | (with_reducible first | exact HB.out | apply below_alloc | apply pw_below_drewN | apply below_drew1 | refine below_set ?_ GE587.out) | exact HB.out))) : w.heap.size ≤ gb601))
                have n7_ := Aside0.mk ((by rw [hg]; exact (below_size (by repeat (first | (with_reducible first | exact HB.out | apply below_alloc | apply pw_below_drewN | apply below_drew1 | refine below_set ?_ GE587.out) | exact HB.out))) : w.heap.size ≤ gb601))
                have n8_ := Aside0.mk ((by rw [hg]; exact Nat.ne_of_lt (blk_lt (g := gb587) (o := .cells #[.string x588000_1, .int .i64 x588001_1, .slice Ao13 x588002_1.length co13, .int .i64 x588003_1, .int .i64 x588004_1, .int .i64 x588005_1] 25 (0, 0)) (by (with_reducible repeat (first | refine blk_drewN ?_ _ | refine blk_drew ?_ | refine blk_alloc ?_ _)); exact BK587.out)) : gb587 ≠ gb601))
                have n9_ := Aside0.mk ((by rw [hg]; exact Nat.ne_of_gt (blk_lt (g := gb587) (o := .cells #[.string x588000_1, .int .i64 x588001_1, .slice Ao13 x588002_1.length co13, .int .i64 x588003_1, .int .i64 x588004_1, .int .i64 x588005_1] 25 (0, 0)) (by (with_reducible repeat (first | refine blk_drewN ?_ _ | refine blk_drew ?_ | refine blk_alloc ?_ _)); exact BK587.out)) : gb601 ≠ gb587))
                clear HO_5
                clear HO_588002
                clear HO596
                clear BK587
                clear HB
                have HO_5 := n0_
                have HO_588002 := n1_
                have HO596 := n2_
                have BK587 := n3_
                have HB := n4_
                have BK601 := n5_
                have GW601 := n6_
                have GE601 := n7_
                have NB587_601 := n8_
                have NB601_587 := n9_
                clear n0_ n1_ n2_ n3_ n4_ n5_ n6_ n7_ n8_ n9_
                clear hb hbox hg
                refine hK.out _ _ ⟨(blk_cell BK587.out 0).trans rfl, (blk_cell BK587.out 1).trans rfl, (blk_cell BK587.out 2).trans rfl, (blk_cell BK587.out 3).trans rfl, (blk_cell BK587.out 4).trans rfl, (blk_cell BK587.out 5).trans rfl, HS6_⟩ (fun hHeld => ?_)
                clear hK K
                refine norm_ (a' := ?_) ?_ ?_
                rotate_left
                · show Act.put _ (some 9) _ = _
                  simp only [Act.put, List.setIfInBounds_toArray, List.set_cons_zero, List.set_cons_succ, i64_w, i32_w]
                  rfl
                exact norm_ (by simp only [putAll, Act.put, List.setIfInBounds_toArray, List.set_cons_zero, List.set_cons_succ]) (hCont (v595, gb601) _ ⟨hHeld, (by (with_reducible repeat (first | apply Kd.R_alloc | apply Kd.R_drewN | apply Kd.R_drew)); exact Kd.R_mono HO596.out (fun _ hk => hk.2)), (by (with_reducible repeat (first | apply Kd.R_alloc | apply Kd.R_drewN | apply Kd.R_drew)); exact HO_5.out), (by (with_reducible repeat (first | apply Kd.R_alloc | apply Kd.R_drewN | apply Kd.R_drew)); exact Kd.R_mono HO_588002.out (fun _ hk => hk.2)), (by (with_reducible repeat (first | refine blk_drewN ?_ _ | refine blk_drew ?_ | refine blk_alloc ?_ _)); exact BK587.out), (by (with_reducible repeat (first | refine blk_drewN ?_ _ | refine blk_drew ?_ | refine blk_alloc ?_ _)); exact BK601.out), GW601.out, GE601.out, NB587_601.out, NB601_587.out, (by repeat (first | (with_reducible first | exact HB.out | apply below_alloc | apply pw_below_drewN | apply below_drew1 | refine below_set ?_ GE587.out | refine below_set ?_ GE601.out) | exact HB.out))⟩)
              · skip
                refine box_step ?hg (N := 9) ?hd (cs := #[.string (⟨#[]⟩ : ByteArray), .int .i64 0, .slice none 0 0, .int .i64 0, .int .i64 0, .int .i64 0]) (t := 25) ?hr ?_; (case hd => rfl); (case hg => rfl); (case hr => first | (go_simp; done) | (go_simp; rfl))
                intro gb601 hg w15 hbox hb
                have HS6_ := (hb.cell (World.block_lt_of_cell? _ _ (hHeld.2.2.2.2.2.2))).trans (hHeld.2.2.2.2.2.2)
                have n0_ := Aside0.mk (Kd.R_below (by (with_reducible repeat (first | apply Kd.R_alloc | apply Kd.R_drewN | apply Kd.R_drew)); exact HO_5.out) hb)
                have n1_ := Aside0.mk (Kd.R_below (by (with_reducible repeat (first | apply Kd.R_alloc | apply Kd.R_drewN | apply Kd.R_drew)); exact HO_588002.out) hb)
                have n2_ := Aside0.mk (blk_below (g := gb587) (o := .cells #[.string x588000_1, .int .i64 x588001_1, .slice Ao13 x588002_1.length co13, .int .i64 x588003_1, .int .i64 x588004_1, .int .i64 x588005_1] 25 (0, 0)) (by (with_reducible repeat (first | refine blk_drewN ?_ _ | refine blk_drew ?_ | refine blk_alloc ?_ _)); exact BK587.out) hb)
                have n3_ := Aside0.mk (below_step (by repeat (first | (with_reducible first | exact HB.out | apply below_alloc | apply pw_below_drewN | apply below_drew1 | refine below_set ?_ GE587.out) | exact HB.out)) hb)
                have n4_ := Aside0.mk (hbox)
                have n5_ := Aside0.mk ((by rw [hg]; exact (below_size (by repeat (first | (with_reducible first | exact HB.out | apply below_alloc | apply pw_below_drewN | apply below_drew1 | refine below_set ?_ GE587.out) | exact HB.out))) : w.heap.size ≤ gb601))
                have n6_ := Aside0.mk ((by rw [hg]; exact (below_size (by repeat (first | (with_reducible first | exact HB.out | apply below_alloc | apply pw_below_drewN | apply below_drew1 | refine below_set ?_ GE587.out) | exact HB.out))) : w.heap.size ≤ gb601))
                have n7_ := Aside0.mk ((by rw [hg]; exact Nat.ne_of_lt (blk_lt (g := gb587) (o := .cells #[.string x588000_1, .int .i64 x588001_1, .slice Ao13 x588002_1.length co13, .int .i64 x588003_1, .int .i64 x588004_1, .int .i64 x588005_1] 25 (0, 0)) (by (with_reducible repeat (first | refine blk_drewN ?_ _ | refine blk_drew ?_ | refine blk_alloc ?_ _)); exact BK587.out)) : gb587 ≠ gb601))
                have n8_ := Aside0.mk ((by rw [hg]; exact Nat.ne_of_gt (blk_lt (g := gb587) (o := .cells #[.string x588000_1, .int .i64 x588001_1, .slice Ao13 x588002_1.length co13, .int .i64 x588003_1, .int .i64 x588004_1, .int .i64 x588005_1] 25 (0, 0)) (by (with_reducible repeat (first | refine blk_drewN ?_ _ | refine blk_drew ?_ | refine blk_alloc ?_ _)); exact BK587.out)) : gb601 ≠ gb587))
                clear HO_5
                clear HO_588002
                clear BK587
                clear HB
                have HO_5 := n0_
                have HO_588002 := n1_
                have BK587 := n2_
                have HB := n3_
                have BK601 := n4_
                have GW601 := n5_
                have GE601 := n6_
                have NB587_601 := n7_
                have NB601_587 := n8_
                clear n0_ n1_ n2_ n3_ n4_ n5_ n6_ n7_ n8_
                clear hb hbox hg
                refine hK.out _ _ ⟨(blk_cell BK587.out 0).trans rfl, (blk_cell BK587.out 1).trans rfl, (blk_cell BK587.out 2).trans rfl, (blk_cell BK587.out 3).trans rfl, (blk_cell BK587.out 4).trans rfl, (blk_cell BK587.out 5).trans rfl, HS6_⟩ (fun hHeld => ?_)
                clear hK K
                refine norm_ (a' := ?_) ?_ ?_
                rotate_left
                · show Act.put _ (some 9) _ = _
                  simp only [Act.put, List.setIfInBounds_toArray, List.set_cons_zero, List.set_cons_succ, i64_w, i32_w]
                  rfl
                refine one_ (i := 9) (N := some 30) #[true, true, true, true, true, true, true, true, true, true, false, false, false, true, false, false] rfl rfl (one_of HT_.out (by kernel_rfl)) (by decide) (fun K hK => ?_)
                refine goes_ Tryd.func18 (by kernel_rfl) rfl #[.agg #[.string x588000_1, .int .i64 x588001_1, .slice Ao13 x588002_1.length co13, .int .i64 x588003_1, .int .i64 x588004_1, .int .i64 x588005_1], .int .i64 (rd t584 x8_1), .int .i64 (wrap64 (t591 + x8_1))] (by rfl) rfl rfl (by (try simp only [List.map_toArray, List.map_cons, List.map_nil]); first | done | rfl | (simp only [List.length_drop, List.length_take]; rfl)) ?_
                with_reducible refine (alert_Step.calls k1 x588000_1 x588001_1 _ _ x588002_1 x588003_1 x588004_1 x588005_1 (rd t584 x8_1) (wrap64 (t591 + x8_1)) t592 t593 t594 t597 t598 t599 t600 _ ?side3 ?side1 ?side2 A10.out).mono ?_
                (case side1 => repeat (first | exact (Kd.R_reads' HO_588002.out).2.2 | (with_reducible refine Kd.C_alloc ?_ _) | (with_reducible refine Kd.C_drewN ?_ _) | (with_reducible refine Kd.C_drew ?_)))
                (case side2 => exact (Kd.R_reads' HO_588002.out).2.1)
                (case side3 => first | exact Allowed.below HLd.out (by repeat (first | (with_reducible first | exact HB.out | apply below_alloc | apply pw_below_drewN | apply below_drew1 | refine below_set ?_ GE587.out | refine below_set ?_ GE601.out) | exact HB.out)) | (repeat (first | exact HLd.out | apply Allowed.drewN | apply Allowed.drew | apply Allowed.alloc)))
                rintro e w16 ⟨v595, rfl, ho0, hb⟩
                have HS6_ := (hb.cell (World.block_lt_of_cell? _ _ (hHeld.2.2.2.2.2.2))).trans (hHeld.2.2.2.2.2.2)
                refine ⟨_, rfl, ?_⟩
                have n0_ := Aside0.mk (Kd.R_below (by (with_reducible repeat (first | apply Kd.R_alloc | apply Kd.R_drewN | apply Kd.R_drew)); exact HO_5.out) hb)
                have n1_ := Aside0.mk (Kd.R_elder' (by (with_reducible repeat (first | apply Kd.R_alloc | apply Kd.R_drewN | apply Kd.R_drew)); exact HO_588002.out) (Kd.R_base ho0) hb)
                have n2_ := Aside0.mk (Kd.R_lower (Kd.R_new' ho0 (Kd.R_lt (by (with_reducible repeat (first | apply Kd.R_alloc | apply Kd.R_drewN | apply Kd.R_drew)); exact HO_588002.out))) (below_size (by repeat (first | (with_reducible first | exact HB.out | apply below_alloc | apply pw_below_drewN | apply below_drew1 | refine below_set ?_ GE587.out | refine below_set ?_ GE601.out) | exact HB.out))))
                have n3_ := Aside0.mk (blk_below (g := gb587) (o := .cells #[.string x588000_1, .int .i64 x588001_1, .slice Ao13 x588002_1.length co13, .int .i64 x588003_1, .int .i64 x588004_1, .int .i64 x588005_1] 25 (0, 0)) (by (with_reducible repeat (first | refine blk_drewN ?_ _ | refine blk_drew ?_ | refine blk_alloc ?_ _)); exact BK587.out) hb)
                have n4_ := Aside0.mk (blk_below (g := gb601) (o := .cells #[.string (⟨#[]⟩ : ByteArray), .int .i64 0, .slice none 0 0, .int .i64 0, .int .i64 0, .int .i64 0] 25 (0, 0)) (by (with_reducible repeat (first | refine blk_drewN ?_ _ | refine blk_drew ?_ | refine blk_alloc ?_ _)); exact BK601.out) hb)
                have n5_ := Aside0.mk (below_step (by repeat (first | (with_reducible first | exact HB.out | apply below_alloc | apply pw_below_drewN | apply below_drew1 | refine below_set ?_ GE587.out | refine below_set ?_ GE601.out) | exact HB.out)) hb)
                clear HO_5
                clear HO_588002
                clear BK587
                clear BK601
                clear HB
                have HO_5 := n0_
                have HO_588002 := n1_
                have HO596 := n2_
                have BK587 := n3_
                have BK601 := n4_
                have HB := n5_
                clear n0_ n1_ n2_ n3_ n4_ n5_
                (try clear hb)
                (try clear hb2)
                (try clear hk)
                (try clear hi)
                (try clear ho0)
                refine hK.out _ _ ⟨(blk_cell BK587.out 0).trans rfl, (blk_cell BK587.out 1).trans rfl, (blk_cell BK587.out 2).trans rfl, (blk_cell BK587.out 3).trans rfl, (blk_cell BK587.out 4).trans rfl, (blk_cell BK587.out 5).trans rfl, HS6_⟩ (fun hHeld => ?_)
                clear hK K
                refine norm_ (a' := ?_) ?_ ?_
                rotate_left
                · show Act.put _ (some 30) _ = _
                  simp only [Act.put, List.setIfInBounds_toArray, List.set_cons_zero, List.set_cons_succ, i64_w, i32_w]
                  rfl
                refine pure_ (i := 10) (N := some 20) (v := ?_) (a' := ?_) #[true, true, true, true, true, true, true, true, true, true, true, false, false, true, false, false] rfl rfl (any_of HT_.out (by kernel_rfl)) (fun _ _ _ h => h) (Or.inl ⟨by rfl, ?_⟩) ?_ ?_
                rotate_left
                · intro w'
                  go_simp
                  with_reducible rfl
                rotate_left
                · simp only [Act.put, List.setIfInBounds_toArray, List.set_cons_zero, List.set_cons_succ, i64_w, i32_w]
                  rfl
                refine pure_ (i := 11) (N := some 31) (v := ?_) (a' := ?_) #[true, true, true, true, true, true, true, true, true, true, true, true, false, true, false, false] rfl rfl (any_of HT_.out (by kernel_rfl)) (fun _ _ _ h => h) (Or.inl ⟨by rfl, ?_⟩) ?_ ?_
                rotate_left
                · intro w'
                  go_simp
                  with_reducible rfl
                rotate_left
                · simp only [Act.put, List.setIfInBounds_toArray, List.set_cons_zero, List.set_cons_succ, i64_w, i32_w]
                  rfl
                refine pure_ (i := 12) (N := some 32) (v := ?_) (a' := ?_) #[true, true, true, true, true, true, true, true, true, true, true, true, true, true, false, false] rfl rfl (any_of HT_.out (by kernel_rfl)) (fun _ _ _ h => h) (Or.inl ⟨by rfl, ?_⟩) ?_ ?_
                rotate_left
                · intro w'
                  go_simp
                  with_reducible rfl
                rotate_left
                · simp only [Act.put, List.setIfInBounds_toArray, List.set_cons_zero, List.set_cons_succ, i64_w, i32_w]
                  rfl
                exact norm_ (by simp only [putAll, Act.put, List.setIfInBounds_toArray, List.set_cons_zero, List.set_cons_succ]) (hCont (v595, gb601) _ ⟨hHeld, (by (with_reducible repeat (first | apply Kd.R_alloc | apply Kd.R_drewN | apply Kd.R_drew)); exact Kd.R_mono HO596.out (fun _ hk => hk.2)), (by (with_reducible repeat (first | apply Kd.R_alloc | apply Kd.R_drewN | apply Kd.R_drew)); exact HO_5.out), (by (with_reducible repeat (first | apply Kd.R_alloc | apply Kd.R_drewN | apply Kd.R_drew)); exact Kd.R_mono HO_588002.out (fun _ hk => hk.2)), (by (with_reducible repeat (first | refine blk_drewN ?_ _ | refine blk_drew ?_ | refine blk_alloc ?_ _)); exact BK587.out), (by (with_reducible repeat (first | refine blk_drewN ?_ _ | refine blk_drew ?_ | refine blk_alloc ?_ _)); exact BK601.out), GW601.out, GE601.out, NB587_601.out, NB601_587.out, (by repeat (first | (with_reducible first | exact HB.out | apply below_alloc | apply pw_below_drewN | apply below_drew1 | refine below_set ?_ GE587.out | refine below_set ?_ GE601.out) | exact HB.out))⟩)
            · skip
              refine box_step ?hg (N := 9) ?hd (cs := #[.string (⟨#[]⟩ : ByteArray), .int .i64 0, .slice none 0 0, .int .i64 0, .int .i64 0, .int .i64 0]) (t := 25) ?hr ?_; (case hd => rfl); (case hg => rfl); (case hr => first | (go_simp; done) | (go_simp; rfl))
              intro gb601 hg w15 hbox hb
              have HS6_ := (hb.cell (World.block_lt_of_cell? _ _ (hHeld.2.2.2.2.2.2))).trans (hHeld.2.2.2.2.2.2)
              have n0_ := Aside0.mk (Kd.R_below (by (with_reducible repeat (first | apply Kd.R_alloc | apply Kd.R_drewN | apply Kd.R_drew)); exact HO_5.out) hb)
              have n1_ := Aside0.mk (Kd.R_below (by (with_reducible repeat (first | apply Kd.R_alloc | apply Kd.R_drewN | apply Kd.R_drew)); exact HO_588002.out) hb)
              have n2_ := Aside0.mk (blk_below (g := gb587) (o := .cells #[.string x588000_1, .int .i64 x588001_1, .slice Ao13 x588002_1.length co13, .int .i64 x588003_1, .int .i64 x588004_1, .int .i64 x588005_1] 25 (0, 0)) (by (with_reducible repeat (first | refine blk_drewN ?_ _ | refine blk_drew ?_ | refine blk_alloc ?_ _)); exact BK587.out) hb)
              have n3_ := Aside0.mk (below_step (by repeat (first | (with_reducible first | exact HB.out | apply below_alloc | apply pw_below_drewN | apply below_drew1 | refine below_set ?_ GE587.out) | exact HB.out)) hb)
              have n4_ := Aside0.mk (hbox)
              have n5_ := Aside0.mk ((by rw [hg]; exact (below_size (by repeat (first | (with_reducible first | exact HB.out | apply below_alloc | apply pw_below_drewN | apply below_drew1 | refine below_set ?_ GE587.out) | exact HB.out))) : w.heap.size ≤ gb601))
              have n6_ := Aside0.mk ((by rw [hg]; exact (below_size (by repeat (first | (with_reducible first | exact HB.out | apply below_alloc | apply pw_below_drewN | apply below_drew1 | refine below_set ?_ GE587.out) | exact HB.out))) : w.heap.size ≤ gb601))
              have n7_ := Aside0.mk ((by rw [hg]; exact Nat.ne_of_lt (blk_lt (g := gb587) (o := .cells #[.string x588000_1, .int .i64 x588001_1, .slice Ao13 x588002_1.length co13, .int .i64 x588003_1, .int .i64 x588004_1, .int .i64 x588005_1] 25 (0, 0)) (by (with_reducible repeat (first | refine blk_drewN ?_ _ | refine blk_drew ?_ | refine blk_alloc ?_ _)); exact BK587.out)) : gb587 ≠ gb601))
              have n8_ := Aside0.mk ((by rw [hg]; exact Nat.ne_of_gt (blk_lt (g := gb587) (o := .cells #[.string x588000_1, .int .i64 x588001_1, .slice Ao13 x588002_1.length co13, .int .i64 x588003_1, .int .i64 x588004_1, .int .i64 x588005_1] 25 (0, 0)) (by (with_reducible repeat (first | refine blk_drewN ?_ _ | refine blk_drew ?_ | refine blk_alloc ?_ _)); exact BK587.out)) : gb601 ≠ gb587))
              clear HO_5
              clear HO_588002
              clear BK587
              clear HB
              have HO_5 := n0_
              have HO_588002 := n1_
              have BK587 := n2_
              have HB := n3_
              have BK601 := n4_
              have GW601 := n5_
              have GE601 := n6_
              have NB587_601 := n7_
              have NB601_587 := n8_
              clear n0_ n1_ n2_ n3_ n4_ n5_ n6_ n7_ n8_
              clear hb hbox hg
              refine hK.out _ _ ⟨(blk_cell BK587.out 0).trans rfl, (blk_cell BK587.out 1).trans rfl, (blk_cell BK587.out 2).trans rfl, (blk_cell BK587.out 3).trans rfl, (blk_cell BK587.out 4).trans rfl, (blk_cell BK587.out 5).trans rfl, HS6_⟩ (fun hHeld => ?_)
              clear hK K
              refine norm_ (a' := ?_) ?_ ?_
              rotate_left
              · show Act.put _ (some 9) _ = _
                simp only [Act.put, List.setIfInBounds_toArray, List.set_cons_zero, List.set_cons_succ, i64_w, i32_w]
                rfl
              refine one_ (i := 6) (N := some 27) #[true, true, true, true, true, true, true, true, false, false, false, false, false, true, false, false] rfl rfl (one_of HT_.out (by kernel_rfl)) (by decide) (fun K hK => ?_)
              refine goes_ Tryd.func27 (by kernel_rfl) rfl #[.int .i64 a1, .int .i64 1000] (by rfl) rfl rfl (by (try simp only [List.map_toArray, List.map_cons, List.map_nil]); first | done | rfl | (simp only [List.length_drop, List.length_take]; rfl)) ?_
              with_reducible refine (intervalmonref01_Around.calls a1 1000 t591 _ A9.out).mono ?_
              rintro e w' ⟨rfl, ⟨nd, rfl⟩⟩
              refine ⟨_, rfl, ?_⟩
              refine hK.out _ _ ⟨(blk_cell BK587.out 0).trans rfl, (blk_cell BK587.out 1).trans rfl, (blk_cell BK587.out 2).trans rfl, (blk_cell BK587.out 3).trans rfl, (blk_cell BK587.out 4).trans rfl, (blk_cell BK587.out 5).trans rfl, hHeld.2.2.2.2.2.2⟩ (fun hHeld => ?_)
              clear hK K
              refine norm_ (a' := ?_) ?_ ?_
              rotate_left
              · show Act.put _ (some 27) _ = _
                simp only [Act.put, List.setIfInBounds_toArray, List.set_cons_zero, List.set_cons_succ, i64_w, i32_w]
                rfl
              refine pure_ (i := 8) (N := some 29) (v := ?_) (a' := ?_) #[true, true, true, true, true, true, true, true, true, false, false, false, false, true, false, false] rfl rfl (any_of HT_.out (by kernel_rfl)) (fun _ _ _ h => h) (Or.inl ⟨by rfl, ?_⟩) ?_ ?_
              rotate_left
              · intro w'
                go_simp
                with_reducible rfl
              rotate_left
              · simp only [Act.put, List.setIfInBounds_toArray, List.set_cons_zero, List.set_cons_succ, i64_w, i32_w]
                rfl
              refine one_ (i := 9) (N := some 30) #[true, true, true, true, true, true, true, true, true, true, false, false, false, true, false, false] rfl rfl (one_of HT_.out (by kernel_rfl)) (by decide) (fun K hK => ?_)
              refine goes_ Tryd.func18 (by kernel_rfl) rfl #[.agg #[.string x588000_1, .int .i64 x588001_1, .slice Ao13 x588002_1.length co13, .int .i64 x588003_1, .int .i64 x588004_1, .int .i64 x588005_1], .int .i64 (rd t584 x8_1), .int .i64 (wrap64 (t591 + x8_1))] (by rfl) rfl rfl (by (try simp only [List.map_toArray, List.map_cons, List.map_nil]); first | done | rfl | (simp only [List.length_drop, List.length_take]; rfl)) ?_
              with_reducible refine (alert_Step.calls k1 x588000_1 x588001_1 _ _ x588002_1 x588003_1 x588004_1 x588005_1 (rd t584 x8_1) (wrap64 (t591 + x8_1)) t592 t593 t594 t597 t598 t599 t600 _ ?side3 ?side1 ?side2 A10.out).mono ?_
              (case side1 => repeat (first | exact (Kd.R_reads' HO_588002.out).2.2 | (with_reducible refine Kd.C_alloc ?_ _) | (with_reducible refine Kd.C_drewN ?_ _) | (with_reducible refine Kd.C_drew ?_)))
              (case side2 => exact (Kd.R_reads' HO_588002.out).2.1)
              (case side3 => first | exact Allowed.below HLd.out (by repeat (first | (with_reducible first | exact HB.out | apply below_alloc | apply pw_below_drewN | apply below_drew1 | refine below_set ?_ GE587.out | refine below_set ?_ GE601.out) | exact HB.out)) | (repeat (first | exact HLd.out | apply Allowed.drewN | apply Allowed.drew | apply Allowed.alloc)))
              rintro e w16 ⟨v595, rfl, ho0, hb⟩
              have HS6_ := (hb.cell (World.block_lt_of_cell? _ _ (hHeld.2.2.2.2.2.2))).trans (hHeld.2.2.2.2.2.2)
              refine ⟨_, rfl, ?_⟩
              have n0_ := Aside0.mk (Kd.R_below (by (with_reducible repeat (first | apply Kd.R_alloc | apply Kd.R_drewN | apply Kd.R_drew)); exact HO_5.out) hb)
              have n1_ := Aside0.mk (Kd.R_elder' (by (with_reducible repeat (first | apply Kd.R_alloc | apply Kd.R_drewN | apply Kd.R_drew)); exact HO_588002.out) (Kd.R_base ho0) hb)
              have n2_ := Aside0.mk (Kd.R_lower (Kd.R_new' ho0 (Kd.R_lt (by (with_reducible repeat (first | apply Kd.R_alloc | apply Kd.R_drewN | apply Kd.R_drew)); exact HO_588002.out))) (below_size (by repeat (first | (with_reducible first | exact HB.out | apply below_alloc | apply pw_below_drewN | apply below_drew1 | refine below_set ?_ GE587.out | refine below_set ?_ GE601.out) | exact HB.out))))
              have n3_ := Aside0.mk (blk_below (g := gb587) (o := .cells #[.string x588000_1, .int .i64 x588001_1, .slice Ao13 x588002_1.length co13, .int .i64 x588003_1, .int .i64 x588004_1, .int .i64 x588005_1] 25 (0, 0)) (by (with_reducible repeat (first | refine blk_drewN ?_ _ | refine blk_drew ?_ | refine blk_alloc ?_ _)); exact BK587.out) hb)
              have n4_ := Aside0.mk (blk_below (g := gb601) (o := .cells #[.string (⟨#[]⟩ : ByteArray), .int .i64 0, .slice none 0 0, .int .i64 0, .int .i64 0, .int .i64 0] 25 (0, 0)) (by (with_reducible repeat (first | refine blk_drewN ?_ _ | refine blk_drew ?_ | refine blk_alloc ?_ _)); exact BK601.out) hb)
              have n5_ := Aside0.mk (below_step (by repeat (first | (with_reducible first | exact HB.out | apply below_alloc | apply pw_below_drewN | apply below_drew1 | refine below_set ?_ GE587.out | refine below_set ?_ GE601.out) | exact HB.out)) hb)
              clear HO_5
              clear HO_588002
              clear BK587
              clear BK601
              clear HB
              have HO_5 := n0_
              have HO_588002 := n1_
              have HO596 := n2_
              have BK587 := n3_
              have BK601 := n4_
              have HB := n5_
              clear n0_ n1_ n2_ n3_ n4_ n5_
              (try clear hb)
              (try clear hb2)
              (try clear hk)
              (try clear hi)
              (try clear ho0)
              refine hK.out _ _ ⟨(blk_cell BK587.out 0).trans rfl, (blk_cell BK587.out 1).trans rfl, (blk_cell BK587.out 2).trans rfl, (blk_cell BK587.out 3).trans rfl, (blk_cell BK587.out 4).trans rfl, (blk_cell BK587.out 5).trans rfl, HS6_⟩ (fun hHeld => ?_)
              clear hK K
              refine norm_ (a' := ?_) ?_ ?_
              rotate_left
              · show Act.put _ (some 30) _ = _
                simp only [Act.put, List.setIfInBounds_toArray, List.set_cons_zero, List.set_cons_succ, i64_w, i32_w]
                rfl
              refine pure_ (i := 10) (N := some 20) (v := ?_) (a' := ?_) #[true, true, true, true, true, true, true, true, true, true, true, false, false, true, false, false] rfl rfl (any_of HT_.out (by kernel_rfl)) (fun _ _ _ h => h) (Or.inl ⟨by rfl, ?_⟩) ?_ ?_
              rotate_left
              · intro w'
                go_simp
                with_reducible rfl
              rotate_left
              · simp only [Act.put, List.setIfInBounds_toArray, List.set_cons_zero, List.set_cons_succ, i64_w, i32_w]
                rfl
              refine pure_ (i := 11) (N := some 31) (v := ?_) (a' := ?_) #[true, true, true, true, true, true, true, true, true, true, true, true, false, true, false, false] rfl rfl (any_of HT_.out (by kernel_rfl)) (fun _ _ _ h => h) (Or.inl ⟨by rfl, ?_⟩) ?_ ?_
              rotate_left
              · intro w'
                go_simp
                with_reducible rfl
              rotate_left
              · simp only [Act.put, List.setIfInBounds_toArray, List.set_cons_zero, List.set_cons_succ, i64_w, i32_w]
                rfl
              refine pure_ (i := 12) (N := some 32) (v := ?_) (a' := ?_) #[true, true, true, true, true, true, true, true, true, true, true, true, true, true, false, false] rfl rfl (any_of HT_.out (by kernel_rfl)) (fun _ _ _ h => h) (Or.inl ⟨by rfl, ?_⟩) ?_ ?_
              rotate_left
              · intro w'
                go_simp
                with_reducible rfl
              rotate_left
              · simp only [Act.put, List.setIfInBounds_toArray, List.set_cons_zero, List.set_cons_succ, i64_w, i32_w]
                rfl
              exact norm_ (by simp only [putAll, Act.put, List.setIfInBounds_toArray, List.set_cons_zero, List.set_cons_succ]) (hCont (v595, gb601) _ ⟨hHeld, (by (with_reducible repeat (first | apply Kd.R_alloc | apply Kd.R_drewN | apply Kd.R_drew)); exact Kd.R_mono HO596.out (fun _ hk => hk.2)), (by (with_reducible repeat (first | apply Kd.R_alloc | apply Kd.R_drewN | apply Kd.R_drew)); exact HO_5.out), (by (with_reducible repeat (first | apply Kd.R_alloc | apply Kd.R_drewN | apply Kd.R_drew)); exact Kd.R_mono HO_588002.out (fun _ hk => hk.2)), (by (with_reducible repeat (first | refine blk_drewN ?_ _ | refine blk_drew ?_ | refine blk_alloc ?_ _)); exact BK587.out), (by (with_reducible repeat (first | refine blk_drewN ?_ _ | refine blk_drew ?_ | refine blk_alloc ?_ _)); exact BK601.out), GW601.out, GE601.out, NB587_601.out, NB601_587.out, (by repeat (first | (with_reducible first | exact HB.out | apply below_alloc | apply pw_below_drewN | apply below_drew1 | refine below_set ?_ GE587.out | refine below_set ?_ GE601.out) | exact HB.out))⟩)
          rintro ⟨v595, gb601⟩ w17 ⟨hS_, h0_, h1_, h2_, h3_, h4_, h5_, h6_, h7_, h8_, h9_⟩
          have n0_ : Aside0 (Kd.R k35 35 w17 w.heap.size (fun k_ => some k_ ≠ (.slice Ao13 x588002_1.length co13 : Value).ownBlock) v595 t594) := ⟨h0_⟩
          have n1_ : Aside0 (Kd.R (Kd.int .i64) 3 w17 w.heap.size (fun _ => True) (.slice (some ad590) t584.length co12) t584) := ⟨h1_⟩
          have n2_ : Aside0 (Kd.R k35 35 w17 w.heap.size (fun k_ => some k_ ≠ (v595 : Value).ownBlock) (.slice Ao13 x588002_1.length co13) x588002_1) := ⟨h2_⟩
          have n3_ : Aside0 (w17.heap[gb587]? = some (.cells #[.string x588000_1, .int .i64 x588001_1, .slice Ao13 x588002_1.length co13, .int .i64 x588003_1, .int .i64 x588004_1, .int .i64 x588005_1] 25 (0, 0))) := ⟨h3_⟩
          have n4_ : Aside0 (w17.heap[gb601]? = some (.cells #[.string (⟨#[]⟩ : ByteArray), .int .i64 0, .slice none 0 0, .int .i64 0, .int .i64 0, .int .i64 0] 25 (0, 0))) := ⟨h4_⟩
          have n5_ : Aside0 (w.heap.size ≤ gb601) := ⟨h5_⟩
          have n6_ : Aside0 (w.heap.size ≤ gb601) := ⟨h6_⟩
          have n7_ : Aside0 (gb587 ≠ gb601) := ⟨h7_⟩
          have n8_ : Aside0 (gb601 ≠ gb587) := ⟨h8_⟩
          have n9_ : Aside0 (Below w.heap.size w w17) := ⟨h9_⟩
          clear HO_5
          clear HO_588002
          clear BK587
          clear HB
          clear h0_ h1_ h2_ h3_ h4_ h5_ h6_ h7_ h8_ h9_
          have HO596 := n0_
          have HO_5 := n1_
          have HO_588002 := n2_
          have BK587 := n3_
          have BK601 := n4_
          have GW601 := n5_
          have GE601 := n6_
          have NB587_601 := n7_
          have NB601_587 := n8_
          have HB := n9_
          clear n0_ n1_ n2_ n3_ n4_ n5_ n6_ n7_ n8_ n9_
          have hHeld : w17.cell? ⟨gb587, 0, none⟩ = some (.string x588000_1) ∧ w17.cell? ⟨gb587, 1, none⟩ = some (.int .i64 x588001_1) ∧ w17.cell? ⟨gb587, 2, none⟩ = some (.slice Ao13 x588002_1.length co13) ∧ w17.cell? ⟨gb587, 3, none⟩ = some (.int .i64 x588003_1) ∧ w17.cell? ⟨gb587, 4, none⟩ = some (.int .i64 x588004_1) ∧ w17.cell? ⟨gb587, 5, none⟩ = some (.int .i64 x588005_1) ∧ w17.cell? (ad590.add (x8_1).toNat) = some (.int .i64 (rd t584 x8_1)) := hS_
          obtain ⟨Ao20, co20, eo20⟩ := Kd.R_slice HO596.out
          (first | subst eo20 | (injection eo20 with f1_ f2_ f3_; have f4_ := f1_.symm; have f5_ := f3_.symm; clear f1_ f2_ f3_; subst f4_; subst f5_))
          refine norm_ (a' := ?_) ?_ ?_
          rotate_left
          · simp only [putAll, Act.put, List.setIfInBounds_toArray, List.set_cons_zero, List.set_cons_succ]
            rfl
          refine one_ (i := 14) (N := none) #[true, true, true, true, true, true, true, true, true, true, true, true, true, true, true, false] rfl rfl (one_of HT_.out (by kernel_rfl)) (by decide) (fun K hK => ?_)
          have hs18 : w17.cell? ⟨gb601, 0, none⟩ = some (.string (⟨#[]⟩ : ByteArray)) := (blk_cell BK601.out 0).trans rfl
          have hfs18 := blk_frozen BK601.out 0
          have hns18_0 := NB587_601.out
          have hms18_0 := NB601_587.out
          have hs19 : w17.cell? ⟨gb601, 1, none⟩ = some (.int .i64 0) := (blk_cell BK601.out 1).trans rfl
          have hfs19 := blk_frozen BK601.out 1
          have hns19_0 := NB587_601.out
          have hms19_0 := NB601_587.out
          have hs21 : w17.cell? ⟨gb601, 2, none⟩ = some (.slice none 0 0) := (blk_cell BK601.out 2).trans rfl
          have hfs21 := blk_frozen BK601.out 2
          have hns21_0 := NB587_601.out
          have hms21_0 := NB601_587.out
          have hs22 : w17.cell? ⟨gb601, 3, none⟩ = some (.int .i64 0) := (blk_cell BK601.out 3).trans rfl
          have hfs22 := blk_frozen BK601.out 3
          have hns22_0 := NB587_601.out
          have hms22_0 := NB601_587.out
          have hs23 : w17.cell? ⟨gb601, 4, none⟩ = some (.int .i64 0) := (blk_cell BK601.out 4).trans rfl
          have hfs23 := blk_frozen BK601.out 4
          have hns23_0 := NB587_601.out
          have hms23_0 := NB601_587.out
          have hs24 : w17.cell? ⟨gb601, 5, none⟩ = some (.int .i64 0) := (blk_cell BK601.out 5).trans rfl
          have hfs24 := blk_frozen BK601.out 5
          have hns24_0 := NB587_601.out
          have hms24_0 := NB601_587.out
          refine skip_ (w1 := ?_) (by rfl) rfl ?_ ?_
          rotate_left
          · go_simp
            rfl
          refine hK.out _ _ ⟨((cell_far (p := ⟨gb601, _, none⟩) NB587_601.out _).trans (((cell_far (p := ⟨gb601, _, none⟩) NB587_601.out _).trans (((cell_far (p := ⟨gb601, _, none⟩) NB587_601.out _).trans (((cell_far (p := ⟨gb601, _, none⟩) NB587_601.out _).trans (((cell_far (p := ⟨gb601, _, none⟩) NB587_601.out _).trans (((cell_far (p := ⟨gb601, _, none⟩) NB587_601.out _).trans (hHeld.1)))))))))))), ((cell_far (p := ⟨gb601, _, none⟩) NB587_601.out _).trans (((cell_far (p := ⟨gb601, _, none⟩) NB587_601.out _).trans (((cell_far (p := ⟨gb601, _, none⟩) NB587_601.out _).trans (((cell_far (p := ⟨gb601, _, none⟩) NB587_601.out _).trans (((cell_far (p := ⟨gb601, _, none⟩) NB587_601.out _).trans (((cell_far (p := ⟨gb601, _, none⟩) NB587_601.out _).trans (hHeld.2.1)))))))))))), ((cell_far (p := ⟨gb601, _, none⟩) NB587_601.out _).trans (((cell_far (p := ⟨gb601, _, none⟩) NB587_601.out _).trans (((cell_far (p := ⟨gb601, _, none⟩) NB587_601.out _).trans (((cell_far (p := ⟨gb601, _, none⟩) NB587_601.out _).trans (((cell_far (p := ⟨gb601, _, none⟩) NB587_601.out _).trans (((cell_far (p := ⟨gb601, _, none⟩) NB587_601.out _).trans (hHeld.2.2.1)))))))))))), ((cell_far (p := ⟨gb601, _, none⟩) NB587_601.out _).trans (((cell_far (p := ⟨gb601, _, none⟩) NB587_601.out _).trans (((cell_far (p := ⟨gb601, _, none⟩) NB587_601.out _).trans (((cell_far (p := ⟨gb601, _, none⟩) NB587_601.out _).trans (((cell_far (p := ⟨gb601, _, none⟩) NB587_601.out _).trans (((cell_far (p := ⟨gb601, _, none⟩) NB587_601.out _).trans (hHeld.2.2.2.1)))))))))))), ((cell_far (p := ⟨gb601, _, none⟩) NB587_601.out _).trans (((cell_far (p := ⟨gb601, _, none⟩) NB587_601.out _).trans (((cell_far (p := ⟨gb601, _, none⟩) NB587_601.out _).trans (((cell_far (p := ⟨gb601, _, none⟩) NB587_601.out _).trans (((cell_far (p := ⟨gb601, _, none⟩) NB587_601.out _).trans (((cell_far (p := ⟨gb601, _, none⟩) NB587_601.out _).trans (hHeld.2.2.2.2.1)))))))))))), ((cell_far (p := ⟨gb601, _, none⟩) NB587_601.out _).trans (((cell_far (p := ⟨gb601, _, none⟩) NB587_601.out _).trans (((cell_far (p := ⟨gb601, _, none⟩) NB587_601.out _).trans (((cell_far (p := ⟨gb601, _, none⟩) NB587_601.out _).trans (((cell_far (p := ⟨gb601, _, none⟩) NB587_601.out _).trans (((cell_far (p := ⟨gb601, _, none⟩) NB587_601.out _).trans (hHeld.2.2.2.2.2.1)))))))))))), ((cell_far (p := ⟨gb601, _, none⟩) (by first | exact Kd.own_blk (Kd.R_ne HO_5.out BK601.out (by decide)) | (rw [add_block]; exact Kd.own_blk (Kd.R_ne HO_5.out BK601.out (by decide))) | (show (Addr.add _ _).block ≠ _; rw [add_block]; exact Kd.own_blk (Kd.R_ne HO_5.out BK601.out (by decide))) | (dsimp only; exact Kd.own_blk (Kd.R_ne HO_5.out BK601.out (by decide)))) _).trans (((cell_far (p := ⟨gb601, _, none⟩) (by first | exact Kd.own_blk (Kd.R_ne HO_5.out BK601.out (by decide)) | (rw [add_block]; exact Kd.own_blk (Kd.R_ne HO_5.out BK601.out (by decide))) | (show (Addr.add _ _).block ≠ _; rw [add_block]; exact Kd.own_blk (Kd.R_ne HO_5.out BK601.out (by decide))) | (dsimp only; exact Kd.own_blk (Kd.R_ne HO_5.out BK601.out (by decide)))) _).trans (((cell_far (p := ⟨gb601, _, none⟩) (by first | exact Kd.own_blk (Kd.R_ne HO_5.out BK601.out (by decide)) | (rw [add_block]; exact Kd.own_blk (Kd.R_ne HO_5.out BK601.out (by decide))) | (show (Addr.add _ _).block ≠ _; rw [add_block]; exact Kd.own_blk (Kd.R_ne HO_5.out BK601.out (by decide))) | (dsimp only; exact Kd.own_blk (Kd.R_ne HO_5.out BK601.out (by decide)))) _).trans (((cell_far (p := ⟨gb601, _, none⟩) (by first | exact Kd.own_blk (Kd.R_ne HO_5.out BK601.out (by decide)) | (rw [add_block]; exact Kd.own_blk (Kd.R_ne HO_5.out BK601.out (by decide))) | (show (Addr.add _ _).block ≠ _; rw [add_block]; exact Kd.own_blk (Kd.R_ne HO_5.out BK601.out (by decide))) | (dsimp only; exact Kd.own_blk (Kd.R_ne HO_5.out BK601.out (by decide)))) _).trans (((cell_far (p := ⟨gb601, _, none⟩) (by first | exact Kd.own_blk (Kd.R_ne HO_5.out BK601.out (by decide)) | (rw [add_block]; exact Kd.own_blk (Kd.R_ne HO_5.out BK601.out (by decide))) | (show (Addr.add _ _).block ≠ _; rw [add_block]; exact Kd.own_blk (Kd.R_ne HO_5.out BK601.out (by decide))) | (dsimp only; exact Kd.own_blk (Kd.R_ne HO_5.out BK601.out (by decide)))) _).trans (((cell_far (p := ⟨gb601, _, none⟩) (by first | exact Kd.own_blk (Kd.R_ne HO_5.out BK601.out (by decide)) | (rw [add_block]; exact Kd.own_blk (Kd.R_ne HO_5.out BK601.out (by decide))) | (show (Addr.add _ _).block ≠ _; rw [add_block]; exact Kd.own_blk (Kd.R_ne HO_5.out BK601.out (by decide))) | (dsimp only; exact Kd.own_blk (Kd.R_ne HO_5.out BK601.out (by decide)))) _).trans (hHeld.2.2.2.2.2.2))))))))))))⟩ (fun hHeld => ?_)
          clear hK K
          refine pure_ (i := 15) (N := some 10) (v := ?_) (a' := ?_) #[true, true, true, true, true, true, true, true, true, true, true, true, true, true, true, true] rfl rfl (any_of HT_.out (by kernel_rfl)) (fun _ _ _ h => h) (Or.inl ⟨by rfl, ?_⟩) ?_ ?_
          rotate_left
          · intro w'
            go_simp
            with_reducible rfl
          rotate_left
          · simp only [Act.put, List.setIfInBounds_toArray, List.set_cons_zero, List.set_cons_succ, i64_w, i32_w]
            rfl
          refine done_ (done_of HT_.out (by kernel_rfl)) ?_
          go_upto_region 8 with (fail)
          go_cut [42] (fun v42 wc => ∃ (kq : Nat) (x42_10 : Bool), v42 = .bool x42_10 ∧ Aside0 (intervalmonlaw28_AlertOnce.j1 kq a1 t584 x7_1 x8_1 x42_10 t592 t593 t594 t597 t598 t599 = some r) ∧ Aside0 (kq ≤ k1) ∧ Aside0 (Kd.R (Kd.int .i64) 3 wc w.heap.size (fun _ => True) (.slice (some ad590) t584.length co12) t584) ∧ Aside0 (Kd.R k35 35 wc w.heap.size (fun k_ => some k_ ≠ ((.slice Ao20 t594.length co20) : Value).ownBlock) (.slice Ao13 x588002_1.length co13) x588002_1) ∧ Aside0 (Kd.R k35 35 wc w.heap.size (fun k_ => some k_ ≠ ((.slice Ao13 x588002_1.length co13) : Value).ownBlock) (.slice Ao20 t594.length co20) t594) ∧ Aside0 (wc.heap[gb587]? = some (.cells #[.string x588000_1, .int .i64 x588001_1, (.slice Ao13 x588002_1.length co13), .int .i64 x588003_1, .int .i64 x588004_1, .int .i64 x588005_1] 25 (0, 0))) ∧ Aside0 (wc.heap[gb601]? = some (.cells #[.string t592, .int .i64 t593, (.slice Ao20 t594.length co20), .int .i64 t597, .int .i64 t598, .int .i64 t599] 25 (0, 0))) ∧ Aside0 (Below w.heap.size w wc))
          case first =>
            have H := HC11.out
            clear HC11
            by_cases c25 : x7_1 = true
            · subst c25
              have H1 : (intervalmonlaw28_AlertOnce.j1 k1 a1 t584 true x8_1 (t600 != ((rd t584 x8_1) == 2)) t592 t593 t594 t597 t598 t599) = some r := by rw [if_pos rfl] at H; exact H
              clear H
              have H := H1
              clear H1
              have H' := Aside0.mk H
              clear H
              have p602 : 0 ≤ (x8_1 : Int) := of_decide_eq_true (by first | (with_reducible assumption) | assumption)
              have q602 : x8_1 < (t584.length : Int) := of_decide_eq_true (by first | (with_reducible assumption) | assumption)
              obtain ⟨Az602, cz602, ez602⟩ := Kd.R_slice HO_5.out
              (first | subst ez602 | (injection ez602 with f1_ f2_ f3_; subst f1_; subst f3_) | skip)
              obtain ⟨ad602, e602, hx602_0⟩ := Kd.at_int (Kd.R_reads' HO_5.out).2.2 x8_1 p602 q602
              obtain rfl : ad590 = ad602 := (by injection e602)
              have hn602_0 : ad590.block ≠ gb601 := Kd.own_blk (Kd.R_ne HO_5.out BK601.out (by decide))
              have hn602_1 : ad590.block ≠ gb601 := Kd.own_blk (Kd.R_ne HO_5.out BK601.out (by decide))
              have hn602_2 : ad590.block ≠ gb601 := Kd.own_blk (Kd.R_ne HO_5.out BK601.out (by decide))
              have hn602_3 : ad590.block ≠ gb601 := Kd.own_blk (Kd.R_ne HO_5.out BK601.out (by decide))
              have hn602_4 : ad590.block ≠ gb601 := Kd.own_blk (Kd.R_ne HO_5.out BK601.out (by decide))
              have hn602_5 : ad590.block ≠ gb601 := Kd.own_blk (Kd.R_ne HO_5.out BK601.out (by decide))
              replace hx602_0 := (cell_far (p := ⟨gb601, 0, none⟩) (by first | (rw [add_block]; exact hn602_0) | (show (Addr.add _ _).block ≠ _; rw [add_block]; exact hn602_0) | exact hn602_0) (.string t592)).trans hx602_0
              replace hx602_0 := (cell_far (p := ⟨gb601, 1, none⟩) (by first | (rw [add_block]; exact hn602_1) | (show (Addr.add _ _).block ≠ _; rw [add_block]; exact hn602_1) | exact hn602_1) (.int .i64 t593)).trans hx602_0
              replace hx602_0 := (cell_far (p := ⟨gb601, 2, none⟩) (by first | (rw [add_block]; exact hn602_2) | (show (Addr.add _ _).block ≠ _; rw [add_block]; exact hn602_2) | exact hn602_2) (.slice Ao20 t594.length co20)).trans hx602_0
              replace hx602_0 := (cell_far (p := ⟨gb601, 3, none⟩) (by first | (rw [add_block]; exact hn602_3) | (show (Addr.add _ _).block ≠ _; rw [add_block]; exact hn602_3) | exact hn602_3) (.int .i64 t597)).trans hx602_0
              replace hx602_0 := (cell_far (p := ⟨gb601, 4, none⟩) (by first | (rw [add_block]; exact hn602_4) | (show (Addr.add _ _).block ≠ _; rw [add_block]; exact hn602_4) | exact hn602_4) (.int .i64 t598)).trans hx602_0
              replace hx602_0 := (cell_far (p := ⟨gb601, 5, none⟩) (by first | (rw [add_block]; exact hn602_5) | (show (Addr.add _ _).block ≠ _; rw [add_block]; exact hn602_5) | exact hn602_5) (.int .i64 t599)).trans hx602_0
              clear hn602_0
              clear hn602_1
              clear hn602_2
              clear hn602_3
              clear hn602_4
              clear hn602_5
              replace p602 := eq_true p602
              replace q602 := eq_true q602
              go_wp2
              go_meet
              case rel => exact ⟨_, ((t600 != ((rd t584 x8_1) == 2))), (by first | rfl | (simp; done) | (simp [*]; done)), H', ⟨by have := HK1.out; first | omega | exact Nat.le_refl _⟩, ⟨by (with_reducible repeat (first | apply Kd.R_alloc | apply Kd.R_drewN | apply Kd.R_drew)); exact Kd.R_mono (Kd.R_far (p := ⟨gb601, 5, none⟩) (Kd.R_far (p := ⟨gb601, 4, none⟩) (Kd.R_far (p := ⟨gb601, 3, none⟩) (Kd.R_far (p := ⟨gb601, 2, none⟩) (Kd.R_far (p := ⟨gb601, 1, none⟩) (Kd.R_far (p := ⟨gb601, 0, none⟩) (Kd.R_types HO_5.out BK601.out (by decide)) (fun _ hk => hk.2) (.string t592)) (fun _ hk => hk.2) (.int .i64 t593)) (fun _ hk => hk.2) (.slice Ao20 t594.length co20)) (fun _ hk => hk.2) (.int .i64 t597)) (fun _ hk => hk.2) (.int .i64 t598)) (fun _ hk => hk.2) (.int .i64 t599)) (fun _ hk => trivial)⟩, ⟨by (with_reducible repeat (first | apply Kd.R_alloc | apply Kd.R_drewN | apply Kd.R_drew)); exact Kd.R_mono (Kd.R_far (p := ⟨gb601, 5, none⟩) (Kd.R_far (p := ⟨gb601, 4, none⟩) (Kd.R_far (p := ⟨gb601, 3, none⟩) (Kd.R_far (p := ⟨gb601, 2, none⟩) (Kd.R_far (p := ⟨gb601, 1, none⟩) (Kd.R_far (p := ⟨gb601, 0, none⟩) (Kd.R_types HO_588002.out BK601.out (by decide)) (fun _ hk => hk.2) (.string t592)) (fun _ hk => hk.2) (.int .i64 t593)) (fun _ hk => hk.2) (.slice Ao20 t594.length co20)) (fun _ hk => hk.2) (.int .i64 t597)) (fun _ hk => hk.2) (.int .i64 t598)) (fun _ hk => hk.2) (.int .i64 t599)) (fun _ hk => hk.1)⟩, ⟨by (with_reducible repeat (first | apply Kd.R_alloc | apply Kd.R_drewN | apply Kd.R_drew)); exact Kd.R_mono (Kd.R_far (p := ⟨gb601, 5, none⟩) (Kd.R_far (p := ⟨gb601, 4, none⟩) (Kd.R_far (p := ⟨gb601, 3, none⟩) (Kd.R_far (p := ⟨gb601, 2, none⟩) (Kd.R_far (p := ⟨gb601, 1, none⟩) (Kd.R_far (p := ⟨gb601, 0, none⟩) (Kd.R_types HO596.out BK601.out (by decide)) (fun _ hk => hk.2) (.string t592)) (fun _ hk => hk.2) (.int .i64 t593)) (fun _ hk => hk.2) (.slice Ao20 t594.length co20)) (fun _ hk => hk.2) (.int .i64 t597)) (fun _ hk => hk.2) (.int .i64 t598)) (fun _ hk => hk.2) (.int .i64 t599)) (fun _ hk => hk.1)⟩, ⟨by (with_reducible repeat (first | refine blk_drewN ?_ _ | refine blk_drew ?_ | refine blk_alloc ?_ _)); refine blk_far ?_ NB587_601.out _; (with_reducible repeat (first | refine blk_drewN ?_ _ | refine blk_drew ?_ | refine blk_alloc ?_ _)); refine blk_far ?_ NB587_601.out _; (with_reducible repeat (first | refine blk_drewN ?_ _ | refine blk_drew ?_ | refine blk_alloc ?_ _)); refine blk_far ?_ NB587_601.out _; (with_reducible repeat (first | refine blk_drewN ?_ _ | refine blk_drew ?_ | refine blk_alloc ?_ _)); refine blk_far ?_ NB587_601.out _; (with_reducible repeat (first | refine blk_drewN ?_ _ | refine blk_drew ?_ | refine blk_alloc ?_ _)); refine blk_far ?_ NB587_601.out _; (with_reducible repeat (first | refine blk_drewN ?_ _ | refine blk_drew ?_ | refine blk_alloc ?_ _)); refine blk_far ?_ NB587_601.out _; (with_reducible repeat (first | refine blk_drewN ?_ _ | refine blk_drew ?_ | refine blk_alloc ?_ _)); exact BK587.out⟩, ⟨by (with_reducible repeat (first | refine blk_drewN ?_ _ | refine blk_drew ?_ | refine blk_alloc ?_ _)); refine blk_put (cs := #[.string t592, .int .i64 t593, .slice Ao20 t594.length co20, .int .i64 t597, .int .i64 t598, .int .i64 0]) ?_ 5 _ rfl; (with_reducible repeat (first | refine blk_drewN ?_ _ | refine blk_drew ?_ | refine blk_alloc ?_ _)); refine blk_put (cs := #[.string t592, .int .i64 t593, .slice Ao20 t594.length co20, .int .i64 t597, .int .i64 0, .int .i64 0]) ?_ 4 _ rfl; (with_reducible repeat (first | refine blk_drewN ?_ _ | refine blk_drew ?_ | refine blk_alloc ?_ _)); refine blk_put (cs := #[.string t592, .int .i64 t593, .slice Ao20 t594.length co20, .int .i64 0, .int .i64 0, .int .i64 0]) ?_ 3 _ rfl; (with_reducible repeat (first | refine blk_drewN ?_ _ | refine blk_drew ?_ | refine blk_alloc ?_ _)); refine blk_put (cs := #[.string t592, .int .i64 t593, .slice none 0 0, .int .i64 0, .int .i64 0, .int .i64 0]) ?_ 2 _ rfl; (with_reducible repeat (first | refine blk_drewN ?_ _ | refine blk_drew ?_ | refine blk_alloc ?_ _)); refine blk_put (cs := #[.string t592, .int .i64 0, .slice none 0 0, .int .i64 0, .int .i64 0, .int .i64 0]) ?_ 1 _ rfl; (with_reducible repeat (first | refine blk_drewN ?_ _ | refine blk_drew ?_ | refine blk_alloc ?_ _)); refine blk_put (cs := #[.string (⟨#[]⟩ : ByteArray), .int .i64 0, .slice none 0 0, .int .i64 0, .int .i64 0, .int .i64 0]) ?_ 0 _ rfl; (with_reducible repeat (first | refine blk_drewN ?_ _ | refine blk_drew ?_ | refine blk_alloc ?_ _)); exact BK601.out⟩, ⟨by repeat (first | (with_reducible first | exact HB.out | apply below_alloc | apply pw_below_drewN | apply below_drew1 | refine below_set ?_ GE587.out | refine below_set ?_ GE601.out) | exact HB.out)⟩⟩
            · replace c25 := Bool.eq_false_iff.mpr c25
              subst c25
              have H1 : (intervalmonlaw28_AlertOnce.j1 k1 a1 t584 false x8_1 (t600 != false) t592 t593 t594 t597 t598 t599) = some r := by rw [if_neg (show ¬ (false = true) by decide)] at H; exact H
              clear H
              have H := H1
              clear H1
              have H' := Aside0.mk H
              clear H
              go_wp2
              go_meet
              case rel => exact ⟨_, ((t600 != false)), (by first | rfl | (simp; done) | (simp [*]; done)), H', ⟨by have := HK1.out; first | omega | exact Nat.le_refl _⟩, ⟨by (with_reducible repeat (first | apply Kd.R_alloc | apply Kd.R_drewN | apply Kd.R_drew)); exact Kd.R_mono (Kd.R_far (p := ⟨gb601, 5, none⟩) (Kd.R_far (p := ⟨gb601, 4, none⟩) (Kd.R_far (p := ⟨gb601, 3, none⟩) (Kd.R_far (p := ⟨gb601, 2, none⟩) (Kd.R_far (p := ⟨gb601, 1, none⟩) (Kd.R_far (p := ⟨gb601, 0, none⟩) (Kd.R_types HO_5.out BK601.out (by decide)) (fun _ hk => hk.2) (.string t592)) (fun _ hk => hk.2) (.int .i64 t593)) (fun _ hk => hk.2) (.slice Ao20 t594.length co20)) (fun _ hk => hk.2) (.int .i64 t597)) (fun _ hk => hk.2) (.int .i64 t598)) (fun _ hk => hk.2) (.int .i64 t599)) (fun _ hk => trivial)⟩, ⟨by (with_reducible repeat (first | apply Kd.R_alloc | apply Kd.R_drewN | apply Kd.R_drew)); exact Kd.R_mono (Kd.R_far (p := ⟨gb601, 5, none⟩) (Kd.R_far (p := ⟨gb601, 4, none⟩) (Kd.R_far (p := ⟨gb601, 3, none⟩) (Kd.R_far (p := ⟨gb601, 2, none⟩) (Kd.R_far (p := ⟨gb601, 1, none⟩) (Kd.R_far (p := ⟨gb601, 0, none⟩) (Kd.R_types HO_588002.out BK601.out (by decide)) (fun _ hk => hk.2) (.string t592)) (fun _ hk => hk.2) (.int .i64 t593)) (fun _ hk => hk.2) (.slice Ao20 t594.length co20)) (fun _ hk => hk.2) (.int .i64 t597)) (fun _ hk => hk.2) (.int .i64 t598)) (fun _ hk => hk.2) (.int .i64 t599)) (fun _ hk => hk.1)⟩, ⟨by (with_reducible repeat (first | apply Kd.R_alloc | apply Kd.R_drewN | apply Kd.R_drew)); exact Kd.R_mono (Kd.R_far (p := ⟨gb601, 5, none⟩) (Kd.R_far (p := ⟨gb601, 4, none⟩) (Kd.R_far (p := ⟨gb601, 3, none⟩) (Kd.R_far (p := ⟨gb601, 2, none⟩) (Kd.R_far (p := ⟨gb601, 1, none⟩) (Kd.R_far (p := ⟨gb601, 0, none⟩) (Kd.R_types HO596.out BK601.out (by decide)) (fun _ hk => hk.2) (.string t592)) (fun _ hk => hk.2) (.int .i64 t593)) (fun _ hk => hk.2) (.slice Ao20 t594.length co20)) (fun _ hk => hk.2) (.int .i64 t597)) (fun _ hk => hk.2) (.int .i64 t598)) (fun _ hk => hk.2) (.int .i64 t599)) (fun _ hk => hk.1)⟩, ⟨by (with_reducible repeat (first | refine blk_drewN ?_ _ | refine blk_drew ?_ | refine blk_alloc ?_ _)); refine blk_far ?_ NB587_601.out _; (with_reducible repeat (first | refine blk_drewN ?_ _ | refine blk_drew ?_ | refine blk_alloc ?_ _)); refine blk_far ?_ NB587_601.out _; (with_reducible repeat (first | refine blk_drewN ?_ _ | refine blk_drew ?_ | refine blk_alloc ?_ _)); refine blk_far ?_ NB587_601.out _; (with_reducible repeat (first | refine blk_drewN ?_ _ | refine blk_drew ?_ | refine blk_alloc ?_ _)); refine blk_far ?_ NB587_601.out _; (with_reducible repeat (first | refine blk_drewN ?_ _ | refine blk_drew ?_ | refine blk_alloc ?_ _)); refine blk_far ?_ NB587_601.out _; (with_reducible repeat (first | refine blk_drewN ?_ _ | refine blk_drew ?_ | refine blk_alloc ?_ _)); refine blk_far ?_ NB587_601.out _; (with_reducible repeat (first | refine blk_drewN ?_ _ | refine blk_drew ?_ | refine blk_alloc ?_ _)); exact BK587.out⟩, ⟨by (with_reducible repeat (first | refine blk_drewN ?_ _ | refine blk_drew ?_ | refine blk_alloc ?_ _)); refine blk_put (cs := #[.string t592, .int .i64 t593, .slice Ao20 t594.length co20, .int .i64 t597, .int .i64 t598, .int .i64 0]) ?_ 5 _ rfl; (with_reducible repeat (first | refine blk_drewN ?_ _ | refine blk_drew ?_ | refine blk_alloc ?_ _)); refine blk_put (cs := #[.string t592, .int .i64 t593, .slice Ao20 t594.length co20, .int .i64 t597, .int .i64 0, .int .i64 0]) ?_ 4 _ rfl; (with_reducible repeat (first | refine blk_drewN ?_ _ | refine blk_drew ?_ | refine blk_alloc ?_ _)); refine blk_put (cs := #[.string t592, .int .i64 t593, .slice Ao20 t594.length co20, .int .i64 0, .int .i64 0, .int .i64 0]) ?_ 3 _ rfl; (with_reducible repeat (first | refine blk_drewN ?_ _ | refine blk_drew ?_ | refine blk_alloc ?_ _)); refine blk_put (cs := #[.string t592, .int .i64 t593, .slice none 0 0, .int .i64 0, .int .i64 0, .int .i64 0]) ?_ 2 _ rfl; (with_reducible repeat (first | refine blk_drewN ?_ _ | refine blk_drew ?_ | refine blk_alloc ?_ _)); refine blk_put (cs := #[.string t592, .int .i64 0, .slice none 0 0, .int .i64 0, .int .i64 0, .int .i64 0]) ?_ 1 _ rfl; (with_reducible repeat (first | refine blk_drewN ?_ _ | refine blk_drew ?_ | refine blk_alloc ?_ _)); refine blk_put (cs := #[.string (⟨#[]⟩ : ByteArray), .int .i64 0, .slice none 0 0, .int .i64 0, .int .i64 0, .int .i64 0]) ?_ 0 _ rfl; (with_reducible repeat (first | refine blk_drewN ?_ _ | refine blk_drew ?_ | refine blk_alloc ?_ _)); exact BK601.out⟩, ⟨by repeat (first | (with_reducible first | exact HB.out | apply below_alloc | apply pw_below_drewN | apply below_drew1 | refine below_set ?_ GE587.out | refine below_set ?_ GE601.out) | exact HB.out)⟩⟩
          case rest =>
            clear HC11
            try clear c1
            try clear c2
            try clear p2
            try clear p5
            try clear q5
            try clear hx5
            try clear p6
            try clear q6
            try clear hx6
            try clear c7
            try clear c7b0
            try clear c8
            try clear c8b0
            try clear c18
            try clear c25
            try clear hcz6_0
            try clear hcz6_1
            try clear hcz6_2
            try clear hcz6_3
            try clear hcz6_4
            try clear hcz6_5
            try clear hfz6_0
            try clear hfz6_1
            try clear hfz6_2
            try clear hfz6_3
            try clear hfz6_4
            try clear hfz6_5
            try clear hx590_0
            try clear hx602_0
            try clear p2
            try clear p590
            try clear p602
            try clear q590
            try clear q602
            obtain ⟨kq, x42_10, rfl, HA, HJ10, HO_5, HO_588002, HO_602002, BK587, BK601, HB⟩ := hcut
            cases kq with
            | zero => exact absurd HA.out (by simp [intervalmonlaw28_AlertOnce.j1])
            | succ kj10 =>
              have H := HA.out
              clear HA
              simp only [intervalmonlaw28_AlertOnce.j1] at H
              by_cases c26 : x42_10 = true
              · subst c26
                have H1 : (some false) = some r := by rw [if_pos rfl] at H; exact H
                clear H
                have H := H1
                clear H1
                obtain rfl := Option.some.inj H
                go_wp2
                go_ret
                exact ⟨by first | rfl | (simp [errW_none, errW_some] <;> rfl) | (simp [*, errW_none, errW_some] <;> rfl), by repeat (first | (with_reducible first | exact HB.out | apply below_alloc | apply pw_below_drewN | apply below_drew1 | refine below_set ?_ GE587.out | refine below_set ?_ GE601.out) | exact HB.out)⟩
              · replace c26 := Bool.eq_false_iff.mpr c26
                subst c26
                have H1 : (if 0 ≤ x8_1 then (if x8_1 < (t584.length : Int) then (if (rd t584 x8_1) = 1 then (intervalmonlaw28_AlertOnce.l0 kj10 a1 t584 x7_1 (wrap64 (x8_1 + 1)) t592 t593 t594 t597 t598 t599) else (intervalmonlaw28_AlertOnce.l0 kj10 a1 t584 ((rd t584 x8_1) == 0) (wrap64 (x8_1 + 1)) t592 t593 t594 t597 t598 t599)) else (none)) else (none)) = some r := by rw [if_neg (show ¬ (false = true) by decide)] at H; exact H
                clear H
                have H := H1
                clear H1
                by_cases c27 : 0 ≤ x8_1
                · rw [if_pos c27] at H
                  have c27b0 : decide (0 ≤ x8_1) = true := decide_eq_true c27
                  clear c27
                  by_cases c28 : x8_1 < (t584.length : Int)
                  · rw [if_pos c28] at H
                    have c28b0 : decide (x8_1 < (t584.length : Int)) = true := decide_eq_true c28
                    clear c28
                    by_cases c29 : (rd t584 x8_1) = 1
                    · rw [if_pos c29] at H
                      have c29b0 : ((rd t584 x8_1) == 1) = true := beq_iff_eq.mpr c29
                      have c29b1 : ((rd t584 x8_1) != 1) = false := bne_eq_false_iff_eq.mpr c29
                      clear c29
                      have H' := Aside0.mk H
                      clear H
                      have hnb30 := NB601_587.out
                      have hnc30 := NB587_601.out
                      have hcz31_0 : wc.cell? ⟨gb601, 0, none⟩ = some (.string t592) := (blk_cell BK601.out 0).trans rfl
                      have hcz31_1 : wc.cell? ⟨gb601, 1, none⟩ = some (.int .i64 t593) := (blk_cell BK601.out 1).trans rfl
                      have hcz31_2 : wc.cell? ⟨gb601, 2, none⟩ = some (.slice Ao20 t594.length co20) := (blk_cell BK601.out 2).trans rfl
                      have hcz31_3 : wc.cell? ⟨gb601, 3, none⟩ = some (.int .i64 t597) := (blk_cell BK601.out 3).trans rfl
                      have hcz31_4 : wc.cell? ⟨gb601, 4, none⟩ = some (.int .i64 t598) := (blk_cell BK601.out 4).trans rfl
                      have hcz31_5 : wc.cell? ⟨gb601, 5, none⟩ = some (.int .i64 t599) := (blk_cell BK601.out 5).trans rfl
                      have hfz31_0 := blk_frozen BK601.out 0
                      have hfz31_1 := blk_frozen BK601.out 1
                      have hfz31_2 := blk_frozen BK601.out 2
                      have hfz31_3 := blk_frozen BK601.out 3
                      have hfz31_4 := blk_frozen BK601.out 4
                      have hfz31_5 := blk_frozen BK601.out 5
                      have hcz32_0 : wc.cell? ⟨gb587, 0, none⟩ = some (.string x588000_1) := (blk_cell BK587.out 0).trans rfl
                      have hcz32_1 : wc.cell? ⟨gb587, 1, none⟩ = some (.int .i64 x588001_1) := (blk_cell BK587.out 1).trans rfl
                      have hcz32_2 : wc.cell? ⟨gb587, 2, none⟩ = some (.slice Ao13 x588002_1.length co13) := (blk_cell BK587.out 2).trans rfl
                      have hcz32_3 : wc.cell? ⟨gb587, 3, none⟩ = some (.int .i64 x588003_1) := (blk_cell BK587.out 3).trans rfl
                      have hcz32_4 : wc.cell? ⟨gb587, 4, none⟩ = some (.int .i64 x588004_1) := (blk_cell BK587.out 4).trans rfl
                      have hcz32_5 : wc.cell? ⟨gb587, 5, none⟩ = some (.int .i64 x588005_1) := (blk_cell BK587.out 5).trans rfl
                      have hfz32_0 := blk_frozen BK587.out 0
                      have hfz32_1 := blk_frozen BK587.out 1
                      have hfz32_2 := blk_frozen BK587.out 2
                      have hfz32_3 := blk_frozen BK587.out 3
                      have hfz32_4 := blk_frozen BK587.out 4
                      have hfz32_5 := blk_frozen BK587.out 5
                      have p603 : 0 ≤ (x8_1 : Int) := of_decide_eq_true (by first | (with_reducible assumption) | assumption)
                      have q603 : x8_1 < (t584.length : Int) := of_decide_eq_true (by first | (with_reducible assumption) | assumption)
                      obtain ⟨Az603, cz603, ez603⟩ := Kd.R_slice HO_5.out
                      (first | subst ez603 | (injection ez603 with f1_ f2_ f3_; subst f1_; subst f3_) | skip)
                      obtain ⟨ad603, e603, hx603_0⟩ := Kd.at_int (Kd.R_reads' HO_5.out).2.2 x8_1 p603 q603
                      obtain rfl : ad590 = ad603 := (by injection e603)
                      have hn603_0 : ad590.block ≠ gb587 := Kd.own_blk (Kd.R_ne HO_5.out BK587.out (by decide))
                      have hn603_1 : ad590.block ≠ gb587 := Kd.own_blk (Kd.R_ne HO_5.out BK587.out (by decide))
                      have hn603_2 : ad590.block ≠ gb587 := Kd.own_blk (Kd.R_ne HO_5.out BK587.out (by decide))
                      have hn603_3 : ad590.block ≠ gb587 := Kd.own_blk (Kd.R_ne HO_5.out BK587.out (by decide))
                      have hn603_4 : ad590.block ≠ gb587 := Kd.own_blk (Kd.R_ne HO_5.out BK587.out (by decide))
                      have hn603_5 : ad590.block ≠ gb587 := Kd.own_blk (Kd.R_ne HO_5.out BK587.out (by decide))
                      replace hx603_0 := (cell_far (p := ⟨gb587, 0, none⟩) (by first | (rw [add_block]; exact hn603_0) | (show (Addr.add _ _).block ≠ _; rw [add_block]; exact hn603_0) | exact hn603_0) (.string t592)).trans hx603_0
                      replace hx603_0 := (cell_far (p := ⟨gb587, 1, none⟩) (by first | (rw [add_block]; exact hn603_1) | (show (Addr.add _ _).block ≠ _; rw [add_block]; exact hn603_1) | exact hn603_1) (.int .i64 t593)).trans hx603_0
                      replace hx603_0 := (cell_far (p := ⟨gb587, 2, none⟩) (by first | (rw [add_block]; exact hn603_2) | (show (Addr.add _ _).block ≠ _; rw [add_block]; exact hn603_2) | exact hn603_2) (.slice Ao20 t594.length co20)).trans hx603_0
                      replace hx603_0 := (cell_far (p := ⟨gb587, 3, none⟩) (by first | (rw [add_block]; exact hn603_3) | (show (Addr.add _ _).block ≠ _; rw [add_block]; exact hn603_3) | exact hn603_3) (.int .i64 t597)).trans hx603_0
                      replace hx603_0 := (cell_far (p := ⟨gb587, 4, none⟩) (by first | (rw [add_block]; exact hn603_4) | (show (Addr.add _ _).block ≠ _; rw [add_block]; exact hn603_4) | exact hn603_4) (.int .i64 t598)).trans hx603_0
                      replace hx603_0 := (cell_far (p := ⟨gb587, 5, none⟩) (by first | (rw [add_block]; exact hn603_5) | (show (Addr.add _ _).block ≠ _; rw [add_block]; exact hn603_5) | exact hn603_5) (.int .i64 t599)).trans hx603_0
                      clear hn603_0
                      clear hn603_1
                      clear hn603_2
                      clear hn603_3
                      clear hn603_4
                      clear hn603_5
                      replace p603 := eq_true p603
                      replace q603 := eq_true q603
                      go_wp2
                      go_roundg kj10
                      case measure => have := HK1.out; have := HJ10.out; omega
                      case rel => exact ⟨(x7_1), (wrap64 (x8_1 + 1)), (t592), (t593), (t594), (t597), (t598), (t599), (.slice Ao20 t594.length co20), (by first | rfl | (simp; done) | (simp [*]; done)), (by first | rfl | (simp; done) | (simp [*]; done)), H', ⟨by have := HK1.out; have := HJ10.out; omega⟩, ⟨by (with_reducible repeat (first | apply Kd.R_alloc | apply Kd.R_drewN | apply Kd.R_drew)); exact Kd.R_mono (Kd.R_far (p := ⟨gb587, 5, none⟩) (Kd.R_far (p := ⟨gb587, 4, none⟩) (Kd.R_far (p := ⟨gb587, 3, none⟩) (Kd.R_far (p := ⟨gb587, 2, none⟩) (Kd.R_far (p := ⟨gb587, 1, none⟩) (Kd.R_far (p := ⟨gb587, 0, none⟩) (Kd.R_types HO_5.out BK587.out (by decide)) (fun _ hk => hk.2) (.string t592)) (fun _ hk => hk.2) (.int .i64 t593)) (fun _ hk => hk.2) (.slice Ao20 t594.length co20)) (fun _ hk => hk.2) (.int .i64 t597)) (fun _ hk => hk.2) (.int .i64 t598)) (fun _ hk => hk.2) (.int .i64 t599)) (fun _ hk => trivial)⟩, ⟨by (with_reducible repeat (first | apply Kd.R_alloc | apply Kd.R_drewN | apply Kd.R_drew)); exact Kd.R_mono (Kd.R_far (p := ⟨gb587, 5, none⟩) (Kd.R_far (p := ⟨gb587, 4, none⟩) (Kd.R_far (p := ⟨gb587, 3, none⟩) (Kd.R_far (p := ⟨gb587, 2, none⟩) (Kd.R_far (p := ⟨gb587, 1, none⟩) (Kd.R_far (p := ⟨gb587, 0, none⟩) (Kd.R_types HO_602002.out BK587.out (by decide)) (fun _ hk => hk.2) (.string t592)) (fun _ hk => hk.2) (.int .i64 t593)) (fun _ hk => hk.2) (.slice Ao20 t594.length co20)) (fun _ hk => hk.2) (.int .i64 t597)) (fun _ hk => hk.2) (.int .i64 t598)) (fun _ hk => hk.2) (.int .i64 t599)) (fun _ hk => trivial)⟩, ⟨by (with_reducible repeat (first | refine blk_drewN ?_ _ | refine blk_drew ?_ | refine blk_alloc ?_ _)); refine blk_put (cs := #[.string t592, .int .i64 t593, .slice Ao20 t594.length co20, .int .i64 t597, .int .i64 t598, .int .i64 x588005_1]) ?_ 5 _ rfl; (with_reducible repeat (first | refine blk_drewN ?_ _ | refine blk_drew ?_ | refine blk_alloc ?_ _)); refine blk_put (cs := #[.string t592, .int .i64 t593, .slice Ao20 t594.length co20, .int .i64 t597, .int .i64 x588004_1, .int .i64 x588005_1]) ?_ 4 _ rfl; (with_reducible repeat (first | refine blk_drewN ?_ _ | refine blk_drew ?_ | refine blk_alloc ?_ _)); refine blk_put (cs := #[.string t592, .int .i64 t593, .slice Ao20 t594.length co20, .int .i64 x588003_1, .int .i64 x588004_1, .int .i64 x588005_1]) ?_ 3 _ rfl; (with_reducible repeat (first | refine blk_drewN ?_ _ | refine blk_drew ?_ | refine blk_alloc ?_ _)); refine blk_put (cs := #[.string t592, .int .i64 t593, .slice Ao13 x588002_1.length co13, .int .i64 x588003_1, .int .i64 x588004_1, .int .i64 x588005_1]) ?_ 2 _ rfl; (with_reducible repeat (first | refine blk_drewN ?_ _ | refine blk_drew ?_ | refine blk_alloc ?_ _)); refine blk_put (cs := #[.string t592, .int .i64 x588001_1, .slice Ao13 x588002_1.length co13, .int .i64 x588003_1, .int .i64 x588004_1, .int .i64 x588005_1]) ?_ 1 _ rfl; (with_reducible repeat (first | refine blk_drewN ?_ _ | refine blk_drew ?_ | refine blk_alloc ?_ _)); refine blk_put (cs := #[.string x588000_1, .int .i64 x588001_1, .slice Ao13 x588002_1.length co13, .int .i64 x588003_1, .int .i64 x588004_1, .int .i64 x588005_1]) ?_ 0 _ rfl; (with_reducible repeat (first | refine blk_drewN ?_ _ | refine blk_drew ?_ | refine blk_alloc ?_ _)); exact BK587.out⟩, ⟨by repeat (first | (with_reducible first | exact HB.out | apply below_alloc | apply pw_below_drewN | apply below_drew1 | refine below_set ?_ GE587.out | refine below_set ?_ GE601.out) | exact HB.out)⟩⟩
                    · rw [if_neg c29] at H
                      have c29b0 : ((rd t584 x8_1) == 1) = false := beq_eq_false_iff_ne.mpr c29
                      have c29b1 : ((rd t584 x8_1) != 1) = true := bne_iff_ne.mpr c29
                      have H' := Aside0.mk H
                      clear H
                      have hnb33 := NB601_587.out
                      have hnc33 := NB587_601.out
                      have hcz34_0 : wc.cell? ⟨gb601, 0, none⟩ = some (.string t592) := (blk_cell BK601.out 0).trans rfl
                      have hcz34_1 : wc.cell? ⟨gb601, 1, none⟩ = some (.int .i64 t593) := (blk_cell BK601.out 1).trans rfl
                      have hcz34_2 : wc.cell? ⟨gb601, 2, none⟩ = some (.slice Ao20 t594.length co20) := (blk_cell BK601.out 2).trans rfl
                      have hcz34_3 : wc.cell? ⟨gb601, 3, none⟩ = some (.int .i64 t597) := (blk_cell BK601.out 3).trans rfl
                      have hcz34_4 : wc.cell? ⟨gb601, 4, none⟩ = some (.int .i64 t598) := (blk_cell BK601.out 4).trans rfl
                      have hcz34_5 : wc.cell? ⟨gb601, 5, none⟩ = some (.int .i64 t599) := (blk_cell BK601.out 5).trans rfl
                      have hfz34_0 := blk_frozen BK601.out 0
                      have hfz34_1 := blk_frozen BK601.out 1
                      have hfz34_2 := blk_frozen BK601.out 2
                      have hfz34_3 := blk_frozen BK601.out 3
                      have hfz34_4 := blk_frozen BK601.out 4
                      have hfz34_5 := blk_frozen BK601.out 5
                      have hcz35_0 : wc.cell? ⟨gb587, 0, none⟩ = some (.string x588000_1) := (blk_cell BK587.out 0).trans rfl
                      have hcz35_1 : wc.cell? ⟨gb587, 1, none⟩ = some (.int .i64 x588001_1) := (blk_cell BK587.out 1).trans rfl
                      have hcz35_2 : wc.cell? ⟨gb587, 2, none⟩ = some (.slice Ao13 x588002_1.length co13) := (blk_cell BK587.out 2).trans rfl
                      have hcz35_3 : wc.cell? ⟨gb587, 3, none⟩ = some (.int .i64 x588003_1) := (blk_cell BK587.out 3).trans rfl
                      have hcz35_4 : wc.cell? ⟨gb587, 4, none⟩ = some (.int .i64 x588004_1) := (blk_cell BK587.out 4).trans rfl
                      have hcz35_5 : wc.cell? ⟨gb587, 5, none⟩ = some (.int .i64 x588005_1) := (blk_cell BK587.out 5).trans rfl
                      have hfz35_0 := blk_frozen BK587.out 0
                      have hfz35_1 := blk_frozen BK587.out 1
                      have hfz35_2 := blk_frozen BK587.out 2
                      have hfz35_3 := blk_frozen BK587.out 3
                      have hfz35_4 := blk_frozen BK587.out 4
                      have hfz35_5 := blk_frozen BK587.out 5
                      have p603 : 0 ≤ (x8_1 : Int) := of_decide_eq_true (by first | (with_reducible assumption) | assumption)
                      have q603 : x8_1 < (t584.length : Int) := of_decide_eq_true (by first | (with_reducible assumption) | assumption)
                      obtain ⟨Az603, cz603, ez603⟩ := Kd.R_slice HO_5.out
                      (first | subst ez603 | (injection ez603 with f1_ f2_ f3_; subst f1_; subst f3_) | skip)
                      obtain ⟨ad603, e603, hx603_0⟩ := Kd.at_int (Kd.R_reads' HO_5.out).2.2 x8_1 p603 q603
                      obtain rfl : ad590 = ad603 := (by injection e603)
                      have hn603_0 : ad590.block ≠ gb587 := Kd.own_blk (Kd.R_ne HO_5.out BK587.out (by decide))
                      have hn603_1 : ad590.block ≠ gb587 := Kd.own_blk (Kd.R_ne HO_5.out BK587.out (by decide))
                      have hn603_2 : ad590.block ≠ gb587 := Kd.own_blk (Kd.R_ne HO_5.out BK587.out (by decide))
                      have hn603_3 : ad590.block ≠ gb587 := Kd.own_blk (Kd.R_ne HO_5.out BK587.out (by decide))
                      have hn603_4 : ad590.block ≠ gb587 := Kd.own_blk (Kd.R_ne HO_5.out BK587.out (by decide))
                      have hn603_5 : ad590.block ≠ gb587 := Kd.own_blk (Kd.R_ne HO_5.out BK587.out (by decide))
                      replace hx603_0 := (cell_far (p := ⟨gb587, 0, none⟩) (by first | (rw [add_block]; exact hn603_0) | (show (Addr.add _ _).block ≠ _; rw [add_block]; exact hn603_0) | exact hn603_0) (.string t592)).trans hx603_0
                      replace hx603_0 := (cell_far (p := ⟨gb587, 1, none⟩) (by first | (rw [add_block]; exact hn603_1) | (show (Addr.add _ _).block ≠ _; rw [add_block]; exact hn603_1) | exact hn603_1) (.int .i64 t593)).trans hx603_0
                      replace hx603_0 := (cell_far (p := ⟨gb587, 2, none⟩) (by first | (rw [add_block]; exact hn603_2) | (show (Addr.add _ _).block ≠ _; rw [add_block]; exact hn603_2) | exact hn603_2) (.slice Ao20 t594.length co20)).trans hx603_0
                      replace hx603_0 := (cell_far (p := ⟨gb587, 3, none⟩) (by first | (rw [add_block]; exact hn603_3) | (show (Addr.add _ _).block ≠ _; rw [add_block]; exact hn603_3) | exact hn603_3) (.int .i64 t597)).trans hx603_0
                      replace hx603_0 := (cell_far (p := ⟨gb587, 4, none⟩) (by first | (rw [add_block]; exact hn603_4) | (show (Addr.add _ _).block ≠ _; rw [add_block]; exact hn603_4) | exact hn603_4) (.int .i64 t598)).trans hx603_0
                      replace hx603_0 := (cell_far (p := ⟨gb587, 5, none⟩) (by first | (rw [add_block]; exact hn603_5) | (show (Addr.add _ _).block ≠ _; rw [add_block]; exact hn603_5) | exact hn603_5) (.int .i64 t599)).trans hx603_0
                      clear hn603_0
                      clear hn603_1
                      clear hn603_2
                      clear hn603_3
                      clear hn603_4
                      clear hn603_5
                      replace p603 := eq_true p603
                      replace q603 := eq_true q603
                      have p604 : 0 ≤ (x8_1 : Int) := of_decide_eq_true (by first | (with_reducible assumption) | assumption)
                      have q604 : x8_1 < (t584.length : Int) := of_decide_eq_true (by first | (with_reducible assumption) | assumption)
                      obtain ⟨Az604, cz604, ez604⟩ := Kd.R_slice HO_5.out
                      (first | subst ez604 | (injection ez604 with f1_ f2_ f3_; subst f1_; subst f3_) | skip)
                      obtain ⟨ad604, e604, hx604_0⟩ := Kd.at_int (Kd.R_reads' HO_5.out).2.2 x8_1 p604 q604
                      obtain rfl : ad590 = ad604 := (by injection e604)
                      have hn604_0 : ad590.block ≠ gb587 := Kd.own_blk (Kd.R_ne HO_5.out BK587.out (by decide))
                      have hn604_1 : ad590.block ≠ gb587 := Kd.own_blk (Kd.R_ne HO_5.out BK587.out (by decide))
                      have hn604_2 : ad590.block ≠ gb587 := Kd.own_blk (Kd.R_ne HO_5.out BK587.out (by decide))
                      have hn604_3 : ad590.block ≠ gb587 := Kd.own_blk (Kd.R_ne HO_5.out BK587.out (by decide))
                      have hn604_4 : ad590.block ≠ gb587 := Kd.own_blk (Kd.R_ne HO_5.out BK587.out (by decide))
                      have hn604_5 : ad590.block ≠ gb587 := Kd.own_blk (Kd.R_ne HO_5.out BK587.out (by decide))
                      replace hx604_0 := (cell_far (p := ⟨gb587, 0, none⟩) (by first | (rw [add_block]; exact hn604_0) | (show (Addr.add _ _).block ≠ _; rw [add_block]; exact hn604_0) | exact hn604_0) (.string t592)).trans hx604_0
                      replace hx604_0 := (cell_far (p := ⟨gb587, 1, none⟩) (by first | (rw [add_block]; exact hn604_1) | (show (Addr.add _ _).block ≠ _; rw [add_block]; exact hn604_1) | exact hn604_1) (.int .i64 t593)).trans hx604_0
                      replace hx604_0 := (cell_far (p := ⟨gb587, 2, none⟩) (by first | (rw [add_block]; exact hn604_2) | (show (Addr.add _ _).block ≠ _; rw [add_block]; exact hn604_2) | exact hn604_2) (.slice Ao20 t594.length co20)).trans hx604_0
                      replace hx604_0 := (cell_far (p := ⟨gb587, 3, none⟩) (by first | (rw [add_block]; exact hn604_3) | (show (Addr.add _ _).block ≠ _; rw [add_block]; exact hn604_3) | exact hn604_3) (.int .i64 t597)).trans hx604_0
                      replace hx604_0 := (cell_far (p := ⟨gb587, 4, none⟩) (by first | (rw [add_block]; exact hn604_4) | (show (Addr.add _ _).block ≠ _; rw [add_block]; exact hn604_4) | exact hn604_4) (.int .i64 t598)).trans hx604_0
                      replace hx604_0 := (cell_far (p := ⟨gb587, 5, none⟩) (by first | (rw [add_block]; exact hn604_5) | (show (Addr.add _ _).block ≠ _; rw [add_block]; exact hn604_5) | exact hn604_5) (.int .i64 t599)).trans hx604_0
                      clear hn604_0
                      clear hn604_1
                      clear hn604_2
                      clear hn604_3
                      clear hn604_4
                      clear hn604_5
                      replace p604 := eq_true p604
                      replace q604 := eq_true q604
                      go_wp2
                      go_roundg kj10
                      case measure => have := HK1.out; have := HJ10.out; omega
                      case rel => exact ⟨(((rd t584 x8_1) == 0)), (wrap64 (x8_1 + 1)), (t592), (t593), (t594), (t597), (t598), (t599), (.slice Ao20 t594.length co20), (by first | rfl | (simp; done) | (simp [*]; done)), (by first | rfl | (simp; done) | (simp [*]; done)), H', ⟨by have := HK1.out; have := HJ10.out; omega⟩, ⟨by (with_reducible repeat (first | apply Kd.R_alloc | apply Kd.R_drewN | apply Kd.R_drew)); exact Kd.R_mono (Kd.R_far (p := ⟨gb587, 5, none⟩) (Kd.R_far (p := ⟨gb587, 4, none⟩) (Kd.R_far (p := ⟨gb587, 3, none⟩) (Kd.R_far (p := ⟨gb587, 2, none⟩) (Kd.R_far (p := ⟨gb587, 1, none⟩) (Kd.R_far (p := ⟨gb587, 0, none⟩) (Kd.R_types HO_5.out BK587.out (by decide)) (fun _ hk => hk.2) (.string t592)) (fun _ hk => hk.2) (.int .i64 t593)) (fun _ hk => hk.2) (.slice Ao20 t594.length co20)) (fun _ hk => hk.2) (.int .i64 t597)) (fun _ hk => hk.2) (.int .i64 t598)) (fun _ hk => hk.2) (.int .i64 t599)) (fun _ hk => trivial)⟩, ⟨by (with_reducible repeat (first | apply Kd.R_alloc | apply Kd.R_drewN | apply Kd.R_drew)); exact Kd.R_mono (Kd.R_far (p := ⟨gb587, 5, none⟩) (Kd.R_far (p := ⟨gb587, 4, none⟩) (Kd.R_far (p := ⟨gb587, 3, none⟩) (Kd.R_far (p := ⟨gb587, 2, none⟩) (Kd.R_far (p := ⟨gb587, 1, none⟩) (Kd.R_far (p := ⟨gb587, 0, none⟩) (Kd.R_types HO_602002.out BK587.out (by decide)) (fun _ hk => hk.2) (.string t592)) (fun _ hk => hk.2) (.int .i64 t593)) (fun _ hk => hk.2) (.slice Ao20 t594.length co20)) (fun _ hk => hk.2) (.int .i64 t597)) (fun _ hk => hk.2) (.int .i64 t598)) (fun _ hk => hk.2) (.int .i64 t599)) (fun _ hk => trivial)⟩, ⟨by (with_reducible repeat (first | refine blk_drewN ?_ _ | refine blk_drew ?_ | refine blk_alloc ?_ _)); refine blk_put (cs := #[.string t592, .int .i64 t593, .slice Ao20 t594.length co20, .int .i64 t597, .int .i64 t598, .int .i64 x588005_1]) ?_ 5 _ rfl; (with_reducible repeat (first | refine blk_drewN ?_ _ | refine blk_drew ?_ | refine blk_alloc ?_ _)); refine blk_put (cs := #[.string t592, .int .i64 t593, .slice Ao20 t594.length co20, .int .i64 t597, .int .i64 x588004_1, .int .i64 x588005_1]) ?_ 4 _ rfl; (with_reducible repeat (first | refine blk_drewN ?_ _ | refine blk_drew ?_ | refine blk_alloc ?_ _)); refine blk_put (cs := #[.string t592, .int .i64 t593, .slice Ao20 t594.length co20, .int .i64 x588003_1, .int .i64 x588004_1, .int .i64 x588005_1]) ?_ 3 _ rfl; (with_reducible repeat (first | refine blk_drewN ?_ _ | refine blk_drew ?_ | refine blk_alloc ?_ _)); refine blk_put (cs := #[.string t592, .int .i64 t593, .slice Ao13 x588002_1.length co13, .int .i64 x588003_1, .int .i64 x588004_1, .int .i64 x588005_1]) ?_ 2 _ rfl; (with_reducible repeat (first | refine blk_drewN ?_ _ | refine blk_drew ?_ | refine blk_alloc ?_ _)); refine blk_put (cs := #[.string t592, .int .i64 x588001_1, .slice Ao13 x588002_1.length co13, .int .i64 x588003_1, .int .i64 x588004_1, .int .i64 x588005_1]) ?_ 1 _ rfl; (with_reducible repeat (first | refine blk_drewN ?_ _ | refine blk_drew ?_ | refine blk_alloc ?_ _)); refine blk_put (cs := #[.string x588000_1, .int .i64 x588001_1, .slice Ao13 x588002_1.length co13, .int .i64 x588003_1, .int .i64 x588004_1, .int .i64 x588005_1]) ?_ 0 _ rfl; (with_reducible repeat (first | refine blk_drewN ?_ _ | refine blk_drew ?_ | refine blk_alloc ?_ _)); exact BK587.out⟩, ⟨by repeat (first | (with_reducible first | exact HB.out | apply below_alloc | apply pw_below_drewN | apply below_drew1 | refine below_set ?_ GE587.out | refine below_set ?_ GE601.out) | exact HB.out)⟩⟩
                  · rw [if_neg c28] at H
                    exact absurd H (by simp)
                · rw [if_neg c27] at H
                  exact absurd H (by simp)
        · rw [if_neg c8] at H
          exact absurd H (by simp)
      · rw [if_neg c7] at H
        have c7b0 : decide (x8_1 < (t584.length : Int)) = false := decide_eq_false c7
        clear c7
        replace H := Option.bind_eq_some_iff.mp H
        obtain ⟨t588, A360, H⟩ := H
        replace H : (if t588 = true then ((intervalmonlaw28_lives.f).bind fun t589 => (some t589)) else (some false)) = some r := H
        have A36 := Aside0.mk A360
        clear A360
        by_cases c37 : t588 = true
        · subst c37
          have H1 : ((intervalmonlaw28_lives.f).bind fun t589 => (some t589)) = some r := by rw [if_pos rfl] at H; exact H
          clear H
          have H := H1
          clear H1
          replace H := Option.bind_eq_some_iff.mp H
          obtain ⟨t589, A380, H⟩ := H
          replace H : (some t589) = some r := H
          have A38 := Aside0.mk A380
          clear A380
          obtain rfl := Option.some.inj H
          obtain ⟨Ao39, co39, eo39⟩ := Kd.R_slice HO_5.out
          subst eo39
          have hcz40_0 : wr.cell? ⟨gb587, 0, none⟩ = some (.string x588000_1) := (blk_cell BK587.out 0).trans rfl
          have hcz40_1 : wr.cell? ⟨gb587, 1, none⟩ = some (.int .i64 x588001_1) := (blk_cell BK587.out 1).trans rfl
          have hcz40_2 : wr.cell? ⟨gb587, 2, none⟩ = some (u588002) := (blk_cell BK587.out 2).trans rfl
          have hcz40_3 : wr.cell? ⟨gb587, 3, none⟩ = some (.int .i64 x588003_1) := (blk_cell BK587.out 3).trans rfl
          have hcz40_4 : wr.cell? ⟨gb587, 4, none⟩ = some (.int .i64 x588004_1) := (blk_cell BK587.out 4).trans rfl
          have hcz40_5 : wr.cell? ⟨gb587, 5, none⟩ = some (.int .i64 x588005_1) := (blk_cell BK587.out 5).trans rfl
          have hfz40_0 := blk_frozen BK587.out 0
          have hfz40_1 := blk_frozen BK587.out 1
          have hfz40_2 := blk_frozen BK587.out 2
          have hfz40_3 := blk_frozen BK587.out 3
          have hfz40_4 := blk_frozen BK587.out 4
          have hfz40_5 := blk_frozen BK587.out 5
          obtain ⟨Ao41, co41, eo41⟩ := Kd.R_slice HO_588002.out
          subst eo41
          go_wp2_with (first | ((with_reducible refine gate_callee (f := 15) rfl ?_); refine goesL_ (some 55) rfl rfl Tryd.func15 (by kernel_rfl) rfl #[.agg #[.string x588000_1, .int .i64 x588001_1, .slice Ao41 x588002_1.length co41, .int .i64 x588003_1, .int .i64 x588004_1, .int .i64 x588005_1]] rfl (by (try simp only [List.map_toArray, List.map_cons, List.map_nil]); first | done | rfl | (simp only [List.length_drop, List.length_take]; rfl)) ?_; (with_reducible refine (alert_Valid.calls k1 x588000_1 x588001_1 _ _ x588002_1 x588003_1 x588004_1 x588005_1 true _ ?side3 ?side1 ?side2 A36.out).mono ?_); (case side1 => repeat (first | exact (Kd.R_reads' HO_588002.out).2.2 | (with_reducible refine Kd.C_alloc ?_ _) | (with_reducible refine Kd.C_drewN ?_ _) | (with_reducible refine Kd.C_drew ?_))); (case side2 => exact (Kd.R_reads' HO_588002.out).2.1); (case side3 => first | exact Allowed.below HLd.out (by repeat (first | (with_reducible first | exact HB.out | apply below_alloc | apply pw_below_drewN | apply below_drew1 | refine below_set ?_ GE587.out) | exact HB.out)) | (repeat (first | exact HLd.out | apply Allowed.drewN | apply Allowed.drew | apply Allowed.alloc))); rintro e w42 ⟨rfl, hb⟩; refine ⟨_, rfl, ?_⟩; have n0_ := Aside0.mk (Kd.R_below (by (with_reducible repeat (first | apply Kd.R_alloc | apply Kd.R_drewN | apply Kd.R_drew)); exact HO_5.out) hb); have n1_ := Aside0.mk (Kd.R_below (by (with_reducible repeat (first | apply Kd.R_alloc | apply Kd.R_drewN | apply Kd.R_drew)); exact HO_588002.out) hb); have n2_ := Aside0.mk (blk_below (g := gb587) (o := .cells #[.string x588000_1, .int .i64 x588001_1, .slice Ao41 x588002_1.length co41, .int .i64 x588003_1, .int .i64 x588004_1, .int .i64 x588005_1] 25 (0, 0)) (by (with_reducible repeat (first | refine blk_drewN ?_ _ | refine blk_drew ?_ | refine blk_alloc ?_ _)); exact BK587.out) hb); have n3_ := Aside0.mk (below_step (by repeat (first | (with_reducible first | exact HB.out | apply below_alloc | apply pw_below_drewN | apply below_drew1 | refine below_set ?_ GE587.out) | exact HB.out)) hb); clear HO_5; clear HO_588002; clear BK587; clear HB; have HO_5 := n0_; have HO_588002 := n1_; have BK587 := n2_; have HB := n3_; clear n0_ n1_ n2_ n3_; (try clear hb); (try clear hb2); (try clear hk); (try clear hi)) | (go_at_call 17; (with_reducible refine (intervalmonlaw28_lives.calls  t589 _ ?side1 A38.out).mono ?_); (case side1 => first | exact Allowed.below HLd.out (by repeat (first | (with_reducible first | exact HB.out | apply below_alloc | apply pw_below_drewN | apply below_drew1 | refine below_set ?_ GE587.out) | exact HB.out)) | (repeat (first | exact HLd.out | apply Allowed.drewN | apply Allowed.drew | apply Allowed.alloc))); rintro e w43 ⟨rfl, hb⟩; have n0_ := Aside0.mk (Kd.R_below (by (with_reducible repeat (first | apply Kd.R_alloc | apply Kd.R_drewN | apply Kd.R_drew)); exact HO_5.out) hb); have n1_ := Aside0.mk (Kd.R_below (by (with_reducible repeat (first | apply Kd.R_alloc | apply Kd.R_drewN | apply Kd.R_drew)); exact HO_588002.out) hb); have n2_ := Aside0.mk (blk_below (g := gb587) (o := .cells #[.string x588000_1, .int .i64 x588001_1, .slice Ao41 x588002_1.length co41, .int .i64 x588003_1, .int .i64 x588004_1, .int .i64 x588005_1] 25 (0, 0)) (by (with_reducible repeat (first | refine blk_drewN ?_ _ | refine blk_drew ?_ | refine blk_alloc ?_ _)); exact BK587.out) hb); have n3_ := Aside0.mk (below_step (by repeat (first | (with_reducible first | exact HB.out | apply below_alloc | apply pw_below_drewN | apply below_drew1 | refine below_set ?_ GE587.out) | exact HB.out)) hb); clear HO_5; clear HO_588002; clear BK587; clear HB; have HO_5 := n0_; have HO_588002 := n1_; have BK587 := n2_; have HB := n3_; clear n0_ n1_ n2_ n3_; (try clear hb); (try clear hb2); (try clear hk); (try clear hi)))
          go_ret
          exact ⟨by first | rfl | (simp [errW_none, errW_some] <;> rfl) | (simp [*, errW_none, errW_some] <;> rfl), by repeat (first | (with_reducible first | exact HB.out | apply below_alloc | apply pw_below_drewN | apply below_drew1 | refine below_set ?_ GE587.out) | exact HB.out)⟩
        · replace c37 := Bool.eq_false_iff.mpr c37
          subst c37
          have H1 : (some false) = some r := by rw [if_neg (show ¬ (false = true) by decide)] at H; exact H
          clear H
          have H := H1
          clear H1
          obtain rfl := Option.some.inj H
          obtain ⟨Ao44, co44, eo44⟩ := Kd.R_slice HO_5.out
          subst eo44
          have hcz45_0 : wr.cell? ⟨gb587, 0, none⟩ = some (.string x588000_1) := (blk_cell BK587.out 0).trans rfl
          have hcz45_1 : wr.cell? ⟨gb587, 1, none⟩ = some (.int .i64 x588001_1) := (blk_cell BK587.out 1).trans rfl
          have hcz45_2 : wr.cell? ⟨gb587, 2, none⟩ = some (u588002) := (blk_cell BK587.out 2).trans rfl
          have hcz45_3 : wr.cell? ⟨gb587, 3, none⟩ = some (.int .i64 x588003_1) := (blk_cell BK587.out 3).trans rfl
          have hcz45_4 : wr.cell? ⟨gb587, 4, none⟩ = some (.int .i64 x588004_1) := (blk_cell BK587.out 4).trans rfl
          have hcz45_5 : wr.cell? ⟨gb587, 5, none⟩ = some (.int .i64 x588005_1) := (blk_cell BK587.out 5).trans rfl
          have hfz45_0 := blk_frozen BK587.out 0
          have hfz45_1 := blk_frozen BK587.out 1
          have hfz45_2 := blk_frozen BK587.out 2
          have hfz45_3 := blk_frozen BK587.out 3
          have hfz45_4 := blk_frozen BK587.out 4
          have hfz45_5 := blk_frozen BK587.out 5
          obtain ⟨Ao46, co46, eo46⟩ := Kd.R_slice HO_588002.out
          subst eo46
          go_wp2_with (first | ((with_reducible refine gate_callee (f := 15) rfl ?_); refine goesL_ (some 55) rfl rfl Tryd.func15 (by kernel_rfl) rfl #[.agg #[.string x588000_1, .int .i64 x588001_1, .slice Ao46 x588002_1.length co46, .int .i64 x588003_1, .int .i64 x588004_1, .int .i64 x588005_1]] rfl (by (try simp only [List.map_toArray, List.map_cons, List.map_nil]); first | done | rfl | (simp only [List.length_drop, List.length_take]; rfl)) ?_; (with_reducible refine (alert_Valid.calls k1 x588000_1 x588001_1 _ _ x588002_1 x588003_1 x588004_1 x588005_1 false _ ?side3 ?side1 ?side2 A36.out).mono ?_); (case side1 => repeat (first | exact (Kd.R_reads' HO_588002.out).2.2 | (with_reducible refine Kd.C_alloc ?_ _) | (with_reducible refine Kd.C_drewN ?_ _) | (with_reducible refine Kd.C_drew ?_))); (case side2 => exact (Kd.R_reads' HO_588002.out).2.1); (case side3 => first | exact Allowed.below HLd.out (by repeat (first | (with_reducible first | exact HB.out | apply below_alloc | apply pw_below_drewN | apply below_drew1 | refine below_set ?_ GE587.out) | exact HB.out)) | (repeat (first | exact HLd.out | apply Allowed.drewN | apply Allowed.drew | apply Allowed.alloc))); rintro e w47 ⟨rfl, hb⟩; refine ⟨_, rfl, ?_⟩; have n0_ := Aside0.mk (Kd.R_below (by (with_reducible repeat (first | apply Kd.R_alloc | apply Kd.R_drewN | apply Kd.R_drew)); exact HO_5.out) hb); have n1_ := Aside0.mk (Kd.R_below (by (with_reducible repeat (first | apply Kd.R_alloc | apply Kd.R_drewN | apply Kd.R_drew)); exact HO_588002.out) hb); have n2_ := Aside0.mk (blk_below (g := gb587) (o := .cells #[.string x588000_1, .int .i64 x588001_1, .slice Ao46 x588002_1.length co46, .int .i64 x588003_1, .int .i64 x588004_1, .int .i64 x588005_1] 25 (0, 0)) (by (with_reducible repeat (first | refine blk_drewN ?_ _ | refine blk_drew ?_ | refine blk_alloc ?_ _)); exact BK587.out) hb); have n3_ := Aside0.mk (below_step (by repeat (first | (with_reducible first | exact HB.out | apply below_alloc | apply pw_below_drewN | apply below_drew1 | refine below_set ?_ GE587.out) | exact HB.out)) hb); clear HO_5; clear HO_588002; clear BK587; clear HB; have HO_5 := n0_; have HO_588002 := n1_; have BK587 := n2_; have HB := n3_; clear n0_ n1_ n2_ n3_; (try clear hb); (try clear hb2); (try clear hk); (try clear hi)))
          go_ret
          exact ⟨by first | rfl | (simp [errW_none, errW_some] <;> rfl) | (simp [*, errW_none, errW_some] <;> rfl), by repeat (first | (with_reducible first | exact HB.out | apply below_alloc | apply pw_below_drewN | apply below_drew1 | refine below_set ?_ GE587.out) | exact HB.out)⟩

/-- THE ONE PURE STATEMENT of intervalmonlaw28_AlertOnce: yours. -/
def intervalmonlaw28_AlertOnce.Pure : Prop := ∀ (l0 : List Int) (a1 : Int), l0.length ≤ maxLen → l0.length * 8 ≤ 140737488351232 → (∀ x ∈ l0, (Lit.int .i64 x).wf = true) → (Lit.int .i64 a1).wf = true → ∃ k, intervalmonlaw28_AlertOnce.f k l0 a1 = some true
theorem intervalmonlaw28_AlertOnce.walk (P : intervalmonlaw28_AlertOnce.Pure) (a0 : Option Addr) (len0 cap0 : Nat) (z0 : List Int) (a1 : Int) (w : World) (hLd : Allowed w) (w0 : (a0 = none ∧ len0 = 0 ∧ cap0 = 0 ∧ z0 = []) ∨ ∃ x, a0 = some x ∧ len0 ≤ cap0 ∧ cap0 ≤ maxLen ∧ z0.length = cap0 ∧ (∀ i, i < z0.length → w.cell? (x.add i) = some (.int .i64 (z0.getD i 0))) ∧ ∀ n ∈ z0, (Lit.int .i64 n).wf = true) (y0 : len0 * 8 ≤ 140737488351232) (w1 : (Lit.int .i64 a1).wf = true) :
    Calls Tryd.prog 8 #[.slice a0 len0 cap0, .int .i64 a1] w fun e w' => e = .returned (.bool true) ∧ Below w.heap.size w w' := by
  obtain ⟨l0, rfl, hr0, hm0, hw0, hc0⟩ := ReadsInt.ofRowC w0
  obtain ⟨k, h⟩ := P l0 a1 hm0 y0 hw0 w1
  refine (intervalmonlaw28_AlertOnce.calls k _ _ l0 a1 true w hLd (Kd.C_of_reads (d := (0 : Int)) (h1 := fun _ => rfl) hr0) hc0 h).mono ?_
  rintro e w' ⟨rfl, hd⟩
  exact ⟨rfl, hd⟩

end Go.Proofs.YtbbddeilbcpmiaaDoor.Q
