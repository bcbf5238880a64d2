-- Written by a program (pp: this repo's wip/pp/patch.py over the kit's print), out of the translation. Lean checks it.
import Derived.Test.YtbbddeilbcpmiaaDoorQ0
import Derived.Test.YtbbddeilbcpmiaaDoorQ16
namespace Go.Proofs.YtbbddeilbcpmiaaDoor.Q
open Go.RowKit Go.Proofs.YtbbddeilbcpmiaaDoorW.PrintWords Go.Proofs.YtbbddeilbcpmiaaDoorW.PrintLast Go.Proofs.YtbbddeilbcpmiaaDoorW.PrintMore
attribute [local go_sem] max2_int min2_int max_two min_two max_three min_three max_four min_four   -- for this text's walks alone
set_option linter.unusedVariables false
set_option linter.unusedSimpArgs false

/-! ### alert_Escalate: function 21 -/
mutual
def alert_Escalate.j0 : Nat → Int → Int → Int → Bool → ByteArray → Int → List (S35) → Int → Int → Int → Option (ByteArray × Int × (List (S35)) × Int × Int × Int × Bool)
 | 0, _, _, _, _, _, _, _, _, _, _ => none
 | k + 1, x1, x2, x3, x23, x406000, x406001, x406002, x406003, x406004, x406005 => if x23 = true then ((alert_copied.f x406000 x406001 x406002 x406003 x406004 x406005).bind fun bt408 => (some (bt408.1, bt408.2.1, bt408.2.2.1, bt408.2.2.2.1, bt408.2.2.2.2.1, bt408.2.2.2.2.2, false))) else (if x2 < 0 then (alert_Escalate.j1 k x1 true x406000 x406001 x406002 x406003 x406004 x406005) else (if (wrap64 (x1 - x406004)) < x2 then (alert_Escalate.j1 k x1 true x406000 x406001 x406002 x406003 x406004 x406005) else (alert_Escalate.j1 k x1 (decide (x406005 ≥ (mn x3 16))) x406000 x406001 x406002 x406003 x406004 x406005)))
def alert_Escalate.j1 : Nat → Int → Bool → ByteArray → Int → List (S35) → Int → Int → Int → Option (ByteArray × Int × (List (S35)) × Int × Int × Int × Bool)
 | 0, _, _, _, _, _, _, _, _ => none
 | k + 1, x1, x42, x406000, x406001, x406002, x406003, x406004, x406005 => if x42 = true then ((alert_copied.f x406000 x406001 x406002 x406003 x406004 x406005).bind fun bt416 => (some (bt416.1, bt416.2.1, bt416.2.2.1, bt416.2.2.2.1, bt416.2.2.2.2.1, bt416.2.2.2.2.2, false))) else ((alert_changed.f x406000 x406001 x406002 x406003 x406004 x406005 4 x1 (wrap64 (x406005 + 1))).bind fun bt424 => (some (bt424.1, bt424.2.1, bt424.2.2.1, bt424.2.2.2.1, bt424.2.2.2.2.1, bt424.2.2.2.2.2, true)))
end
def alert_Escalate.f (k : Nat) (a0_0 : ByteArray) (a0_1 : Int) (l0_2 : List (S35)) (a0_3 : Int) (a0_4 : Int) (a0_5 : Int) (a1 : Int) (a2 : Int) (a3 : Int) : Option (ByteArray × Int × (List (S35)) × Int × Int × Int × Bool) := (alert_at.f k a0_0 a0_1 l0_2 a0_3 a0_4 a0_5 a1).bind fun t407 => (if t407 = true then (if a0_3 = 2 then (alert_Escalate.j0 k a1 a2 a3 false a0_0 a0_1 l0_2 a0_3 a0_4 a0_5) else (alert_Escalate.j0 k a1 a2 a3 (a0_3 != 4) a0_0 a0_1 l0_2 a0_3 a0_4 a0_5)) else (alert_Escalate.j0 k a1 a2 a3 true a0_0 a0_1 l0_2 a0_3 a0_4 a0_5))
set_option maxHeartbeats 8000000 in
set_option maxRecDepth 100000 in
theorem alert_Escalate.calls (k : Nat) (a0_0 : ByteArray) (a0_1 : Int) (A0_2 : Option Addr) (c0_2 : Nat) (l0_2 : List (S35)) (a0_3 : Int) (a0_4 : Int) (a0_5 : Int) (a1 : Int) (a2 : Int) (a3 : Int) (r1 : ByteArray) (r2 : Int) (r3 : List (S35)) (r4 : Int) (r5 : Int) (r6 : Int) (r7 : Bool) (w : World) (hLd : Allowed w) (hr0_2 : Kd.C k35 w A0_2 l0_2.length l0_2) (hc0_2 : l0_2.length ≤ c0_2) (h : alert_Escalate.f k a0_0 a0_1 l0_2 a0_3 a0_4 a0_5 a1 a2 a3 = some (r1, r2, r3, r4, r5, r6, r7)) :
  Calls Tryd.prog 21 #[.agg #[.string a0_0, .int .i64 a0_1, .slice A0_2 l0_2.length c0_2, .int .i64 a0_3, .int .i64 a0_4, .int .i64 a0_5], .int .i64 a1, .int .i64 a2, .int .i64 a3] w fun e w' => ∃ v2_ : Value, e = .returned (.tuple #[.agg #[.string r1, .int .i64 r2, v2_, .int .i64 r4, .int .i64 r5, .int .i64 r6], .bool r7]) ∧ Kd.R k35 35 w' w.heap.size (fun _ => True) v2_ r3 ∧ Below w.heap.size w w' := by
 have hu25 := Tryd.underlying25
 have HLd := Aside0.mk hLd
 clear hLd
 have HR0_2 := Aside0.mk hr0_2
 have HC0_2 := Aside0.mk hc0_2
 clear hr0_2 hc0_2
 have HB := Aside0.mk (Below.refl w.heap.size w)
 have H : ((alert_at.f k a0_0 a0_1 l0_2 a0_3 a0_4 a0_5 a1).bind fun t407 => (if t407 = true then (if a0_3 = 2 then (alert_Escalate.j0 k a1 a2 a3 false a0_0 a0_1 l0_2 a0_3 a0_4 a0_5) else (alert_Escalate.j0 k a1 a2 a3 (a0_3 != 4) a0_0 a0_1 l0_2 a0_3 a0_4 a0_5)) else (alert_Escalate.j0 k a1 a2 a3 true a0_0 a0_1 l0_2 a0_3 a0_4 a0_5))) = some (r1, r2, r3, r4, r5, r6, r7) := h
 clear h
 have HC5 := Aside0.mk H
 clear H
 go_enter Tryd.func21, Tryd.ntmps21
 go_upto_region 1 with (first | ((with_reducible refine gate_dst (N := 4) rfl ?_); (try (refine gate_guard (by rfl) ?_; dsimp only)); refine box_event ?hg (N := 4) ?hd (cs := #[.string a0_0, .int .i64 a0_1, .slice A0_2 l0_2.length c0_2, .int .i64 a0_3, .int .i64 a0_4, .int .i64 a0_5]) (t := 25) ?hr ?_; (case hd => rfl); (case hg => rfl); (case hr => first | (go_simp; done) | (go_simp; rfl)); intro gb405 hg w6 hbox hb; have n0_ := Aside0.mk (below_step (by repeat (first | (with_reducible first | exact HB.out | apply below_alloc | apply pw_below_drewN | apply below_drew1) | exact HB.out)) hb); have n1_ := Aside0.mk (hbox); have n2_ := Aside0.mk ((by rw [hg]; exact (below_size (by repeat (first | (with_reducible first | exact HB.out | apply below_alloc | apply pw_below_drewN | apply below_drew1) | exact HB.out))) : w.heap.size ≤ gb405)); have n3_ := Aside0.mk ((by rw [hg]; exact (below_size (by repeat (first | (with_reducible first | exact HB.out | apply below_alloc | apply pw_below_drewN | apply below_drew1) | exact HB.out))) : w.heap.size ≤ gb405)); clear HB; have HB := n0_; have BK405 := n1_; have GW405 := n2_; have GE405 := n3_; clear n0_ n1_ n2_ n3_; clear hb hbox hg) | ((with_reducible refine gate_dst (N := 8) rfl ?_); (try (refine gate_guard (by rfl) ?_; dsimp only)); refine box_event ?hg (N := 8) ?hd (cs := #[.string (⟨#[]⟩ : ByteArray), .int .i64 0, .slice none 0 0, .int .i64 0, .int .i64 0, .int .i64 0]) (t := 25) ?hr ?_; (case hd => rfl); (case hg => rfl); (case hr => first | (go_simp; done) | (go_simp; rfl)); intro gb406 hg w7 hbox hb; have n0_ := Aside0.mk (blk_below (g := gb405) (o := .cells #[.string a0_0, .int .i64 a0_1, .slice A0_2 l0_2.length c0_2, .int .i64 a0_3, .int .i64 a0_4, .int .i64 a0_5] 25 (0, 0)) (by (with_reducible repeat (first | refine blk_drewN ?_ _ | refine blk_drew ?_ | refine blk_alloc ?_ _)); exact BK405.out) hb); have n1_ := Aside0.mk (below_step (by repeat (first | (with_reducible first | exact HB.out | apply below_alloc | apply pw_below_drewN | apply below_drew1 | refine below_set ?_ GE405.out) | exact HB.out)) hb); have n2_ := Aside0.mk (hbox); have n3_ := Aside0.mk ((by rw [hg]; exact (below_size (by repeat (first | (with_reducible first | exact HB.out | apply below_alloc | apply pw_below_drewN | apply below_drew1 | refine below_set ?_ GE405.out) | exact HB.out))) : w.heap.size ≤ gb406)); have n4_ := Aside0.mk ((by rw [hg]; exact (below_size (by repeat (first | (with_reducible first | exact HB.out | apply below_alloc | apply pw_below_drewN | apply below_drew1 | refine below_set ?_ GE405.out) | exact HB.out))) : w.heap.size ≤ gb406)); have n5_ := Aside0.mk ((by rw [hg]; exact Nat.ne_of_lt (blk_lt (g := gb405) (o := .cells #[.string a0_0, .int .i64 a0_1, .slice A0_2 l0_2.length c0_2, .int .i64 a0_3, .int .i64 a0_4, .int .i64 a0_5] 25 (0, 0)) (by (with_reducible repeat (first | refine blk_drewN ?_ _ | refine blk_drew ?_ | refine blk_alloc ?_ _)); exact BK405.out)) : gb405 ≠ gb406)); have n6_ := Aside0.mk ((by rw [hg]; exact Nat.ne_of_gt (blk_lt (g := gb405) (o := .cells #[.string a0_0, .int .i64 a0_1, .slice A0_2 l0_2.length c0_2, .int .i64 a0_3, .int .i64 a0_4, .int .i64 a0_5] 25 (0, 0)) (by (with_reducible repeat (first | refine blk_drewN ?_ _ | refine blk_drew ?_ | refine blk_alloc ?_ _)); exact BK405.out)) : gb406 ≠ gb405)); clear BK405; clear HB; have BK405 := n0_; have HB := n1_; have BK406 := n2_; have GW406 := n3_; have GE406 := n4_; have NB405_406 := n5_; have NB406_405 := n6_; clear n0_ n1_ n2_ n3_ n4_ n5_ n6_; clear hb hbox hg))
 (try simp only [Act.put, List.setIfInBounds_toArray, List.set_cons_zero, List.set_cons_succ])
 go_cut [23] (fun v23 wc => ∃ (kq : Nat) (x23_4 : Bool), v23 = .bool x23_4 ∧ Aside0 (alert_Escalate.j0 kq a1 a2 a3 x23_4 a0_0 a0_1 l0_2 a0_3 a0_4 a0_5 = some (r1, r2, r3, r4, r5, r6, r7)) ∧ Aside0 (kq ≤ k) ∧ Aside0 (wc.heap[gb405]? = some (.cells #[.string a0_0, .int .i64 a0_1, (.slice A0_2 l0_2.length c0_2), .int .i64 a0_3, .int .i64 a0_4, .int .i64 a0_5] 25 (0, 0))) ∧ Aside0 (wc.heap[gb406]? = some (.cells #[.string (⟨#[]⟩ : ByteArray), .int .i64 0, (.slice none 0 0), .int .i64 0, .int .i64 0, .int .i64 0] 25 (0, 0))) ∧ Aside0 (Below w.heap.size w wc))
 case first =>
  have H := HC5.out
  clear HC5
  replace H := Option.bind_eq_some_iff.mp H
  obtain ⟨t407, A80, H⟩ := H
  replace H : (if t407 = true then (if a0_3 = 2 then (alert_Escalate.j0 k a1 a2 a3 false a0_0 a0_1 l0_2 a0_3 a0_4 a0_5) else (alert_Escalate.j0 k a1 a2 a3 (a0_3 != 4) a0_0 a0_1 l0_2 a0_3 a0_4 a0_5)) else (alert_Escalate.j0 k a1 a2 a3 true a0_0 a0_1 l0_2 a0_3 a0_4 a0_5)) = some (r1, r2, r3, r4, r5, r6, r7) := H
  have A8 := Aside0.mk A80
  clear A80
  by_cases c9 : t407 = true
  ·
   subst c9
   have H1 : (if a0_3 = 2 then (alert_Escalate.j0 k a1 a2 a3 false a0_0 a0_1 l0_2 a0_3 a0_4 a0_5) else (alert_Escalate.j0 k a1 a2 a3 (a0_3 != 4) a0_0 a0_1 l0_2 a0_3 a0_4 a0_5)) = some (r1, r2, r3, r4, r5, r6, r7) := by rw [if_pos rfl] at H; exact H
   clear H
   have H := H1
   clear H1
   by_cases c10 : a0_3 = 2
   ·
    rw [if_pos c10] at H
    have c10b0 : (a0_3 == 2) = true := beq_iff_eq.mpr c10
    have c10b1 : (a0_3 != 2) = false := bne_eq_false_iff_eq.mpr c10
    clear c10
    (first | rw [c10b0] | (simp only [i64_w, i32_w]; rw [c10b0]) | skip)
    have H' := Aside0.mk H
    clear H
    have hnb11 := NB405_406.out
    have hnc11 := NB406_405.out
    have hcz12_0 : w7.cell? ⟨gb405, 0, none⟩ = some (.string a0_0) := (blk_cell BK405.out 0).trans rfl
    have hcz12_1 : w7.cell? ⟨gb405, 1, none⟩ = some (.int .i64 a0_1) := (blk_cell BK405.out 1).trans rfl
    have hcz12_2 : w7.cell? ⟨gb405, 2, none⟩ = some (.slice A0_2 l0_2.length c0_2) := (blk_cell BK405.out 2).trans rfl
    have hcz12_3 : w7.cell? ⟨gb405, 3, none⟩ = some (.int .i64 a0_3) := (blk_cell BK405.out 3).trans rfl
    have hcz12_4 : w7.cell? ⟨gb405, 4, none⟩ = some (.int .i64 a0_4) := (blk_cell BK405.out 4).trans rfl
    have hcz12_5 : w7.cell? ⟨gb405, 5, none⟩ = some (.int .i64 a0_5) := (blk_cell BK405.out 5).trans rfl
    have hfz12_0 := blk_frozen BK405.out 0
    have hfz12_1 := blk_frozen BK405.out 1
    have hfz12_2 := blk_frozen BK405.out 2
    have hfz12_3 := blk_frozen BK405.out 3
    have hfz12_4 := blk_frozen BK405.out 4
    have hfz12_5 := blk_frozen BK405.out 5
    go_wp2_with (first | ((with_reducible refine gate_callee (f := 48) rfl ?_); refine goesL_ (some 12) rfl rfl Tryd.func48 (by kernel_rfl) rfl #[.agg #[.string a0_0, .int .i64 a0_1, .slice A0_2 l0_2.length c0_2, .int .i64 a0_3, .int .i64 a0_4, .int .i64 a0_5], .int .i64 a1] rfl (by (try simp only [List.map_toArray, List.map_cons, List.map_nil]); first | done | rfl | (simp only [List.length_drop, List.length_take]; rfl)) ?_; (with_reducible refine (alert_at.calls k a0_0 a0_1 _ _ l0_2 a0_3 a0_4 a0_5 a1 true _ ?side3 ?side1 ?side2 A8.out).mono ?_); (case side1 => repeat (first | exact (Kd.C_below HR0_2.out HB.out) | (with_reducible refine Kd.C_alloc ?_ _) | (with_reducible refine Kd.C_drewN ?_ _) | (with_reducible refine Kd.C_drew ?_))); (case side2 => exact HC0_2.out); (case side3 => first | exact Allowed.below HLd.out (by repeat (first | (with_reducible first | exact HB.out | apply below_alloc | apply pw_below_drewN | apply below_drew1 | refine below_set ?_ GE405.out | refine below_set ?_ GE406.out) | exact HB.out)) | (repeat (first | exact HLd.out | apply Allowed.drewN | apply Allowed.drew | apply Allowed.alloc))); rintro e w13 ⟨rfl, hb⟩; refine ⟨_, rfl, ?_⟩; have n0_ := Aside0.mk (blk_below (g := gb405) (o := .cells #[.string a0_0, .int .i64 a0_1, .slice A0_2 l0_2.length c0_2, .int .i64 a0_3, .int .i64 a0_4, .int .i64 a0_5] 25 (0, 0)) (by (with_reducible repeat (first | refine blk_drewN ?_ _ | refine blk_drew ?_ | refine blk_alloc ?_ _)); exact BK405.out) hb); have n1_ := Aside0.mk (blk_below (g := gb406) (o := .cells #[.string (⟨#[]⟩ : ByteArray), .int .i64 0, .slice none 0 0, .int .i64 0, .int .i64 0, .int .i64 0] 25 (0, 0)) (by (with_reducible repeat (first | refine blk_drewN ?_ _ | refine blk_drew ?_ | refine blk_alloc ?_ _)); exact BK406.out) hb); have n2_ := Aside0.mk (below_step (by repeat (first | (with_reducible first | exact HB.out | apply below_alloc | apply pw_below_drewN | apply below_drew1 | refine below_set ?_ GE405.out | refine below_set ?_ GE406.out) | exact HB.out)) hb); clear BK405; clear BK406; clear HB; have BK405 := n0_; have BK406 := n1_; have HB := n2_; clear n0_ n1_ n2_; (try clear hb); (try clear hb2); (try clear hk); (try clear hi); have hcz14_0 : w13.cell? ⟨gb405, 0, none⟩ = some (.string a0_0) := (blk_cell BK405.out 0).trans rfl; have hcz14_1 : w13.cell? ⟨gb405, 1, none⟩ = some (.int .i64 a0_1) := (blk_cell BK405.out 1).trans rfl; have hcz14_2 : w13.cell? ⟨gb405, 2, none⟩ = some (.slice A0_2 l0_2.length c0_2) := (blk_cell BK405.out 2).trans rfl; have hcz14_3 : w13.cell? ⟨gb405, 3, none⟩ = some (.int .i64 a0_3) := (blk_cell BK405.out 3).trans rfl; have hcz14_4 : w13.cell? ⟨gb405, 4, none⟩ = some (.int .i64 a0_4) := (blk_cell BK405.out 4).trans rfl; have hcz14_5 : w13.cell? ⟨gb405, 5, none⟩ = some (.int .i64 a0_5) := (blk_cell BK405.out 5).trans rfl; have hfz14_0 := blk_frozen BK405.out 0; have hfz14_1 := blk_frozen BK405.out 1; have hfz14_2 := blk_frozen BK405.out 2; have hfz14_3 := blk_frozen BK405.out 3; have hfz14_4 := blk_frozen BK405.out 4; have hfz14_5 := blk_frozen BK405.out 5))
    go_meet
    case rel => exact ⟨_, (false), (by first | rfl | (simp; done) | (simp [*]; done)), H', ⟨by first | omega | exact Nat.le_refl _⟩, ⟨by (with_reducible repeat (first | refine blk_drewN ?_ _ | refine blk_drew ?_ | refine blk_alloc ?_ _)); exact BK405.out⟩, ⟨by (with_reducible repeat (first | refine blk_drewN ?_ _ | refine blk_drew ?_ | refine blk_alloc ?_ _)); exact BK406.out⟩, ⟨by repeat (first | (with_reducible first | exact HB.out | apply below_alloc | apply pw_below_drewN | apply below_drew1 | refine below_set ?_ GE405.out | refine below_set ?_ GE406.out) | exact HB.out)⟩⟩
   ·
    rw [if_neg c10] at H
    have c10b0 : (a0_3 == 2) = false := beq_eq_false_iff_ne.mpr c10
    have c10b1 : (a0_3 != 2) = true := bne_iff_ne.mpr c10
    (first | rw [c10b0] | (simp only [i64_w, i32_w]; rw [c10b0]) | skip)
    have H' := Aside0.mk H
    clear H
    have hnb15 := NB405_406.out
    have hnc15 := NB406_405.out
    have hcz16_0 : w7.cell? ⟨gb405, 0, none⟩ = some (.string a0_0) := (blk_cell BK405.out 0).trans rfl
    have hcz16_1 : w7.cell? ⟨gb405, 1, none⟩ = some (.int .i64 a0_1) := (blk_cell BK405.out 1).trans rfl
    have hcz16_2 : w7.cell? ⟨gb405, 2, none⟩ = some (.slice A0_2 l0_2.length c0_2) := (blk_cell BK405.out 2).trans rfl
    have hcz16_3 : w7.cell? ⟨gb405, 3, none⟩ = some (.int .i64 a0_3) := (blk_cell BK405.out 3).trans rfl
    have hcz16_4 : w7.cell? ⟨gb405, 4, none⟩ = some (.int .i64 a0_4) := (blk_cell BK405.out 4).trans rfl
    have hcz16_5 : w7.cell? ⟨gb405, 5, none⟩ = some (.int .i64 a0_5) := (blk_cell BK405.out 5).trans rfl
    have hfz16_0 := blk_frozen BK405.out 0
    have hfz16_1 := blk_frozen BK405.out 1
    have hfz16_2 := blk_frozen BK405.out 2
    have hfz16_3 := blk_frozen BK405.out 3
    have hfz16_4 := blk_frozen BK405.out 4
    have hfz16_5 := blk_frozen BK405.out 5
    go_wp2_with (first | ((with_reducible refine gate_callee (f := 48) rfl ?_); refine goesL_ (some 12) rfl rfl Tryd.func48 (by kernel_rfl) rfl #[.agg #[.string a0_0, .int .i64 a0_1, .slice A0_2 l0_2.length c0_2, .int .i64 a0_3, .int .i64 a0_4, .int .i64 a0_5], .int .i64 a1] rfl (by (try simp only [List.map_toArray, List.map_cons, List.map_nil]); first | done | rfl | (simp only [List.length_drop, List.length_take]; rfl)) ?_; (with_reducible refine (alert_at.calls k a0_0 a0_1 _ _ l0_2 a0_3 a0_4 a0_5 a1 true _ ?side3 ?side1 ?side2 A8.out).mono ?_); (case side1 => repeat (first | exact (Kd.C_below HR0_2.out HB.out) | (with_reducible refine Kd.C_alloc ?_ _) | (with_reducible refine Kd.C_drewN ?_ _) | (with_reducible refine Kd.C_drew ?_))); (case side2 => exact HC0_2.out); (case side3 => first | exact Allowed.below HLd.out (by repeat (first | (with_reducible first | exact HB.out | apply below_alloc | apply pw_below_drewN | apply below_drew1 | refine below_set ?_ GE405.out | refine below_set ?_ GE406.out) | exact HB.out)) | (repeat (first | exact HLd.out | apply Allowed.drewN | apply Allowed.drew | apply Allowed.alloc))); rintro e w17 ⟨rfl, hb⟩; refine ⟨_, rfl, ?_⟩; have n0_ := Aside0.mk (blk_below (g := gb405) (o := .cells #[.string a0_0, .int .i64 a0_1, .slice A0_2 l0_2.length c0_2, .int .i64 a0_3, .int .i64 a0_4, .int .i64 a0_5] 25 (0, 0)) (by (with_reducible repeat (first | refine blk_drewN ?_ _ | refine blk_drew ?_ | refine blk_alloc ?_ _)); exact BK405.out) hb); have n1_ := Aside0.mk (blk_below (g := gb406) (o := .cells #[.string (⟨#[]⟩ : ByteArray), .int .i64 0, .slice none 0 0, .int .i64 0, .int .i64 0, .int .i64 0] 25 (0, 0)) (by (with_reducible repeat (first | refine blk_drewN ?_ _ | refine blk_drew ?_ | refine blk_alloc ?_ _)); exact BK406.out) hb); have n2_ := Aside0.mk (below_step (by repeat (first | (with_reducible first | exact HB.out | apply below_alloc | apply pw_below_drewN | apply below_drew1 | refine below_set ?_ GE405.out | refine below_set ?_ GE406.out) | exact HB.out)) hb); clear BK405; clear BK406; clear HB; have BK405 := n0_; have BK406 := n1_; have HB := n2_; clear n0_ n1_ n2_; (try clear hb); (try clear hb2); (try clear hk); (try clear hi); have hcz18_0 : w17.cell? ⟨gb405, 0, none⟩ = some (.string a0_0) := (blk_cell BK405.out 0).trans rfl; have hcz18_1 : w17.cell? ⟨gb405, 1, none⟩ = some (.int .i64 a0_1) := (blk_cell BK405.out 1).trans rfl; have hcz18_2 : w17.cell? ⟨gb405, 2, none⟩ = some (.slice A0_2 l0_2.length c0_2) := (blk_cell BK405.out 2).trans rfl; have hcz18_3 : w17.cell? ⟨gb405, 3, none⟩ = some (.int .i64 a0_3) := (blk_cell BK405.out 3).trans rfl; have hcz18_4 : w17.cell? ⟨gb405, 4, none⟩ = some (.int .i64 a0_4) := (blk_cell BK405.out 4).trans rfl; have hcz18_5 : w17.cell? ⟨gb405, 5, none⟩ = some (.int .i64 a0_5) := (blk_cell BK405.out 5).trans rfl; have hfz18_0 := blk_frozen BK405.out 0; have hfz18_1 := blk_frozen BK405.out 1; have hfz18_2 := blk_frozen BK405.out 2; have hfz18_3 := blk_frozen BK405.out 3; have hfz18_4 := blk_frozen BK405.out 4; have hfz18_5 := blk_frozen BK405.out 5))
    go_meet
    case rel => exact ⟨_, ((a0_3 != 4)), (by first | rfl | (simp; done) | (simp [*]; done)), H', ⟨by first | omega | exact Nat.le_refl _⟩, ⟨by (with_reducible repeat (first | refine blk_drewN ?_ _ | refine blk_drew ?_ | refine blk_alloc ?_ _)); exact BK405.out⟩, ⟨by (with_reducible repeat (first | refine blk_drewN ?_ _ | refine blk_drew ?_ | refine blk_alloc ?_ _)); exact BK406.out⟩, ⟨by repeat (first | (with_reducible first | exact HB.out | apply below_alloc | apply pw_below_drewN | apply below_drew1 | refine below_set ?_ GE405.out | refine below_set ?_ GE406.out) | exact HB.out)⟩⟩
  ·
   replace c9 := Bool.eq_false_iff.mpr c9
   subst c9
   have H1 : (alert_Escalate.j0 k a1 a2 a3 true a0_0 a0_1 l0_2 a0_3 a0_4 a0_5) = some (r1, r2, r3, r4, r5, r6, r7) := by rw [if_neg (show ¬ (false = true) by decide)] at H; exact H
   clear H
   have H := H1
   clear H1
   have H' := Aside0.mk H
   clear H
   have hnb19 := NB405_406.out
   have hnc19 := NB406_405.out
   have hcz20_0 : w7.cell? ⟨gb405, 0, none⟩ = some (.string a0_0) := (blk_cell BK405.out 0).trans rfl
   have hcz20_1 : w7.cell? ⟨gb405, 1, none⟩ = some (.int .i64 a0_1) := (blk_cell BK405.out 1).trans rfl
   have hcz20_2 : w7.cell? ⟨gb405, 2, none⟩ = some (.slice A0_2 l0_2.length c0_2) := (blk_cell BK405.out 2).trans rfl
   have hcz20_3 : w7.cell? ⟨gb405, 3, none⟩ = some (.int .i64 a0_3) := (blk_cell BK405.out 3).trans rfl
   have hcz20_4 : w7.cell? ⟨gb405, 4, none⟩ = some (.int .i64 a0_4) := (blk_cell BK405.out 4).trans rfl
   have hcz20_5 : w7.cell? ⟨gb405, 5, none⟩ = some (.int .i64 a0_5) := (blk_cell BK405.out 5).trans rfl
   have hfz20_0 := blk_frozen BK405.out 0
   have hfz20_1 := blk_frozen BK405.out 1
   have hfz20_2 := blk_frozen BK405.out 2
   have hfz20_3 := blk_frozen BK405.out 3
   have hfz20_4 := blk_frozen BK405.out 4
   have hfz20_5 := blk_frozen BK405.out 5
   go_wp2_with (first | ((with_reducible refine gate_callee (f := 48) rfl ?_); refine goesL_ (some 12) rfl rfl Tryd.func48 (by kernel_rfl) rfl #[.agg #[.string a0_0, .int .i64 a0_1, .slice A0_2 l0_2.length c0_2, .int .i64 a0_3, .int .i64 a0_4, .int .i64 a0_5], .int .i64 a1] rfl (by (try simp only [List.map_toArray, List.map_cons, List.map_nil]); first | done | rfl | (simp only [List.length_drop, List.length_take]; rfl)) ?_; (with_reducible refine (alert_at.calls k a0_0 a0_1 _ _ l0_2 a0_3 a0_4 a0_5 a1 false _ ?side3 ?side1 ?side2 A8.out).mono ?_); (case side1 => repeat (first | exact (Kd.C_below HR0_2.out HB.out) | (with_reducible refine Kd.C_alloc ?_ _) | (with_reducible refine Kd.C_drewN ?_ _) | (with_reducible refine Kd.C_drew ?_))); (case side2 => exact HC0_2.out); (case side3 => first | exact Allowed.below HLd.out (by repeat (first | (with_reducible first | exact HB.out | apply below_alloc | apply pw_below_drewN | apply below_drew1 | refine below_set ?_ GE405.out | refine below_set ?_ GE406.out) | exact HB.out)) | (repeat (first | exact HLd.out | apply Allowed.drewN | apply Allowed.drew | apply Allowed.alloc))); rintro e w21 ⟨rfl, hb⟩; refine ⟨_, rfl, ?_⟩; have n0_ := Aside0.mk (blk_below (g := gb405) (o := .cells #[.string a0_0, .int .i64 a0_1, .slice A0_2 l0_2.length c0_2, .int .i64 a0_3, .int .i64 a0_4, .int .i64 a0_5] 25 (0, 0)) (by (with_reducible repeat (first | refine blk_drewN ?_ _ | refine blk_drew ?_ | refine blk_alloc ?_ _)); exact BK405.out) hb); have n1_ := Aside0.mk (blk_below (g := gb406) (o := .cells #[.string (⟨#[]⟩ : ByteArray), .int .i64 0, .slice none 0 0, .int .i64 0, .int .i64 0, .int .i64 0] 25 (0, 0)) (by (with_reducible repeat (first | refine blk_drewN ?_ _ | refine blk_drew ?_ | refine blk_alloc ?_ _)); exact BK406.out) hb); have n2_ := Aside0.mk (below_step (by repeat (first | (with_reducible first | exact HB.out | apply below_alloc | apply pw_below_drewN | apply below_drew1 | refine below_set ?_ GE405.out | refine below_set ?_ GE406.out) | exact HB.out)) hb); clear BK405; clear BK406; clear HB; have BK405 := n0_; have BK406 := n1_; have HB := n2_; clear n0_ n1_ n2_; (try clear hb); (try clear hb2); (try clear hk); (try clear hi)))
   go_meet
   case rel => exact ⟨_, (true), (by first | rfl | (simp; done) | (simp [*]; done)), H', ⟨by first | omega | exact Nat.le_refl _⟩, ⟨by (with_reducible repeat (first | refine blk_drewN ?_ _ | refine blk_drew ?_ | refine blk_alloc ?_ _)); exact BK405.out⟩, ⟨by (with_reducible repeat (first | refine blk_drewN ?_ _ | refine blk_drew ?_ | refine blk_alloc ?_ _)); exact BK406.out⟩, ⟨by repeat (first | (with_reducible first | exact HB.out | apply below_alloc | apply pw_below_drewN | apply below_drew1 | refine below_set ?_ GE405.out | refine below_set ?_ GE406.out) | exact HB.out)⟩⟩
 case rest =>
  clear HC5
  try clear c1
  try clear c2
  try clear p2
  try clear c4
  try clear c9
  try clear c10
  try clear c10b0
  try clear c10b1
  try clear c11
  try clear c15
  try clear c19
  try clear c21
  try clear hcz12_0
  try clear hcz12_1
  try clear hcz12_2
  try clear hcz12_3
  try clear hcz12_4
  try clear hcz12_5
  try clear hcz14_0
  try clear hcz14_1
  try clear hcz14_2
  try clear hcz14_3
  try clear hcz14_4
  try clear hcz14_5
  try clear hcz16_0
  try clear hcz16_1
  try clear hcz16_2
  try clear hcz16_3
  try clear hcz16_4
  try clear hcz16_5
  try clear hcz18_0
  try clear hcz18_1
  try clear hcz18_2
  try clear hcz18_3
  try clear hcz18_4
  try clear hcz18_5
  try clear hcz20_0
  try clear hcz20_1
  try clear hcz20_2
  try clear hcz20_3
  try clear hcz20_4
  try clear hcz20_5
  try clear hfz12_0
  try clear hfz12_1
  try clear hfz12_2
  try clear hfz12_3
  try clear hfz12_4
  try clear hfz12_5
  try clear hfz14_0
  try clear hfz14_1
  try clear hfz14_2
  try clear hfz14_3
  try clear hfz14_4
  try clear hfz14_5
  try clear hfz16_0
  try clear hfz16_1
  try clear hfz16_2
  try clear hfz16_3
  try clear hfz16_4
  try clear hfz16_5
  try clear hfz18_0
  try clear hfz18_1
  try clear hfz18_2
  try clear hfz18_3
  try clear hfz18_4
  try clear hfz18_5
  try clear hfz20_0
  try clear hfz20_1
  try clear hfz20_2
  try clear hfz20_3
  try clear hfz20_4
  try clear hfz20_5
  obtain ⟨kq, x23_4, rfl, HA, HJ4, BK405, BK406, HB⟩ := hcut
  cases kq with
  | zero => exact absurd HA.out (by simp [alert_Escalate.j0])
  | succ kj4 =>
   have H := HA.out
   clear HA
   simp only [alert_Escalate.j0] at H
   by_cases c22 : x23_4 = true
   ·
    subst c22
    have H1 : ((alert_copied.f a0_0 a0_1 l0_2 a0_3 a0_4 a0_5).bind fun bt408 => (some (bt408.1, bt408.2.1, bt408.2.2.1, bt408.2.2.2.1, bt408.2.2.2.2.1, bt408.2.2.2.2.2, false))) = some (r1, r2, r3, r4, r5, r6, r7) := by rw [if_pos rfl] at H; exact H
    clear H
    have H := H1
    clear H1
    replace H := Option.bind_eq_some_iff.mp H
    obtain ⟨⟨t408, t409, t410, t413, t414, t415⟩, A230, H⟩ := H
    replace H : (some (t408, t409, t410, t413, t414, t415, false)) = some (r1, r2, r3, r4, r5, r6, r7) := H
    have A23 := Aside0.mk A230
    clear A230
    simp only [Option.some.injEq, Prod.mk.injEq] at H
    obtain ⟨rfl, rfl, rfl, rfl, rfl, rfl, rfl⟩ := H
    have hnb24 := NB405_406.out
    have hnc24 := NB406_405.out
    have hcz25_0 : wc.cell? ⟨gb405, 0, none⟩ = some (.string a0_0) := (blk_cell BK405.out 0).trans rfl
    have hcz25_1 : wc.cell? ⟨gb405, 1, none⟩ = some (.int .i64 a0_1) := (blk_cell BK405.out 1).trans rfl
    have hcz25_2 : wc.cell? ⟨gb405, 2, none⟩ = some (.slice A0_2 l0_2.length c0_2) := (blk_cell BK405.out 2).trans rfl
    have hcz25_3 : wc.cell? ⟨gb405, 3, none⟩ = some (.int .i64 a0_3) := (blk_cell BK405.out 3).trans rfl
    have hcz25_4 : wc.cell? ⟨gb405, 4, none⟩ = some (.int .i64 a0_4) := (blk_cell BK405.out 4).trans rfl
    have hcz25_5 : wc.cell? ⟨gb405, 5, none⟩ = some (.int .i64 a0_5) := (blk_cell BK405.out 5).trans rfl
    have hfz25_0 := blk_frozen BK405.out 0
    have hfz25_1 := blk_frozen BK405.out 1
    have hfz25_2 := blk_frozen BK405.out 2
    have hfz25_3 := blk_frozen BK405.out 3
    have hfz25_4 := blk_frozen BK405.out 4
    have hfz25_5 := blk_frozen BK405.out 5
    go_wp2_with (first | ((with_reducible refine gate_callee (f := 49) rfl ?_); refine goesL_ (some 25) rfl rfl Tryd.func49 (by kernel_rfl) rfl #[.agg #[.string a0_0, .int .i64 a0_1, .slice A0_2 l0_2.length c0_2, .int .i64 a0_3, .int .i64 a0_4, .int .i64 a0_5]] rfl (by (try simp only [List.map_toArray, List.map_cons, List.map_nil]); first | done | rfl | (simp only [List.length_drop, List.length_take]; rfl)) ?_; (with_reducible refine (alert_copied.calls a0_0 a0_1 _ _ l0_2 a0_3 a0_4 a0_5 t408 t409 t410 t413 t414 t415 _ ?side1 ?side2 A23.out).mono ?_); (case side1 => repeat (first | exact (Kd.C_below HR0_2.out HB.out) | (with_reducible refine Kd.C_alloc ?_ _) | (with_reducible refine Kd.C_drewN ?_ _) | (with_reducible refine Kd.C_drew ?_))); (case side2 => exact HC0_2.out); rintro e w26 ⟨v411, rfl, ho0, hb⟩; refine ⟨_, rfl, ?_⟩; have n0_ := Aside0.mk (Kd.R_lower ho0 (below_size (by repeat (first | (with_reducible first | exact HB.out | apply below_alloc | apply pw_below_drewN | apply below_drew1 | refine below_set ?_ GE405.out | refine below_set ?_ GE406.out) | exact HB.out)))); have n1_ := Aside0.mk (blk_below (g := gb405) (o := .cells #[.string a0_0, .int .i64 a0_1, .slice A0_2 l0_2.length c0_2, .int .i64 a0_3, .int .i64 a0_4, .int .i64 a0_5] 25 (0, 0)) (by (with_reducible repeat (first | refine blk_drewN ?_ _ | refine blk_drew ?_ | refine blk_alloc ?_ _)); exact BK405.out) hb); have n2_ := Aside0.mk (blk_below (g := gb406) (o := .cells #[.string (⟨#[]⟩ : ByteArray), .int .i64 0, .slice none 0 0, .int .i64 0, .int .i64 0, .int .i64 0] 25 (0, 0)) (by (with_reducible repeat (first | refine blk_drewN ?_ _ | refine blk_drew ?_ | refine blk_alloc ?_ _)); exact BK406.out) hb); have n3_ := Aside0.mk (below_step (by repeat (first | (with_reducible first | exact HB.out | apply below_alloc | apply pw_below_drewN | apply below_drew1 | refine below_set ?_ GE405.out | refine below_set ?_ GE406.out) | exact HB.out)) hb); clear BK405; clear BK406; clear HB; have HO412 := n0_; have BK405 := n1_; have BK406 := n2_; have HB := n3_; clear n0_ n1_ n2_ n3_; (try clear hb); (try clear hb2); (try clear hk); (try clear hi); (try clear ho0); have hcz27_0 : w26.cell? ⟨gb406, 0, none⟩ = some (.string (⟨#[]⟩ : ByteArray)) := (blk_cell BK406.out 0).trans rfl; have hcz27_1 : w26.cell? ⟨gb406, 1, none⟩ = some (.int .i64 0) := (blk_cell BK406.out 1).trans rfl; have hcz27_2 : w26.cell? ⟨gb406, 2, none⟩ = some (.slice none 0 0) := (blk_cell BK406.out 2).trans rfl; have hcz27_3 : w26.cell? ⟨gb406, 3, none⟩ = some (.int .i64 0) := (blk_cell BK406.out 3).trans rfl; have hcz27_4 : w26.cell? ⟨gb406, 4, none⟩ = some (.int .i64 0) := (blk_cell BK406.out 4).trans rfl; have hcz27_5 : w26.cell? ⟨gb406, 5, none⟩ = some (.int .i64 0) := (blk_cell BK406.out 5).trans rfl; have hfz27_0 := blk_frozen BK406.out 0; have hfz27_1 := blk_frozen BK406.out 1; have hfz27_2 := blk_frozen BK406.out 2; have hfz27_3 := blk_frozen BK406.out 3; have hfz27_4 := blk_frozen BK406.out 4; have hfz27_5 := blk_frozen BK406.out 5; obtain ⟨Ao28, co28, eo28⟩ := Kd.R_slice HO412.out; subst eo28))
    refine bodyPost_ret (results_ct rfl _ _ gb406 25 #[.string t408, .int .i64 t409, .slice Ao28 t410.length co28, .int .i64 t413, .int .i64 t414, .int .i64 t415] (0, 0) _ rfl (by (with_reducible repeat (first | refine blk_drewN ?_ _ | refine blk_drew ?_ | refine blk_alloc ?_ _)); refine blk_put (cs := #[.string t408, .int .i64 t409, .slice Ao28 t410.length co28, .int .i64 t413, .int .i64 t414, .int .i64 0]) ?_ 5 _ rfl; (with_reducible repeat (first | refine blk_drewN ?_ _ | refine blk_drew ?_ | refine blk_alloc ?_ _)); refine blk_put (cs := #[.string t408, .int .i64 t409, .slice Ao28 t410.length co28, .int .i64 t413, .int .i64 0, .int .i64 0]) ?_ 4 _ rfl; (with_reducible repeat (first | refine blk_drewN ?_ _ | refine blk_drew ?_ | refine blk_alloc ?_ _)); refine blk_put (cs := #[.string t408, .int .i64 t409, .slice Ao28 t410.length co28, .int .i64 0, .int .i64 0, .int .i64 0]) ?_ 3 _ rfl; (with_reducible repeat (first | refine blk_drewN ?_ _ | refine blk_drew ?_ | refine blk_alloc ?_ _)); refine blk_put (cs := #[.string t408, .int .i64 t409, .slice none 0 0, .int .i64 0, .int .i64 0, .int .i64 0]) ?_ 2 _ rfl; (with_reducible repeat (first | refine blk_drewN ?_ _ | refine blk_drew ?_ | refine blk_alloc ?_ _)); refine blk_put (cs := #[.string t408, .int .i64 0, .slice none 0 0, .int .i64 0, .int .i64 0, .int .i64 0]) ?_ 1 _ rfl; (with_reducible repeat (first | refine blk_drewN ?_ _ | refine blk_drew ?_ | refine blk_alloc ?_ _)); refine blk_put (cs := #[.string (⟨#[]⟩ : ByteArray), .int .i64 0, .slice none 0 0, .int .i64 0, .int .i64 0, .int .i64 0]) ?_ 0 _ rfl; (with_reducible repeat (first | refine blk_drewN ?_ _ | refine blk_drew ?_ | refine blk_alloc ?_ _)); exact BK406.out) Tryd.underlying25 rfl (by kernel_rfl)) rfl ?_
    exact ⟨_, by first | rfl | (simp [errW_none, errW_some] <;> rfl) | (simp [*, errW_none, errW_some] <;> rfl), by (with_reducible repeat (first | apply Kd.R_alloc | apply Kd.R_drewN | apply Kd.R_drew)); exact Kd.R_mono (Kd.R_far (p := ⟨gb406, 5, none⟩) (Kd.R_far (p := ⟨gb406, 4, none⟩) (Kd.R_far (p := ⟨gb406, 3, none⟩) (Kd.R_far (p := ⟨gb406, 2, none⟩) (Kd.R_far (p := ⟨gb406, 1, none⟩) (Kd.R_far (p := ⟨gb406, 0, none⟩) (Kd.R_types HO412.out BK406.out (by decide)) (fun _ hk => hk.2) (.string t408)) (fun _ hk => hk.2) (.int .i64 t409)) (fun _ hk => hk.2) (.slice Ao28 t410.length co28)) (fun _ hk => hk.2) (.int .i64 t413)) (fun _ hk => hk.2) (.int .i64 t414)) (fun _ hk => hk.2) (.int .i64 t415)) (fun _ hk => trivial), by repeat (first | (with_reducible first | exact HB.out | apply below_alloc | apply pw_below_drewN | apply below_drew1 | refine below_set ?_ GE405.out | refine below_set ?_ GE406.out) | exact HB.out)⟩
   ·
    replace c22 := Bool.eq_false_iff.mpr c22
    subst c22
    have H1 : (if a2 < 0 then (alert_Escalate.j1 kj4 a1 true a0_0 a0_1 l0_2 a0_3 a0_4 a0_5) else (if (wrap64 (a1 - a0_4)) < a2 then (alert_Escalate.j1 kj4 a1 true a0_0 a0_1 l0_2 a0_3 a0_4 a0_5) else (alert_Escalate.j1 kj4 a1 (decide (a0_5 ≥ (mn a3 16))) a0_0 a0_1 l0_2 a0_3 a0_4 a0_5))) = some (r1, r2, r3, r4, r5, r6, r7) := by rw [if_neg (show ¬ (false = true) by decide)] at H; exact H
    clear H
    have H := H1
    clear H1
    have HC29 := Aside0.mk H
    clear H
    go_upto_region 3 with (fail)
    go_cut [42] (fun v42 wc => ∃ (kq : Nat) (x42_28 : Bool), v42 = .bool x42_28 ∧ Aside0 (alert_Escalate.j1 kq a1 x42_28 a0_0 a0_1 l0_2 a0_3 a0_4 a0_5 = some (r1, r2, r3, r4, r5, r6, r7)) ∧ Aside0 (kq ≤ kj4) ∧ Aside0 (wc.heap[gb405]? = some (.cells #[.string a0_0, .int .i64 a0_1, (.slice A0_2 l0_2.length c0_2), .int .i64 a0_3, .int .i64 a0_4, .int .i64 a0_5] 25 (0, 0))) ∧ Aside0 (wc.heap[gb406]? = some (.cells #[.string (⟨#[]⟩ : ByteArray), .int .i64 0, (.slice none 0 0), .int .i64 0, .int .i64 0, .int .i64 0] 25 (0, 0))) ∧ Aside0 (Below w.heap.size w wc))
    case first =>
     have H := HC29.out
     clear HC29
     by_cases c30 : a2 < 0
     ·
      rw [if_pos c30] at H
      have c30b0 : decide (a2 < 0) = true := decide_eq_true c30
      clear c30
      (first | rw [c30b0] | (simp only [i64_w, i32_w]; rw [c30b0]) | skip)
      have H' := Aside0.mk H
      clear H
      go_wp2
      go_meet
      case rel => exact ⟨_, (true), (by first | rfl | (simp; done) | (simp [*]; done)), H', ⟨by have := HJ4.out; first | omega | exact Nat.le_refl _⟩, ⟨by (with_reducible repeat (first | refine blk_drewN ?_ _ | refine blk_drew ?_ | refine blk_alloc ?_ _)); exact BK405.out⟩, ⟨by (with_reducible repeat (first | refine blk_drewN ?_ _ | refine blk_drew ?_ | refine blk_alloc ?_ _)); exact BK406.out⟩, ⟨by repeat (first | (with_reducible first | exact HB.out | apply below_alloc | apply pw_below_drewN | apply below_drew1 | refine below_set ?_ GE405.out | refine below_set ?_ GE406.out) | exact HB.out)⟩⟩
     ·
      rw [if_neg c30] at H
      have c30b0 : decide (a2 < 0) = false := decide_eq_false c30
      clear c30
      (first | rw [c30b0] | (simp only [i64_w, i32_w]; rw [c30b0]) | skip)
      by_cases c31 : (wrap64 (a1 - a0_4)) < a2
      ·
       rw [if_pos c31] at H
       have c31b0 : decide ((wrap64 (a1 - a0_4)) < a2) = true := decide_eq_true c31
       clear c31
       have H' := Aside0.mk H
       clear H
       have hnb32 := NB405_406.out
       have hnc32 := NB406_405.out
       have hcz33_0 : wc.cell? ⟨gb405, 0, none⟩ = some (.string a0_0) := (blk_cell BK405.out 0).trans rfl
       have hcz33_1 : wc.cell? ⟨gb405, 1, none⟩ = some (.int .i64 a0_1) := (blk_cell BK405.out 1).trans rfl
       have hcz33_2 : wc.cell? ⟨gb405, 2, none⟩ = some (.slice A0_2 l0_2.length c0_2) := (blk_cell BK405.out 2).trans rfl
       have hcz33_3 : wc.cell? ⟨gb405, 3, none⟩ = some (.int .i64 a0_3) := (blk_cell BK405.out 3).trans rfl
       have hcz33_4 : wc.cell? ⟨gb405, 4, none⟩ = some (.int .i64 a0_4) := (blk_cell BK405.out 4).trans rfl
       have hcz33_5 : wc.cell? ⟨gb405, 5, none⟩ = some (.int .i64 a0_5) := (blk_cell BK405.out 5).trans rfl
       have hfz33_0 := blk_frozen BK405.out 0
       have hfz33_1 := blk_frozen BK405.out 1
       have hfz33_2 := blk_frozen BK405.out 2
       have hfz33_3 := blk_frozen BK405.out 3
       have hfz33_4 := blk_frozen BK405.out 4
       have hfz33_5 := blk_frozen BK405.out 5
       go_wp2
       go_meet
       case rel => exact ⟨_, (true), (by first | rfl | (simp; done) | (simp [*]; done)), H', ⟨by have := HJ4.out; first | omega | exact Nat.le_refl _⟩, ⟨by (with_reducible repeat (first | refine blk_drewN ?_ _ | refine blk_drew ?_ | refine blk_alloc ?_ _)); exact BK405.out⟩, ⟨by (with_reducible repeat (first | refine blk_drewN ?_ _ | refine blk_drew ?_ | refine blk_alloc ?_ _)); exact BK406.out⟩, ⟨by repeat (first | (with_reducible first | exact HB.out | apply below_alloc | apply pw_below_drewN | apply below_drew1 | refine below_set ?_ GE405.out | refine below_set ?_ GE406.out) | exact HB.out)⟩⟩
      ·
       rw [if_neg c31] at H
       have c31b0 : decide ((wrap64 (a1 - a0_4)) < a2) = false := decide_eq_false c31
       clear c31
       obtain ⟨ji34, hji34⟩ : ∃ j_ : Int, (mn a3 16) = j_ := ⟨_, rfl⟩
       replace H : (alert_Escalate.j1 kj4 a1 (decide (a0_5 ≥ (ji34))) a0_0 a0_1 l0_2 a0_3 a0_4 a0_5) = some (r1, r2, r3, r4, r5, r6, r7) := by first | (rw [hji34] at H; exact H) | (simp only [hji34] at H ⊢; exact H)
       have hji34_ : (if 16 < a3 then 16 else a3) = ji34 := hji34
       have H' := Aside0.mk H
       clear H
       have hnb35 := NB405_406.out
       have hnc35 := NB406_405.out
       have hcz36_0 : wc.cell? ⟨gb405, 0, none⟩ = some (.string a0_0) := (blk_cell BK405.out 0).trans rfl
       have hcz36_1 : wc.cell? ⟨gb405, 1, none⟩ = some (.int .i64 a0_1) := (blk_cell BK405.out 1).trans rfl
       have hcz36_2 : wc.cell? ⟨gb405, 2, none⟩ = some (.slice A0_2 l0_2.length c0_2) := (blk_cell BK405.out 2).trans rfl
       have hcz36_3 : wc.cell? ⟨gb405, 3, none⟩ = some (.int .i64 a0_3) := (blk_cell BK405.out 3).trans rfl
       have hcz36_4 : wc.cell? ⟨gb405, 4, none⟩ = some (.int .i64 a0_4) := (blk_cell BK405.out 4).trans rfl
       have hcz36_5 : wc.cell? ⟨gb405, 5, none⟩ = some (.int .i64 a0_5) := (blk_cell BK405.out 5).trans rfl
       have hfz36_0 := blk_frozen BK405.out 0
       have hfz36_1 := blk_frozen BK405.out 1
       have hfz36_2 := blk_frozen BK405.out 2
       have hfz36_3 := blk_frozen BK405.out 3
       have hfz36_4 := blk_frozen BK405.out 4
       have hfz36_5 := blk_frozen BK405.out 5
       go_wp2
       go_meet
       case rel => exact ⟨_, (decide (a0_5 ≥ (ji34))), (by first | rfl | (simp; done) | (simp only [← hji34] <;> (first | rfl | simp)) | (simp [*]; done)), H', ⟨by have := HJ4.out; first | omega | exact Nat.le_refl _⟩, ⟨by (with_reducible repeat (first | refine blk_drewN ?_ _ | refine blk_drew ?_ | refine blk_alloc ?_ _)); exact BK405.out⟩, ⟨by (with_reducible repeat (first | refine blk_drewN ?_ _ | refine blk_drew ?_ | refine blk_alloc ?_ _)); exact BK406.out⟩, ⟨by repeat (first | (with_reducible first | exact HB.out | apply below_alloc | apply pw_below_drewN | apply below_drew1 | refine below_set ?_ GE405.out | refine below_set ?_ GE406.out) | exact HB.out)⟩⟩
    case rest =>
     clear HC29
     try clear c1
     try clear c2
     try clear p2
     try clear c3
     try clear c4
     try clear p6
     try clear c9
     try clear c10
     try clear c10b0
     try clear c10b1
     try clear c11
     try clear c15
     try clear c19
     try clear c21
     try clear c22
     try clear c24
     try clear c30
     try clear c30b0
     try clear c31
     try clear c31b0
     try clear c32
     try clear c35
     try clear hcz12_0
     try clear hcz12_1
     try clear hcz12_2
     try clear hcz12_3
     try clear hcz12_4
     try clear hcz12_5
     try clear hcz14_0
     try clear hcz14_1
     try clear hcz14_2
     try clear hcz14_3
     try clear hcz14_4
     try clear hcz14_5
     try clear hcz16_0
     try clear hcz16_1
     try clear hcz16_2
     try clear hcz16_3
     try clear hcz16_4
     try clear hcz16_5
     try clear hcz18_0
     try clear hcz18_1
     try clear hcz18_2
     try clear hcz18_3
     try clear hcz18_4
     try clear hcz18_5
     try clear hcz20_0
     try clear hcz20_1
     try clear hcz20_2
     try clear hcz20_3
     try clear hcz20_4
     try clear hcz20_5
     try clear hcz25_0
     try clear hcz25_1
     try clear hcz25_2
     try clear hcz25_3
     try clear hcz25_4
     try clear hcz25_5
     try clear hcz27_0
     try clear hcz27_1
     try clear hcz27_2
     try clear hcz27_3
     try clear hcz27_4
     try clear hcz27_5
     try clear hcz33_0
     try clear hcz33_1
     try clear hcz33_2
     try clear hcz33_3
     try clear hcz33_4
     try clear hcz33_5
     try clear hcz36_0
     try clear hcz36_1
     try clear hcz36_2
     try clear hcz36_3
     try clear hcz36_4
     try clear hcz36_5
     try clear hfz12_0
     try clear hfz12_1
     try clear hfz12_2
     try clear hfz12_3
     try clear hfz12_4
     try clear hfz12_5
     try clear hfz14_0
     try clear hfz14_1
     try clear hfz14_2
     try clear hfz14_3
     try clear hfz14_4
     try clear hfz14_5
     try clear hfz16_0
     try clear hfz16_1
     try clear hfz16_2
     try clear hfz16_3
     try clear hfz16_4
     try clear hfz16_5
     try clear hfz18_0
     try clear hfz18_1
     try clear hfz18_2
     try clear hfz18_3
     try clear hfz18_4
     try clear hfz18_5
     try clear hfz20_0
     try clear hfz20_1
     try clear hfz20_2
     try clear hfz20_3
     try clear hfz20_4
     try clear hfz20_5
     try clear hfz25_0
     try clear hfz25_1
     try clear hfz25_2
     try clear hfz25_3
     try clear hfz25_4
     try clear hfz25_5
     try clear hfz27_0
     try clear hfz27_1
     try clear hfz27_2
     try clear hfz27_3
     try clear hfz27_4
     try clear hfz27_5
     try clear hfz33_0
     try clear hfz33_1
     try clear hfz33_2
     try clear hfz33_3
     try clear hfz33_4
     try clear hfz33_5
     try clear hfz36_0
     try clear hfz36_1
     try clear hfz36_2
     try clear hfz36_3
     try clear hfz36_4
     try clear hfz36_5
     try clear p2
     obtain ⟨kq, x42_28, rfl, HA, HJ28, BK405, BK406, HB⟩ := hcut
     cases kq with
     | zero => exact absurd HA.out (by simp [alert_Escalate.j1])
     | succ kj28 =>
      have H := HA.out
      clear HA
      simp only [alert_Escalate.j1] at H
      by_cases c37 : x42_28 = true
      ·
       subst c37
       have H1 : ((alert_copied.f a0_0 a0_1 l0_2 a0_3 a0_4 a0_5).bind fun bt416 => (some (bt416.1, bt416.2.1, bt416.2.2.1, bt416.2.2.2.1, bt416.2.2.2.2.1, bt416.2.2.2.2.2, false))) = some (r1, r2, r3, r4, r5, r6, r7) := by rw [if_pos rfl] at H; exact H
       clear H
       have H := H1
       clear H1
       replace H := Option.bind_eq_some_iff.mp H
       obtain ⟨⟨t416, t417, t418, t421, t422, t423⟩, A380, H⟩ := H
       replace H : (some (t416, t417, t418, t421, t422, t423, false)) = some (r1, r2, r3, r4, r5, r6, r7) := H
       have A38 := Aside0.mk A380
       clear A380
       simp only [Option.some.injEq, Prod.mk.injEq] at H
       obtain ⟨rfl, rfl, rfl, rfl, rfl, rfl, rfl⟩ := H
       have hnb39 := NB405_406.out
       have hnc39 := NB406_405.out
       have hcz40_0 : wc.cell? ⟨gb405, 0, none⟩ = some (.string a0_0) := (blk_cell BK405.out 0).trans rfl
       have hcz40_1 : wc.cell? ⟨gb405, 1, none⟩ = some (.int .i64 a0_1) := (blk_cell BK405.out 1).trans rfl
       have hcz40_2 : wc.cell? ⟨gb405, 2, none⟩ = some (.slice A0_2 l0_2.length c0_2) := (blk_cell BK405.out 2).trans rfl
       have hcz40_3 : wc.cell? ⟨gb405, 3, none⟩ = some (.int .i64 a0_3) := (blk_cell BK405.out 3).trans rfl
       have hcz40_4 : wc.cell? ⟨gb405, 4, none⟩ = some (.int .i64 a0_4) := (blk_cell BK405.out 4).trans rfl
       have hcz40_5 : wc.cell? ⟨gb405, 5, none⟩ = some (.int .i64 a0_5) := (blk_cell BK405.out 5).trans rfl
       have hfz40_0 := blk_frozen BK405.out 0
       have hfz40_1 := blk_frozen BK405.out 1
       have hfz40_2 := blk_frozen BK405.out 2
       have hfz40_3 := blk_frozen BK405.out 3
       have hfz40_4 := blk_frozen BK405.out 4
       have hfz40_5 := blk_frozen BK405.out 5
       go_wp2_with (first | ((with_reducible refine gate_callee (f := 49) rfl ?_); refine goesL_ (some 44) rfl rfl Tryd.func49 (by kernel_rfl) rfl #[.agg #[.string a0_0, .int .i64 a0_1, .slice A0_2 l0_2.length c0_2, .int .i64 a0_3, .int .i64 a0_4, .int .i64 a0_5]] rfl (by (try simp only [List.map_toArray, List.map_cons, List.map_nil]); first | done | rfl | (simp only [List.length_drop, List.length_take]; rfl)) ?_; (with_reducible refine (alert_copied.calls a0_0 a0_1 _ _ l0_2 a0_3 a0_4 a0_5 t416 t417 t418 t421 t422 t423 _ ?side1 ?side2 A38.out).mono ?_); (case side1 => repeat (first | exact (Kd.C_below HR0_2.out HB.out) | (with_reducible refine Kd.C_alloc ?_ _) | (with_reducible refine Kd.C_drewN ?_ _) | (with_reducible refine Kd.C_drew ?_))); (case side2 => exact HC0_2.out); rintro e w41 ⟨v419, rfl, ho0, hb⟩; refine ⟨_, rfl, ?_⟩; have n0_ := Aside0.mk (Kd.R_lower ho0 (below_size (by repeat (first | (with_reducible first | exact HB.out | apply below_alloc | apply pw_below_drewN | apply below_drew1 | refine below_set ?_ GE405.out | refine below_set ?_ GE406.out) | exact HB.out)))); have n1_ := Aside0.mk (blk_below (g := gb405) (o := .cells #[.string a0_0, .int .i64 a0_1, .slice A0_2 l0_2.length c0_2, .int .i64 a0_3, .int .i64 a0_4, .int .i64 a0_5] 25 (0, 0)) (by (with_reducible repeat (first | refine blk_drewN ?_ _ | refine blk_drew ?_ | refine blk_alloc ?_ _)); exact BK405.out) hb); have n2_ := Aside0.mk (blk_below (g := gb406) (o := .cells #[.string (⟨#[]⟩ : ByteArray), .int .i64 0, .slice none 0 0, .int .i64 0, .int .i64 0, .int .i64 0] 25 (0, 0)) (by (with_reducible repeat (first | refine blk_drewN ?_ _ | refine blk_drew ?_ | refine blk_alloc ?_ _)); exact BK406.out) hb); have n3_ := Aside0.mk (below_step (by repeat (first | (with_reducible first | exact HB.out | apply below_alloc | apply pw_below_drewN | apply below_drew1 | refine below_set ?_ GE405.out | refine below_set ?_ GE406.out) | exact HB.out)) hb); clear BK405; clear BK406; clear HB; have HO420 := n0_; have BK405 := n1_; have BK406 := n2_; have HB := n3_; clear n0_ n1_ n2_ n3_; (try clear hb); (try clear hb2); (try clear hk); (try clear hi); (try clear ho0); have hcz42_0 : w41.cell? ⟨gb406, 0, none⟩ = some (.string (⟨#[]⟩ : ByteArray)) := (blk_cell BK406.out 0).trans rfl; have hcz42_1 : w41.cell? ⟨gb406, 1, none⟩ = some (.int .i64 0) := (blk_cell BK406.out 1).trans rfl; have hcz42_2 : w41.cell? ⟨gb406, 2, none⟩ = some (.slice none 0 0) := (blk_cell BK406.out 2).trans rfl; have hcz42_3 : w41.cell? ⟨gb406, 3, none⟩ = some (.int .i64 0) := (blk_cell BK406.out 3).trans rfl; have hcz42_4 : w41.cell? ⟨gb406, 4, none⟩ = some (.int .i64 0) := (blk_cell BK406.out 4).trans rfl; have hcz42_5 : w41.cell? ⟨gb406, 5, none⟩ = some (.int .i64 0) := (blk_cell BK406.out 5).trans rfl; have hfz42_0 := blk_frozen BK406.out 0; have hfz42_1 := blk_frozen BK406.out 1; have hfz42_2 := blk_frozen BK406.out 2; have hfz42_3 := blk_frozen BK406.out 3; have hfz42_4 := blk_frozen BK406.out 4; have hfz42_5 := blk_frozen BK406.out 5; obtain ⟨Ao43, co43, eo43⟩ := Kd.R_slice HO420.out; subst eo43))
       refine bodyPost_ret (results_ct rfl _ _ gb406 25 #[.string t416, .int .i64 t417, .slice Ao43 t418.length co43, .int .i64 t421, .int .i64 t422, .int .i64 t423] (0, 0) _ rfl (by (with_reducible repeat (first | refine blk_drewN ?_ _ | refine blk_drew ?_ | refine blk_alloc ?_ _)); refine blk_put (cs := #[.string t416, .int .i64 t417, .slice Ao43 t418.length co43, .int .i64 t421, .int .i64 t422, .int .i64 0]) ?_ 5 _ rfl; (with_reducible repeat (first | refine blk_drewN ?_ _ | refine blk_drew ?_ | refine blk_alloc ?_ _)); refine blk_put (cs := #[.string t416, .int .i64 t417, .slice Ao43 t418.length co43, .int .i64 t421, .int .i64 0, .int .i64 0]) ?_ 4 _ rfl; (with_reducible repeat (first | refine blk_drewN ?_ _ | refine blk_drew ?_ | refine blk_alloc ?_ _)); refine blk_put (cs := #[.string t416, .int .i64 t417, .slice Ao43 t418.length co43, .int .i64 0, .int .i64 0, .int .i64 0]) ?_ 3 _ rfl; (with_reducible repeat (first | refine blk_drewN ?_ _ | refine blk_drew ?_ | refine blk_alloc ?_ _)); refine blk_put (cs := #[.string t416, .int .i64 t417, .slice none 0 0, .int .i64 0, .int .i64 0, .int .i64 0]) ?_ 2 _ rfl; (with_reducible repeat (first | refine blk_drewN ?_ _ | refine blk_drew ?_ | refine blk_alloc ?_ _)); refine blk_put (cs := #[.string t416, .int .i64 0, .slice none 0 0, .int .i64 0, .int .i64 0, .int .i64 0]) ?_ 1 _ rfl; (with_reducible repeat (first | refine blk_drewN ?_ _ | refine blk_drew ?_ | refine blk_alloc ?_ _)); refine blk_put (cs := #[.string (⟨#[]⟩ : ByteArray), .int .i64 0, .slice none 0 0, .int .i64 0, .int .i64 0, .int .i64 0]) ?_ 0 _ rfl; (with_reducible repeat (first | refine blk_drewN ?_ _ | refine blk_drew ?_ | refine blk_alloc ?_ _)); exact BK406.out) Tryd.underlying25 rfl (by kernel_rfl)) rfl ?_
       exact ⟨_, by first | rfl | (simp [errW_none, errW_some] <;> rfl) | (simp [*, errW_none, errW_some] <;> rfl), by (with_reducible repeat (first | apply Kd.R_alloc | apply Kd.R_drewN | apply Kd.R_drew)); exact Kd.R_mono (Kd.R_far (p := ⟨gb406, 5, none⟩) (Kd.R_far (p := ⟨gb406, 4, none⟩) (Kd.R_far (p := ⟨gb406, 3, none⟩) (Kd.R_far (p := ⟨gb406, 2, none⟩) (Kd.R_far (p := ⟨gb406, 1, none⟩) (Kd.R_far (p := ⟨gb406, 0, none⟩) (Kd.R_types HO420.out BK406.out (by decide)) (fun _ hk => hk.2) (.string t416)) (fun _ hk => hk.2) (.int .i64 t417)) (fun _ hk => hk.2) (.slice Ao43 t418.length co43)) (fun _ hk => hk.2) (.int .i64 t421)) (fun _ hk => hk.2) (.int .i64 t422)) (fun _ hk => hk.2) (.int .i64 t423)) (fun _ hk => trivial), by repeat (first | (with_reducible first | exact HB.out | apply below_alloc | apply pw_below_drewN | apply below_drew1 | refine below_set ?_ GE405.out | refine below_set ?_ GE406.out) | exact HB.out)⟩
      ·
       replace c37 := Bool.eq_false_iff.mpr c37
       subst c37
       have H1 : ((alert_changed.f a0_0 a0_1 l0_2 a0_3 a0_4 a0_5 4 a1 (wrap64 (a0_5 + 1))).bind fun bt424 => (some (bt424.1, bt424.2.1, bt424.2.2.1, bt424.2.2.2.1, bt424.2.2.2.2.1, bt424.2.2.2.2.2, true))) = some (r1, r2, r3, r4, r5, r6, r7) := by rw [if_neg (show ¬ (false = true) by decide)] at H; exact H
       clear H
       have H := H1
       clear H1
       replace H := Option.bind_eq_some_iff.mp H
       obtain ⟨⟨t424, t425, t426, t429, t430, t431⟩, A440, H⟩ := H
       replace H : (some (t424, t425, t426, t429, t430, t431, true)) = some (r1, r2, r3, r4, r5, r6, r7) := H
       have A44 := Aside0.mk A440
       clear A440
       simp only [Option.some.injEq, Prod.mk.injEq] at H
       obtain ⟨rfl, rfl, rfl, rfl, rfl, rfl, rfl⟩ := H
       have hnb45 := NB405_406.out
       have hnc45 := NB406_405.out
       have hcz46_0 : wc.cell? ⟨gb405, 0, none⟩ = some (.string a0_0) := (blk_cell BK405.out 0).trans rfl
       have hcz46_1 : wc.cell? ⟨gb405, 1, none⟩ = some (.int .i64 a0_1) := (blk_cell BK405.out 1).trans rfl
       have hcz46_2 : wc.cell? ⟨gb405, 2, none⟩ = some (.slice A0_2 l0_2.length c0_2) := (blk_cell BK405.out 2).trans rfl
       have hcz46_3 : wc.cell? ⟨gb405, 3, none⟩ = some (.int .i64 a0_3) := (blk_cell BK405.out 3).trans rfl
       have hcz46_4 : wc.cell? ⟨gb405, 4, none⟩ = some (.int .i64 a0_4) := (blk_cell BK405.out 4).trans rfl
       have hcz46_5 : wc.cell? ⟨gb405, 5, none⟩ = some (.int .i64 a0_5) := (blk_cell BK405.out 5).trans rfl
       have hfz46_0 := blk_frozen BK405.out 0
       have hfz46_1 := blk_frozen BK405.out 1
       have hfz46_2 := blk_frozen BK405.out 2
       have hfz46_3 := blk_frozen BK405.out 3
       have hfz46_4 := blk_frozen BK405.out 4
       have hfz46_5 := blk_frozen BK405.out 5
       go_wp2_with (first | ((with_reducible refine gate_callee (f := 50) rfl ?_); refine goesL_ (some 50) rfl rfl Tryd.func50 (by kernel_rfl) rfl #[.agg #[.string a0_0, .int .i64 a0_1, .slice A0_2 l0_2.length c0_2, .int .i64 a0_3, .int .i64 a0_4, .int .i64 a0_5], .int .i64 4, .int .i64 a1, .int .i64 (wrap64 (a0_5 + 1))] rfl (by (try simp only [List.map_toArray, List.map_cons, List.map_nil]); first | done | rfl | (simp only [List.length_drop, List.length_take]; rfl)) ?_; (with_reducible refine (alert_changed.calls a0_0 a0_1 _ _ l0_2 a0_3 a0_4 a0_5 4 a1 (wrap64 (a0_5 + 1)) t424 t425 t426 t429 t430 t431 _ ?side1 ?side2 A44.out).mono ?_); (case side1 => repeat (first | exact (Kd.C_below HR0_2.out HB.out) | (with_reducible refine Kd.C_alloc ?_ _) | (with_reducible refine Kd.C_drewN ?_ _) | (with_reducible refine Kd.C_drew ?_))); (case side2 => exact HC0_2.out); rintro e w47 ⟨v427, rfl, ho0, hb⟩; refine ⟨_, rfl, ?_⟩; have n0_ := Aside0.mk (Kd.R_lower ho0 (below_size (by repeat (first | (with_reducible first | exact HB.out | apply below_alloc | apply pw_below_drewN | apply below_drew1 | refine below_set ?_ GE405.out | refine below_set ?_ GE406.out) | exact HB.out)))); have n1_ := Aside0.mk (blk_below (g := gb405) (o := .cells #[.string a0_0, .int .i64 a0_1, .slice A0_2 l0_2.length c0_2, .int .i64 a0_3, .int .i64 a0_4, .int .i64 a0_5] 25 (0, 0)) (by (with_reducible repeat (first | refine blk_drewN ?_ _ | refine blk_drew ?_ | refine blk_alloc ?_ _)); exact BK405.out) hb); have n2_ := Aside0.mk (blk_below (g := gb406) (o := .cells #[.string (⟨#[]⟩ : ByteArray), .int .i64 0, .slice none 0 0, .int .i64 0, .int .i64 0, .int .i64 0] 25 (0, 0)) (by (with_reducible repeat (first | refine blk_drewN ?_ _ | refine blk_drew ?_ | refine blk_alloc ?_ _)); exact BK406.out) hb); have n3_ := Aside0.mk (below_step (by repeat (first | (with_reducible first | exact HB.out | apply below_alloc | apply pw_below_drewN | apply below_drew1 | refine below_set ?_ GE405.out | refine below_set ?_ GE406.out) | exact HB.out)) hb); clear BK405; clear BK406; clear HB; have HO428 := n0_; have BK405 := n1_; have BK406 := n2_; have HB := n3_; clear n0_ n1_ n2_ n3_; (try clear hb); (try clear hb2); (try clear hk); (try clear hi); (try clear ho0); have hcz48_0 : w47.cell? ⟨gb406, 0, none⟩ = some (.string (⟨#[]⟩ : ByteArray)) := (blk_cell BK406.out 0).trans rfl; have hcz48_1 : w47.cell? ⟨gb406, 1, none⟩ = some (.int .i64 0) := (blk_cell BK406.out 1).trans rfl; have hcz48_2 : w47.cell? ⟨gb406, 2, none⟩ = some (.slice none 0 0) := (blk_cell BK406.out 2).trans rfl; have hcz48_3 : w47.cell? ⟨gb406, 3, none⟩ = some (.int .i64 0) := (blk_cell BK406.out 3).trans rfl; have hcz48_4 : w47.cell? ⟨gb406, 4, none⟩ = some (.int .i64 0) := (blk_cell BK406.out 4).trans rfl; have hcz48_5 : w47.cell? ⟨gb406, 5, none⟩ = some (.int .i64 0) := (blk_cell BK406.out 5).trans rfl; have hfz48_0 := blk_frozen BK406.out 0; have hfz48_1 := blk_frozen BK406.out 1; have hfz48_2 := blk_frozen BK406.out 2; have hfz48_3 := blk_frozen BK406.out 3; have hfz48_4 := blk_frozen BK406.out 4; have hfz48_5 := blk_frozen BK406.out 5; obtain ⟨Ao49, co49, eo49⟩ := Kd.R_slice HO428.out; subst eo49))
       refine bodyPost_ret (results_ct rfl _ _ gb406 25 #[.string t424, .int .i64 t425, .slice Ao49 t426.length co49, .int .i64 t429, .int .i64 t430, .int .i64 t431] (0, 0) _ rfl (by (with_reducible repeat (first | refine blk_drewN ?_ _ | refine blk_drew ?_ | refine blk_alloc ?_ _)); refine blk_put (cs := #[.string t424, .int .i64 t425, .slice Ao49 t426.length co49, .int .i64 t429, .int .i64 t430, .int .i64 0]) ?_ 5 _ rfl; (with_reducible repeat (first | refine blk_drewN ?_ _ | refine blk_drew ?_ | refine blk_alloc ?_ _)); refine blk_put (cs := #[.string t424, .int .i64 t425, .slice Ao49 t426.length co49, .int .i64 t429, .int .i64 0, .int .i64 0]) ?_ 4 _ rfl; (with_reducible repeat (first | refine blk_drewN ?_ _ | refine blk_drew ?_ | refine blk_alloc ?_ _)); refine blk_put (cs := #[.string t424, .int .i64 t425, .slice Ao49 t426.length co49, .int .i64 0, .int .i64 0, .int .i64 0]) ?_ 3 _ rfl; (with_reducible repeat (first | refine blk_drewN ?_ _ | refine blk_drew ?_ | refine blk_alloc ?_ _)); refine blk_put (cs := #[.string t424, .int .i64 t425, .slice none 0 0, .int .i64 0, .int .i64 0, .int .i64 0]) ?_ 2 _ rfl; (with_reducible repeat (first | refine blk_drewN ?_ _ | refine blk_drew ?_ | refine blk_alloc ?_ _)); refine blk_put (cs := #[.string t424, .int .i64 0, .slice none 0 0, .int .i64 0, .int .i64 0, .int .i64 0]) ?_ 1 _ rfl; (with_reducible repeat (first | refine blk_drewN ?_ _ | refine blk_drew ?_ | refine blk_alloc ?_ _)); refine blk_put (cs := #[.string (⟨#[]⟩ : ByteArray), .int .i64 0, .slice none 0 0, .int .i64 0, .int .i64 0, .int .i64 0]) ?_ 0 _ rfl; (with_reducible repeat (first | refine blk_drewN ?_ _ | refine blk_drew ?_ | refine blk_alloc ?_ _)); exact BK406.out) Tryd.underlying25 rfl (by kernel_rfl)) rfl ?_
       exact ⟨_, by first | rfl | (simp [errW_none, errW_some] <;> rfl) | (simp [*, errW_none, errW_some] <;> rfl), by (with_reducible repeat (first | apply Kd.R_alloc | apply Kd.R_drewN | apply Kd.R_drew)); exact Kd.R_mono (Kd.R_far (p := ⟨gb406, 5, none⟩) (Kd.R_far (p := ⟨gb406, 4, none⟩) (Kd.R_far (p := ⟨gb406, 3, none⟩) (Kd.R_far (p := ⟨gb406, 2, none⟩) (Kd.R_far (p := ⟨gb406, 1, none⟩) (Kd.R_far (p := ⟨gb406, 0, none⟩) (Kd.R_types HO428.out BK406.out (by decide)) (fun _ hk => hk.2) (.string t424)) (fun _ hk => hk.2) (.int .i64 t425)) (fun _ hk => hk.2) (.slice Ao49 t426.length co49)) (fun _ hk => hk.2) (.int .i64 t429)) (fun _ hk => hk.2) (.int .i64 t430)) (fun _ hk => hk.2) (.int .i64 t431)) (fun _ hk => trivial), by repeat (first | (with_reducible first | exact HB.out | apply below_alloc | apply pw_below_drewN | apply below_drew1 | refine below_set ?_ GE405.out | refine below_set ?_ GE406.out) | exact HB.out)⟩

end Go.Proofs.YtbbddeilbcpmiaaDoor.Q
