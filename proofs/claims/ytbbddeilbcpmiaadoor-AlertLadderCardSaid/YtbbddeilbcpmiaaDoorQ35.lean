-- Written by a program (pp: this repo's wip/pp/patch.py over the kit's print), out of the translation. Lean checks it.
import Derived.Test.YtbbddeilbcpmiaaDoorQ0
import Derived.Test.YtbbddeilbcpmiaaDoorMAlertValid
import Derived.Test.YtbbddeilbcpmiaaDoorMLives28
import Derived.Test.YtbbddeilbcpmiaaDoorQ17
import Derived.Test.YtbbddeilbcpmiaaDoorQ21
import Derived.Test.YtbbddeilbcpmiaaDoorQ3
import Derived.Test.YtbbddeilbcpmiaaDoorQ31
namespace Go.Proofs.YtbbddeilbcpmiaaDoor.Q
open Go.RowKit Go.Proofs.YtbbddeilbcpmiaaDoorW.PrintWords Go.Proofs.YtbbddeilbcpmiaaDoorW.PrintLast Go.Proofs.YtbbddeilbcpmiaaDoorW.PrintMore
attribute [local go_sem] max2_int min2_int max_two min_two max_three min_three max_four min_four   -- for this text's walks alone
set_option linter.unusedVariables false
set_option linter.unusedSimpArgs false

/-! ### intervalmonlaw28_AlertLadder: function 11 -/
mutual
def intervalmonlaw28_AlertLadder.l0 : Nat → Int → Int → Int → Int → Int → ByteArray → Int → List (S35) → Int → Int → Int → Option (Bool)
  | 0, _, _, _, _, _, _, _, _, _, _, _ => none
  | k + 1, x7, x8, x9, x12, x13, x734000, x734001, x734002, x734003, x734004, x734005 => if x13 < 100 then ((alert_Escalate.f k x734000 x734001 x734002 x734003 x734004 x734005 x13 x7 x8).bind fun bt736 => (if x13 ≤ x9 then (if x7 = 0 then (none) else (if (Int.tmod x13 x7) = 0 then (intervalmonlaw28_AlertLadder.j1 k x7 x8 x9 x12 x13 bt736.2.2.2.2.2.2 (bt736.2.2.2.2.2.2 != (decide (x12 < (mn x8 16)))) bt736.1 bt736.2.1 bt736.2.2.1 bt736.2.2.2.1 bt736.2.2.2.2.1 bt736.2.2.2.2.2.1) else (intervalmonlaw28_AlertLadder.j1 k x7 x8 x9 x12 x13 bt736.2.2.2.2.2.2 (bt736.2.2.2.2.2.2 != false) bt736.1 bt736.2.1 bt736.2.2.1 bt736.2.2.2.1 bt736.2.2.2.2.1 bt736.2.2.2.2.2.1))) else (intervalmonlaw28_AlertLadder.j1 k x7 x8 x9 x12 x13 bt736.2.2.2.2.2.2 (bt736.2.2.2.2.2.2 != false) bt736.1 bt736.2.1 bt736.2.2.1 bt736.2.2.2.1 bt736.2.2.2.2.1 bt736.2.2.2.2.2.1))) else (if x734005 = x12 then ((alert_Valid.f k x734000 x734001 x734002 x734003 x734004 x734005).bind fun t734 => (if t734 = true then ((intervalmonlaw28_lives.f).bind fun t735 => (some t735)) else (some false))) else (some false))
def intervalmonlaw28_AlertLadder.j1 : Nat → Int → Int → Int → Int → Int → Bool → Bool → ByteArray → Int → List (S35) → Int → Int → Int → Option (Bool)
  | 0, _, _, _, _, _, _, _, _, _, _, _, _, _ => none
  | k + 1, x7, x8, x9, x12, x13, x15, x61, x746000, x746001, x746002, x746003, x746004, x746005 => if x61 = true then (some false) else (if x15 = true then (intervalmonlaw28_AlertLadder.j2 k x7 x8 x9 (wrap64 (x12 + 1)) x13 x746000 x746001 x746002 x746003 x746004 x746005) else (intervalmonlaw28_AlertLadder.j2 k x7 x8 x9 x12 x13 x746000 x746001 x746002 x746003 x746004 x746005))
def intervalmonlaw28_AlertLadder.j2 : Nat → Int → Int → Int → Int → Int → ByteArray → Int → List (S35) → Int → Int → Int → Option (Bool)
  | 0, _, _, _, _, _, _, _, _, _, _, _ => none
  | k + 1, x7, x8, x9, x12, x13, x734000, x734001, x734002, x734003, x734004, x734005 => if x13 = x9 then ((alert_Ack.f k x734000 x734001 x734002 x734003 x734004 x734005 x13).bind fun bt746 => (if bt746.2.2.2.2.2.2 = 0 then (intervalmonlaw28_AlertLadder.l0 k x7 x8 x9 x12 (wrap64 (x13 + 1)) bt746.1 bt746.2.1 bt746.2.2.1 bt746.2.2.2.1 bt746.2.2.2.2.1 bt746.2.2.2.2.2.1) else (some false))) else (intervalmonlaw28_AlertLadder.l0 k x7 x8 x9 x12 (wrap64 (x13 + 1)) x734000 x734001 x734002 x734003 x734004 x734005)
end
def intervalmonlaw28_AlertLadder.f (k : Nat) (a0 : Int) (a1 : Int) (a2 : Int) : Option (Bool) := (intervalmonref01_Around.f a0 5).bind fun t721 => ((intervalmonref01_Around.f a1 21).bind fun t722 => ((intervalmonref01_Around.f a2 150).bind fun t723 => ((alert_Step.f k (⟨#[104, 111, 116]⟩ : ByteArray) 1 ([] : List (S35)) 0 0 0 2 0).bind fun bt724 => (if bt724.2.2.2.2.2.2 = true then (intervalmonlaw28_AlertLadder.l0 k (wrap64 (1 + t721)) t722 (wrap64 (1 + t723)) 0 1 bt724.1 bt724.2.1 bt724.2.2.1 bt724.2.2.2.1 bt724.2.2.2.2.1 bt724.2.2.2.2.2.1) else (some false)))))
theorem intervalmonlaw28_AlertLadder.mono_l : ∀ k, (∀ y0 y1 y2 y3 y4 y5 y6 y7 y8 y9 y10, LeO (intervalmonlaw28_AlertLadder.l0 k y0 y1 y2 y3 y4 y5 y6 y7 y8 y9 y10) (intervalmonlaw28_AlertLadder.l0 (k + 1) y0 y1 y2 y3 y4 y5 y6 y7 y8 y9 y10)) ∧ (∀ y0 y1 y2 y3 y4 y5 y6 y7 y8 y9 y10 y11 y12, LeO (intervalmonlaw28_AlertLadder.j1 k y0 y1 y2 y3 y4 y5 y6 y7 y8 y9 y10 y11 y12) (intervalmonlaw28_AlertLadder.j1 (k + 1) y0 y1 y2 y3 y4 y5 y6 y7 y8 y9 y10 y11 y12)) ∧ (∀ y0 y1 y2 y3 y4 y5 y6 y7 y8 y9 y10, LeO (intervalmonlaw28_AlertLadder.j2 k y0 y1 y2 y3 y4 y5 y6 y7 y8 y9 y10) (intervalmonlaw28_AlertLadder.j2 (k + 1) y0 y1 y2 y3 y4 y5 y6 y7 y8 y9 y10))
  | 0 => ⟨fun _ _ _ _ _ _ _ _ _ _ _ r h => by simp [intervalmonlaw28_AlertLadder.l0] at h, fun _ _ _ _ _ _ _ _ _ _ _ _ _ r h => by simp [intervalmonlaw28_AlertLadder.j1] at h, fun _ _ _ _ _ _ _ _ _ _ _ r h => by simp [intervalmonlaw28_AlertLadder.j2] at h⟩
  | k + 1 => by
    obtain ⟨ih0, ih1, ih2⟩ := intervalmonlaw28_AlertLadder.mono_l k
    refine ⟨?_, ?_, ?_⟩
    · intro y0 y1 y2 y3 y4 y5 y6 y7 y8 y9 y10
      unfold intervalmonlaw28_AlertLadder.l0
      repeat' first
      | (with_reducible exact ih0 _ _ _ _ _ _ _ _ _ _ _)
      | (with_reducible exact ih1 _ _ _ _ _ _ _ _ _ _ _ _ _)
      | (with_reducible exact ih2 _ _ _ _ _ _ _ _ _ _ _)
      | (with_reducible exact alert_Ack.mono _ _ _ _ _ _ _ _)
      | (with_reducible exact alert_Escalate.mono _ _ _ _ _ _ _ _ _ _)
      | (with_reducible exact alert_Step.mono _ _ _ _ _ _ _ _ _)
      | (with_reducible exact alert_Valid.mono _ _ _ _ _ _ _)
      | (with_reducible exact LeO.refl _)
      | (with_reducible exact LeO.none _)
      | (with_reducible refine LeO.ite ?_ ?_)
      | (with_reducible refine LeO.bind ?_ (fun _ => ?_))
      | exact ih0 _ _ _ _ _ _ _ _ _ _ _
      | exact ih1 _ _ _ _ _ _ _ _ _ _ _ _ _
      | exact ih2 _ _ _ _ _ _ _ _ _ _ _
      | exact alert_Ack.mono _ _ _ _ _ _ _ _
      | exact alert_Escalate.mono _ _ _ _ _ _ _ _ _ _
      | exact alert_Step.mono _ _ _ _ _ _ _ _ _
      | exact alert_Valid.mono _ _ _ _ _ _ _
      | exact LeO.none _
      | refine LeO.ite ?_ ?_
      | refine LeO.bind ?_ (fun _ => ?_)
    · intro y0 y1 y2 y3 y4 y5 y6 y7 y8 y9 y10 y11 y12
      unfold intervalmonlaw28_AlertLadder.j1
      repeat' first
      | (with_reducible exact ih0 _ _ _ _ _ _ _ _ _ _ _)
      | (with_reducible exact ih1 _ _ _ _ _ _ _ _ _ _ _ _ _)
      | (with_reducible exact ih2 _ _ _ _ _ _ _ _ _ _ _)
      | (with_reducible exact alert_Ack.mono _ _ _ _ _ _ _ _)
      | (with_reducible exact alert_Escalate.mono _ _ _ _ _ _ _ _ _ _)
      | (with_reducible exact alert_Step.mono _ _ _ _ _ _ _ _ _)
      | (with_reducible exact alert_Valid.mono _ _ _ _ _ _ _)
      | (with_reducible exact LeO.refl _)
      | (with_reducible exact LeO.none _)
      | (with_reducible refine LeO.ite ?_ ?_)
      | (with_reducible refine LeO.bind ?_ (fun _ => ?_))
      | exact ih0 _ _ _ _ _ _ _ _ _ _ _
      | exact ih1 _ _ _ _ _ _ _ _ _ _ _ _ _
      | exact ih2 _ _ _ _ _ _ _ _ _ _ _
      | exact alert_Ack.mono _ _ _ _ _ _ _ _
      | exact alert_Escalate.mono _ _ _ _ _ _ _ _ _ _
      | exact alert_Step.mono _ _ _ _ _ _ _ _ _
      | exact alert_Valid.mono _ _ _ _ _ _ _
      | exact LeO.none _
      | refine LeO.ite ?_ ?_
      | refine LeO.bind ?_ (fun _ => ?_)
    · intro y0 y1 y2 y3 y4 y5 y6 y7 y8 y9 y10
      unfold intervalmonlaw28_AlertLadder.j2
      repeat' first
      | (with_reducible exact ih0 _ _ _ _ _ _ _ _ _ _ _)
      | (with_reducible exact ih1 _ _ _ _ _ _ _ _ _ _ _ _ _)
      | (with_reducible exact ih2 _ _ _ _ _ _ _ _ _ _ _)
      | (with_reducible exact alert_Ack.mono _ _ _ _ _ _ _ _)
      | (with_reducible exact alert_Escalate.mono _ _ _ _ _ _ _ _ _ _)
      | (with_reducible exact alert_Step.mono _ _ _ _ _ _ _ _ _)
      | (with_reducible exact alert_Valid.mono _ _ _ _ _ _ _)
      | (with_reducible exact LeO.refl _)
      | (with_reducible exact LeO.none _)
      | (with_reducible refine LeO.ite ?_ ?_)
      | (with_reducible refine LeO.bind ?_ (fun _ => ?_))
      | exact ih0 _ _ _ _ _ _ _ _ _ _ _
      | exact ih1 _ _ _ _ _ _ _ _ _ _ _ _ _
      | exact ih2 _ _ _ _ _ _ _ _ _ _ _
      | exact alert_Ack.mono _ _ _ _ _ _ _ _
      | exact alert_Escalate.mono _ _ _ _ _ _ _ _ _ _
      | exact alert_Step.mono _ _ _ _ _ _ _ _ _
      | exact alert_Valid.mono _ _ _ _ _ _ _
      | exact LeO.none _
      | refine LeO.ite ?_ ?_
      | refine LeO.bind ?_ (fun _ => ?_)
theorem intervalmonlaw28_AlertLadder.mono : ∀ a0 a1 a2 k, LeO (intervalmonlaw28_AlertLadder.f k a0 a1 a2) (intervalmonlaw28_AlertLadder.f (k + 1) a0 a1 a2) := by
  intro a0 a1 a2 k
  obtain ⟨ih0, ih1, ih2⟩ := intervalmonlaw28_AlertLadder.mono_l k
  unfold intervalmonlaw28_AlertLadder.f
  repeat' first
      | (with_reducible exact ih0 _ _ _ _ _ _ _ _ _ _ _)
      | (with_reducible exact ih1 _ _ _ _ _ _ _ _ _ _ _ _ _)
      | (with_reducible exact ih2 _ _ _ _ _ _ _ _ _ _ _)
      | (with_reducible exact alert_Ack.mono _ _ _ _ _ _ _ _)
      | (with_reducible exact alert_Escalate.mono _ _ _ _ _ _ _ _ _ _)
      | (with_reducible exact alert_Step.mono _ _ _ _ _ _ _ _ _)
      | (with_reducible exact alert_Valid.mono _ _ _ _ _ _ _)
      | (with_reducible exact LeO.refl _)
      | (with_reducible exact LeO.none _)
      | (with_reducible refine LeO.ite ?_ ?_)
      | (with_reducible refine LeO.bind ?_ (fun _ => ?_))
      | exact ih0 _ _ _ _ _ _ _ _ _ _ _
      | exact ih1 _ _ _ _ _ _ _ _ _ _ _ _ _
      | exact ih2 _ _ _ _ _ _ _ _ _ _ _
      | exact alert_Ack.mono _ _ _ _ _ _ _ _
      | exact alert_Escalate.mono _ _ _ _ _ _ _ _ _ _
      | exact alert_Step.mono _ _ _ _ _ _ _ _ _
      | exact alert_Valid.mono _ _ _ _ _ _ _
      | exact LeO.none _
      | refine LeO.ite ?_ ?_
      | refine LeO.bind ?_ (fun _ => ?_)
set_option maxHeartbeats 8000000 in
set_option maxRecDepth 100000 in
theorem intervalmonlaw28_AlertLadder.calls (k : Nat) (a0 : Int) (a1 : Int) (a2 : Int) (r : Bool) (w : World) (hLd : Allowed w) (h : intervalmonlaw28_AlertLadder.f k a0 a1 a2 = some r) :
    Calls Tryd.prog 11 #[.int .i64 a0, .int .i64 a1, .int .i64 a2] w fun e w' => e = .returned (.bool r) ∧ Below w.heap.size w w' := by
  have hu25 := Tryd.underlying25
  have HLd := Aside0.mk hLd
  clear hLd
  have HB := Aside0.mk (Below.refl w.heap.size w)
  have H : ((intervalmonref01_Around.f a0 5).bind fun t721 => ((intervalmonref01_Around.f a1 21).bind fun t722 => ((intervalmonref01_Around.f a2 150).bind fun t723 => ((alert_Step.f k (⟨#[104, 111, 116]⟩ : ByteArray) 1 ([] : List (S35)) 0 0 0 2 0).bind fun bt724 => (if bt724.2.2.2.2.2.2 = true then (intervalmonlaw28_AlertLadder.l0 k (wrap64 (1 + t721)) t722 (wrap64 (1 + t723)) 0 1 bt724.1 bt724.2.1 bt724.2.2.1 bt724.2.2.2.1 bt724.2.2.2.2.1 bt724.2.2.2.2.2.1) else (some false)))))) = some r := h
  clear h
  replace H := Option.bind_eq_some_iff.mp H
  obtain ⟨t721, A40, H⟩ := H
  replace H : ((intervalmonref01_Around.f a1 21).bind fun t722 => ((intervalmonref01_Around.f a2 150).bind fun t723 => ((alert_Step.f k (⟨#[104, 111, 116]⟩ : ByteArray) 1 ([] : List (S35)) 0 0 0 2 0).bind fun bt724 => (if bt724.2.2.2.2.2.2 = true then (intervalmonlaw28_AlertLadder.l0 k (wrap64 (1 + t721)) t722 (wrap64 (1 + t723)) 0 1 bt724.1 bt724.2.1 bt724.2.2.1 bt724.2.2.2.1 bt724.2.2.2.2.1 bt724.2.2.2.2.2.1) else (some false))))) = some r := H
  have A4 := Aside0.mk A40
  clear A40
  replace H := Option.bind_eq_some_iff.mp H
  obtain ⟨t722, A50, H⟩ := H
  replace H : ((intervalmonref01_Around.f a2 150).bind fun t723 => ((alert_Step.f k (⟨#[104, 111, 116]⟩ : ByteArray) 1 ([] : List (S35)) 0 0 0 2 0).bind fun bt724 => (if bt724.2.2.2.2.2.2 = true then (intervalmonlaw28_AlertLadder.l0 k (wrap64 (1 + t721)) t722 (wrap64 (1 + t723)) 0 1 bt724.1 bt724.2.1 bt724.2.2.1 bt724.2.2.2.1 bt724.2.2.2.2.1 bt724.2.2.2.2.2.1) else (some false)))) = some r := H
  have A5 := Aside0.mk A50
  clear A50
  replace H := Option.bind_eq_some_iff.mp H
  obtain ⟨t723, A60, H⟩ := H
  replace H : ((alert_Step.f k (⟨#[104, 111, 116]⟩ : ByteArray) 1 ([] : List (S35)) 0 0 0 2 0).bind fun bt724 => (if bt724.2.2.2.2.2.2 = true then (intervalmonlaw28_AlertLadder.l0 k (wrap64 (1 + t721)) t722 (wrap64 (1 + t723)) 0 1 bt724.1 bt724.2.1 bt724.2.2.1 bt724.2.2.2.1 bt724.2.2.2.2.1 bt724.2.2.2.2.2.1) else (some false))) = some r := H
  have A6 := Aside0.mk A60
  clear A60
  replace H := Option.bind_eq_some_iff.mp H
  obtain ⟨⟨t724, t725, t726, t729, t730, t731, t732⟩, A70, H⟩ := H
  replace H : (if t732 = true then (intervalmonlaw28_AlertLadder.l0 k (wrap64 (1 + t721)) t722 (wrap64 (1 + t723)) 0 1 t724 t725 t726 t729 t730 t731) else (some false)) = some r := H
  have A7 := Aside0.mk A70
  clear A70
  by_cases c8 : t732 = true
  · subst c8
    have H1 : (intervalmonlaw28_AlertLadder.l0 k (wrap64 (1 + t721)) t722 (wrap64 (1 + t723)) 0 1 t724 t725 t726 t729 t730 t731) = some r := by rw [if_pos rfl] at H; exact H
    clear H
    have H := H1
    clear H1
    have H' := Aside0.mk H
    clear H
    go_enter Tryd.func11, Tryd.ntmps11
    go_wp2_with (first | ((with_reducible refine gate_callee (f := 27) rfl ?_); refine goesL_ (some 19) rfl rfl Tryd.func27 (by kernel_rfl) rfl #[.int .i64 a0, .int .i64 5] rfl (by (try simp only [List.map_toArray, List.map_cons, List.map_nil]); first | done | rfl | (simp only [List.length_drop, List.length_take]; rfl)) ?_; (with_reducible refine (intervalmonref01_Around.calls a0 5 t721 _ A4.out).mono ?_); rintro e w' ⟨rfl, ⟨nd, rfl⟩⟩; refine ⟨_, rfl, ?_⟩) | ((with_reducible refine gate_callee (f := 27) rfl ?_); refine goesL_ (some 22) rfl rfl Tryd.func27 (by kernel_rfl) rfl #[.int .i64 a1, .int .i64 21] rfl (by (try simp only [List.map_toArray, List.map_cons, List.map_nil]); first | done | rfl | (simp only [List.length_drop, List.length_take]; rfl)) ?_; (with_reducible refine (intervalmonref01_Around.calls a1 21 t722 _ A5.out).mono ?_); rintro e w' ⟨rfl, ⟨nd, rfl⟩⟩; refine ⟨_, rfl, ?_⟩) | ((with_reducible refine gate_callee (f := 27) rfl ?_); refine goesL_ (some 24) rfl rfl Tryd.func27 (by kernel_rfl) rfl #[.int .i64 a2, .int .i64 150] rfl (by (try simp only [List.map_toArray, List.map_cons, List.map_nil]); first | done | rfl | (simp only [List.length_drop, List.length_take]; rfl)) ?_; (with_reducible refine (intervalmonref01_Around.calls a2 150 t723 _ A6.out).mono ?_); rintro e w' ⟨rfl, ⟨nd, rfl⟩⟩; refine ⟨_, rfl, ?_⟩) | ((with_reducible refine gate_callee (f := 18) rfl ?_); refine goesL_ (some 28) rfl rfl Tryd.func18 (by kernel_rfl) rfl #[.agg #[.string (⟨#[104, 111, 116]⟩ : ByteArray), .int .i64 1, .slice none 0 0, .int .i64 0, .int .i64 0, .int .i64 0], .int .i64 2, .int .i64 0] rfl (by (try simp only [List.map_toArray, List.map_cons, List.map_nil]); first | done | rfl | (simp only [List.length_drop, List.length_take]; rfl)) ?_; (refine (alert_Step.calls k (⟨#[104, 111, 116]⟩ : ByteArray) 1 _ _ ([] : List (S35)) 0 0 0 2 0 t724 t725 t726 t729 t730 t731 true _ ?side3 ?side1 ?side2 A7.out).mono ?_); (case side1 => exact Kd.C_nil _ _); (case side2 => exact Nat.le_refl _); (case side3 => first | exact Allowed.below HLd.out (by repeat (first | (with_reducible first | exact HB.out | apply below_alloc | apply pw_below_drewN | apply below_drew1) | exact HB.out)) | (repeat (first | exact HLd.out | apply Allowed.drewN | apply Allowed.drew | apply Allowed.alloc))); rintro e w9 ⟨v727, rfl, ho0, hb⟩; refine ⟨_, rfl, ?_⟩; have n0_ := Aside0.mk (Kd.R_lower ho0 (below_size (by repeat (first | (with_reducible first | exact HB.out | apply below_alloc | apply pw_below_drewN | apply below_drew1) | exact HB.out)))); have n1_ := Aside0.mk (below_step (by repeat (first | (with_reducible first | exact HB.out | apply below_alloc | apply pw_below_drewN | apply below_drew1) | exact HB.out)) hb); clear HB; have HO728 := n0_; have HB := n1_; clear n0_ n1_; (try clear hb); (try clear hb2); (try clear hk); (try clear hi); (try clear ho0)) | ((with_reducible refine gate_dst (N := 10) rfl ?_); (try (refine gate_guard (by rfl) ?_; dsimp only)); refine box_event ?hg (N := 10) ?hd (cs := #[.string (⟨#[]⟩ : ByteArray), .int .i64 0, .slice none 0 0, .int .i64 0, .int .i64 0, .int .i64 0]) (t := 25) ?hr ?_; (case hd => rfl); (case hg => rfl); (case hr => first | (go_simp; done) | (go_simp; rfl)); intro gb733 hg w10 hbox hb; have n0_ := Aside0.mk (Kd.R_below (by (with_reducible repeat (first | apply Kd.R_alloc | apply Kd.R_drewN | apply Kd.R_drew)); exact HO728.out) hb); have n1_ := Aside0.mk (below_step (by repeat (first | (with_reducible first | exact HB.out | apply below_alloc | apply pw_below_drewN | apply below_drew1) | exact HB.out)) hb); have n2_ := Aside0.mk (hbox); have n3_ := Aside0.mk ((by rw [hg]; exact (below_size (by repeat (first | (with_reducible first | exact HB.out | apply below_alloc | apply pw_below_drewN | apply below_drew1) | exact HB.out))) : w.heap.size ≤ gb733)); have n4_ := Aside0.mk ((by rw [hg]; exact (below_size (by repeat (first | (with_reducible first | exact HB.out | apply below_alloc | apply pw_below_drewN | apply below_drew1) | exact HB.out))) : w.heap.size ≤ gb733)); clear HO728; clear HB; have HO728 := n0_; have HB := n1_; have BK733 := n2_; have GW733 := n3_; have GE733 := n4_; clear n0_ n1_ n2_ n3_ n4_; clear hb hbox hg; have hcz11_0 : w10.cell? ⟨gb733, 0, none⟩ = some (.string (⟨#[]⟩ : ByteArray)) := (blk_cell BK733.out 0).trans rfl; have hcz11_1 : w10.cell? ⟨gb733, 1, none⟩ = some (.int .i64 0) := (blk_cell BK733.out 1).trans rfl; have hcz11_2 : w10.cell? ⟨gb733, 2, none⟩ = some (.slice none 0 0) := (blk_cell BK733.out 2).trans rfl; have hcz11_3 : w10.cell? ⟨gb733, 3, none⟩ = some (.int .i64 0) := (blk_cell BK733.out 3).trans rfl; have hcz11_4 : w10.cell? ⟨gb733, 4, none⟩ = some (.int .i64 0) := (blk_cell BK733.out 4).trans rfl; have hcz11_5 : w10.cell? ⟨gb733, 5, none⟩ = some (.int .i64 0) := (blk_cell BK733.out 5).trans rfl; have hfz11_0 := blk_frozen BK733.out 0; have hfz11_1 := blk_frozen BK733.out 1; have hfz11_2 := blk_frozen BK733.out 2; have hfz11_3 := blk_frozen BK733.out 3; have hfz11_4 := blk_frozen BK733.out 4; have hfz11_5 := blk_frozen BK733.out 5; obtain ⟨Ao12, co12, eo12⟩ := Kd.R_slice HO728.out; subst eo12))
    go_loopg [12, 13] k (fun kq v12 v13 w' => ∃ (x12_1 : Int) (x13_1 : Int) (x734000_1 : ByteArray) (x734001_1 : Int) (x734002_1 : List (S35)) (x734003_1 : Int) (x734004_1 : Int) (x734005_1 : Int) (u734002 : Value), v12 = .int .i64 x12_1 ∧ v13 = .int .i64 x13_1 ∧ Aside0 (intervalmonlaw28_AlertLadder.l0 kq (wrap64 (1 + t721)) t722 (wrap64 (1 + t723)) x12_1 x13_1 x734000_1 x734001_1 x734002_1 x734003_1 x734004_1 x734005_1 = some r) ∧ Aside0 (kq ≤ k) ∧ Aside0 (Kd.R k35 35 w' w.heap.size (fun _ => True) u734002 x734002_1) ∧ Aside0 (w'.heap[gb733]? = some (.cells #[.string x734000_1, .int .i64 x734001_1, u734002, .int .i64 x734003_1, .int .i64 x734004_1, .int .i64 x734005_1] 25 (0, 0))) ∧ Aside0 (Below w.heap.size w w'))
    case atStart => exact ⟨(0), (1), (t724), (t725), (t726), (t729), (t730), (t731), (.slice Ao12 t726.length co12), (by first | rfl | (simp; done) | (simp [*]; done)), (by first | rfl | (simp; done) | (simp [*]; done)), H', ⟨Nat.le_refl _⟩, ⟨by (with_reducible repeat (first | apply Kd.R_alloc | apply Kd.R_drewN | apply Kd.R_drew)); exact Kd.R_mono (Kd.R_far (p := ⟨gb733, 5, none⟩) (Kd.R_far (p := ⟨gb733, 4, none⟩) (Kd.R_far (p := ⟨gb733, 3, none⟩) (Kd.R_far (p := ⟨gb733, 2, none⟩) (Kd.R_far (p := ⟨gb733, 1, none⟩) (Kd.R_far (p := ⟨gb733, 0, none⟩) (Kd.R_types HO728.out BK733.out (by decide)) (fun _ hk => hk.2) (.string t724)) (fun _ hk => hk.2) (.int .i64 t725)) (fun _ hk => hk.2) (.slice Ao12 t726.length co12)) (fun _ hk => hk.2) (.int .i64 t729)) (fun _ hk => hk.2) (.int .i64 t730)) (fun _ hk => hk.2) (.int .i64 t731)) (fun _ hk => trivial)⟩, ⟨by (with_reducible repeat (first | refine blk_drewN ?_ _ | refine blk_drew ?_ | refine blk_alloc ?_ _)); refine blk_put (cs := #[.string t724, .int .i64 t725, .slice Ao12 t726.length co12, .int .i64 t729, .int .i64 t730, .int .i64 0]) ?_ 5 _ rfl; (with_reducible repeat (first | refine blk_drewN ?_ _ | refine blk_drew ?_ | refine blk_alloc ?_ _)); refine blk_put (cs := #[.string t724, .int .i64 t725, .slice Ao12 t726.length co12, .int .i64 t729, .int .i64 0, .int .i64 0]) ?_ 4 _ rfl; (with_reducible repeat (first | refine blk_drewN ?_ _ | refine blk_drew ?_ | refine blk_alloc ?_ _)); refine blk_put (cs := #[.string t724, .int .i64 t725, .slice Ao12 t726.length co12, .int .i64 0, .int .i64 0, .int .i64 0]) ?_ 3 _ rfl; (with_reducible repeat (first | refine blk_drewN ?_ _ | refine blk_drew ?_ | refine blk_alloc ?_ _)); refine blk_put (cs := #[.string t724, .int .i64 t725, .slice none 0 0, .int .i64 0, .int .i64 0, .int .i64 0]) ?_ 2 _ rfl; (with_reducible repeat (first | refine blk_drewN ?_ _ | refine blk_drew ?_ | refine blk_alloc ?_ _)); refine blk_put (cs := #[.string t724, .int .i64 0, .slice none 0 0, .int .i64 0, .int .i64 0, .int .i64 0]) ?_ 1 _ rfl; (with_reducible repeat (first | refine blk_drewN ?_ _ | refine blk_drew ?_ | refine blk_alloc ?_ _)); refine blk_put (cs := #[.string (⟨#[]⟩ : ByteArray), .int .i64 0, .slice none 0 0, .int .i64 0, .int .i64 0, .int .i64 0]) ?_ 0 _ rfl; (with_reducible repeat (first | refine blk_drewN ?_ _ | refine blk_drew ?_ | refine blk_alloc ?_ _)); exact BK733.out⟩, ⟨by repeat (first | (with_reducible first | exact HB.out | apply below_alloc | apply pw_below_drewN | apply below_drew1 | refine below_set ?_ GE733.out) | exact HB.out)⟩⟩
    case round =>
      clear H'
      try clear c1
      try clear c2
      try clear p2
      try clear p6
      try clear c8
      try clear c11
      try clear hcz11_0
      try clear hcz11_1
      try clear hcz11_2
      try clear hcz11_3
      try clear hcz11_4
      try clear hcz11_5
      try clear hfz11_0
      try clear hfz11_1
      try clear hfz11_2
      try clear hfz11_3
      try clear hfz11_4
      try clear hfz11_5
      obtain ⟨x12_1, x13_1, x734000_1, x734001_1, x734002_1, x734003_1, x734004_1, x734005_1, u734002, rfl, rfl, HA, HK1, HO_734002, BK733, HB⟩ := hrel
      cases gk with
      | zero => exact absurd HA.out (by simp [intervalmonlaw28_AlertLadder.l0])
      | succ k1 =>
        have H := HA.out
        clear HA
        simp only [intervalmonlaw28_AlertLadder.l0] at H
        by_cases c13 : x13_1 < 100
        · rw [if_pos c13] at H
          have c13b0 : decide (x13_1 < 100) = true := decide_eq_true c13
          clear c13
          replace H := Option.bind_eq_some_iff.mp H
          obtain ⟨⟨t736, t737, t738, t741, t742, t743, t744⟩, A140, H⟩ := H
          replace H : (if x13_1 ≤ (wrap64 (1 + t723)) then (if (wrap64 (1 + t721)) = 0 then (none) else (if (Int.tmod x13_1 (wrap64 (1 + t721))) = 0 then (intervalmonlaw28_AlertLadder.j1 k1 (wrap64 (1 + t721)) t722 (wrap64 (1 + t723)) x12_1 x13_1 t744 (t744 != (decide (x12_1 < (mn t722 16)))) t736 t737 t738 t741 t742 t743) else (intervalmonlaw28_AlertLadder.j1 k1 (wrap64 (1 + t721)) t722 (wrap64 (1 + t723)) x12_1 x13_1 t744 (t744 != false) t736 t737 t738 t741 t742 t743))) else (intervalmonlaw28_AlertLadder.j1 k1 (wrap64 (1 + t721)) t722 (wrap64 (1 + t723)) x12_1 x13_1 t744 (t744 != false) t736 t737 t738 t741 t742 t743)) = some r := H
          have A14 := Aside0.mk A140
          clear A140
          have HC15 := Aside0.mk H
          clear H
          have hcz16_0 : wr.cell? ⟨gb733, 0, none⟩ = some (.string x734000_1) := (blk_cell BK733.out 0).trans rfl
          have hcz16_1 : wr.cell? ⟨gb733, 1, none⟩ = some (.int .i64 x734001_1) := (blk_cell BK733.out 1).trans rfl
          have hcz16_2 : wr.cell? ⟨gb733, 2, none⟩ = some (u734002) := (blk_cell BK733.out 2).trans rfl
          have hcz16_3 : wr.cell? ⟨gb733, 3, none⟩ = some (.int .i64 x734003_1) := (blk_cell BK733.out 3).trans rfl
          have hcz16_4 : wr.cell? ⟨gb733, 4, none⟩ = some (.int .i64 x734004_1) := (blk_cell BK733.out 4).trans rfl
          have hcz16_5 : wr.cell? ⟨gb733, 5, none⟩ = some (.int .i64 x734005_1) := (blk_cell BK733.out 5).trans rfl
          have hfz16_0 := blk_frozen BK733.out 0
          have hfz16_1 := blk_frozen BK733.out 1
          have hfz16_2 := blk_frozen BK733.out 2
          have hfz16_3 := blk_frozen BK733.out 3
          have hfz16_4 := blk_frozen BK733.out 4
          have hfz16_5 := blk_frozen BK733.out 5
          obtain ⟨Ao17, co17, eo17⟩ := Kd.R_slice HO_734002.out
          subst eo17
          go_upto_region 12 with (first | ((with_reducible refine gate_callee (f := 21) rfl ?_); refine goesL_ (some 42) rfl rfl Tryd.func21 (by kernel_rfl) rfl #[.agg #[.string x734000_1, .int .i64 x734001_1, .slice Ao17 x734002_1.length co17, .int .i64 x734003_1, .int .i64 x734004_1, .int .i64 x734005_1], .int .i64 x13_1, .int .i64 (wrap64 (1 + t721)), .int .i64 t722] rfl (by (try simp only [List.map_toArray, List.map_cons, List.map_nil]); first | done | rfl | (simp only [List.length_drop, List.length_take]; rfl)) ?_; (with_reducible refine (alert_Escalate.calls k1 x734000_1 x734001_1 _ _ x734002_1 x734003_1 x734004_1 x734005_1 x13_1 (wrap64 (1 + t721)) t722 t736 t737 t738 t741 t742 t743 t744 _ ?side3 ?side1 ?side2 A14.out).mono ?_); (case side1 => repeat (first | exact (Kd.R_reads' HO_734002.out).2.2 | (with_reducible refine Kd.C_alloc ?_ _) | (with_reducible refine Kd.C_drewN ?_ _) | (with_reducible refine Kd.C_drew ?_))); (case side2 => exact (Kd.R_reads' HO_734002.out).2.1); (case side3 => first | exact Allowed.below HLd.out (by repeat (first | (with_reducible first | exact HB.out | apply below_alloc | apply pw_below_drewN | apply below_drew1 | refine below_set ?_ GE733.out) | exact HB.out)) | (repeat (first | exact HLd.out | apply Allowed.drewN | apply Allowed.drew | apply Allowed.alloc))); rintro e w18 ⟨v739, rfl, ho0, hb⟩; refine ⟨_, rfl, ?_⟩; have n0_ := Aside0.mk (Kd.R_elder' (by (with_reducible repeat (first | apply Kd.R_alloc | apply Kd.R_drewN | apply Kd.R_drew)); exact HO_734002.out) (Kd.R_base ho0) hb); have n1_ := Aside0.mk (Kd.R_lower (Kd.R_new' ho0 (Kd.R_lt (by (with_reducible repeat (first | apply Kd.R_alloc | apply Kd.R_drewN | apply Kd.R_drew)); exact HO_734002.out))) (below_size (by repeat (first | (with_reducible first | exact HB.out | apply below_alloc | apply pw_below_drewN | apply below_drew1 | refine below_set ?_ GE733.out) | exact HB.out)))); have n2_ := Aside0.mk (blk_below (g := gb733) (o := .cells #[.string x734000_1, .int .i64 x734001_1, .slice Ao17 x734002_1.length co17, .int .i64 x734003_1, .int .i64 x734004_1, .int .i64 x734005_1] 25 (0, 0)) (by (with_reducible repeat (first | refine blk_drewN ?_ _ | refine blk_drew ?_ | refine blk_alloc ?_ _)); exact BK733.out) hb); have n3_ := Aside0.mk (below_step (by repeat (first | (with_reducible first | exact HB.out | apply below_alloc | apply pw_below_drewN | apply below_drew1 | refine below_set ?_ GE733.out) | exact HB.out)) hb); clear HO_734002; clear BK733; clear HB; have HO_734002 := n0_; have HO740 := n1_; have BK733 := n2_; have HB := n3_; clear n0_ n1_ n2_ n3_; (try clear hb); (try clear hb2); (try clear hk); (try clear hi); (try clear ho0)) | ((with_reducible refine gate_dst (N := 14) rfl ?_); (try (refine gate_guard (by rfl) ?_; dsimp only)); refine box_event ?hg (N := 14) ?hd (cs := #[.string (⟨#[]⟩ : ByteArray), .int .i64 0, .slice none 0 0, .int .i64 0, .int .i64 0, .int .i64 0]) (t := 25) ?hr ?_; (case hd => rfl); (case hg => rfl); (case hr => first | (go_simp; done) | (go_simp; rfl)); intro gb745 hg w19 hbox hb; have n0_ := Aside0.mk (Kd.R_below (by (with_reducible repeat (first | apply Kd.R_alloc | apply Kd.R_drewN | apply Kd.R_drew)); exact HO_734002.out) hb); have n1_ := Aside0.mk (Kd.R_below (by (with_reducible repeat (first | apply Kd.R_alloc | apply Kd.R_drewN | apply Kd.R_drew)); exact HO740.out) hb); have n2_ := Aside0.mk (blk_below (g := gb733) (o := .cells #[.string x734000_1, .int .i64 x734001_1, .slice Ao17 x734002_1.length co17, .int .i64 x734003_1, .int .i64 x734004_1, .int .i64 x734005_1] 25 (0, 0)) (by (with_reducible repeat (first | refine blk_drewN ?_ _ | refine blk_drew ?_ | refine blk_alloc ?_ _)); exact BK733.out) hb); have n3_ := Aside0.mk (below_step (by repeat (first | (with_reducible first | exact HB.out | apply below_alloc | apply pw_below_drewN | apply below_drew1 | refine below_set ?_ GE733.out) | exact HB.out)) hb); have n4_ := Aside0.mk (hbox); have n5_ := Aside0.mk ((by rw [hg]; exact (below_size (by repeat (first | (with_reducible first | exact HB.out | apply below_alloc | apply pw_below_drewN | apply below_drew1 | refine below_set ?_ GE733.out) | exact HB.out))) : w.heap.size ≤ gb745)); have n6_ := Aside0.mk ((by rw [hg]; exact (below_size (by repeat (first | (with_reducible first | exact HB.out | apply below_alloc | apply pw_below_drewN | apply below_drew1 | refine below_set ?_ GE733.out) | exact HB.out))) : w.heap.size ≤ gb745)); have n7_ := Aside0.mk ((by rw [hg]; exact Nat.ne_of_lt (blk_lt (g := gb733) (o := .cells #[.string x734000_1, .int .i64 x734001_1, .slice Ao17 x734002_1.length co17, .int .i64 x734003_1, .int .i64 x734004_1, .int .i64 x734005_1] 25 (0, 0)) (by (with_reducible repeat (first | refine blk_drewN ?_ _ | refine blk_drew ?_ | refine blk_alloc ?_ _)); exact BK733.out)) : gb733 ≠ gb745)); have n8_ := Aside0.mk ((by rw [hg]; exact Nat.ne_of_gt (blk_lt (g := gb733) (o := .cells #[.string x734000_1, .int .i64 x734001_1, .slice Ao17 x734002_1.length co17, .int .i64 x734003_1, .int .i64 x734004_1, .int .i64 x734005_1] 25 (0, 0)) (by (with_reducible repeat (first | refine blk_drewN ?_ _ | refine blk_drew ?_ | refine blk_alloc ?_ _)); exact BK733.out)) : gb745 ≠ gb733)); clear HO_734002; clear HO740; clear BK733; clear HB; have HO_734002 := n0_; have HO740 := n1_; have BK733 := n2_; have HB := n3_; have BK745 := n4_; have GW745 := n5_; have GE745 := n6_; have NB733_745 := n7_; have NB745_733 := n8_; clear n0_ n1_ n2_ n3_ n4_ n5_ n6_ n7_ n8_; clear hb hbox hg; have hnb20 := NB745_733.out; have hnc20 := NB733_745.out; have hcz21_0 : w19.cell? ⟨gb745, 0, none⟩ = some (.string (⟨#[]⟩ : ByteArray)) := (blk_cell BK745.out 0).trans rfl; have hcz21_1 : w19.cell? ⟨gb745, 1, none⟩ = some (.int .i64 0) := (blk_cell BK745.out 1).trans rfl; have hcz21_2 : w19.cell? ⟨gb745, 2, none⟩ = some (.slice none 0 0) := (blk_cell BK745.out 2).trans rfl; have hcz21_3 : w19.cell? ⟨gb745, 3, none⟩ = some (.int .i64 0) := (blk_cell BK745.out 3).trans rfl; have hcz21_4 : w19.cell? ⟨gb745, 4, none⟩ = some (.int .i64 0) := (blk_cell BK745.out 4).trans rfl; have hcz21_5 : w19.cell? ⟨gb745, 5, none⟩ = some (.int .i64 0) := (blk_cell BK745.out 5).trans rfl; have hfz21_0 := blk_frozen BK745.out 0; have hfz21_1 := blk_frozen BK745.out 1; have hfz21_2 := blk_frozen BK745.out 2; have hfz21_3 := blk_frozen BK745.out 3; have hfz21_4 := blk_frozen BK745.out 4; have hfz21_5 := blk_frozen BK745.out 5; obtain ⟨Ao22, co22, eo22⟩ := Kd.R_slice HO740.out; subst eo22))
          (try simp only [Act.put, List.setIfInBounds_toArray, List.set_cons_zero, List.set_cons_succ])
          go_cut [61] (fun v61 wc => ∃ (kq : Nat) (x61_14 : Bool), v61 = .bool x61_14 ∧ Aside0 (intervalmonlaw28_AlertLadder.j1 kq (wrap64 (1 + t721)) t722 (wrap64 (1 + t723)) x12_1 x13_1 t744 x61_14 t736 t737 t738 t741 t742 t743 = some r) ∧ Aside0 (kq ≤ k1) ∧ Aside0 (Kd.R k35 35 wc w.heap.size (fun k_ => some k_ ≠ ((.slice Ao22 t738.length co22) : Value).ownBlock) (.slice Ao17 x734002_1.length co17) x734002_1) ∧ Aside0 (Kd.R k35 35 wc w.heap.size (fun k_ => some k_ ≠ ((.slice Ao17 x734002_1.length co17) : Value).ownBlock) (.slice Ao22 t738.length co22) t738) ∧ Aside0 (wc.heap[gb733]? = some (.cells #[.string x734000_1, .int .i64 x734001_1, (.slice Ao17 x734002_1.length co17), .int .i64 x734003_1, .int .i64 x734004_1, .int .i64 x734005_1] 25 (0, 0))) ∧ Aside0 (wc.heap[gb745]? = some (.cells #[.string t736, .int .i64 t737, (.slice Ao22 t738.length co22), .int .i64 t741, .int .i64 t742, .int .i64 t743] 25 (0, 0))) ∧ Aside0 (Below w.heap.size w wc))
          case first =>
            have H := HC15.out
            clear HC15
            by_cases c23 : x13_1 ≤ (wrap64 (1 + t723))
            · rw [if_pos c23] at H
              have c23b0 : decide (x13_1 ≤ (wrap64 (1 + t723))) = true := decide_eq_true c23
              clear c23
              (first | rw [c23b0] | (simp only [i64_w, i32_w]; rw [c23b0]) | skip)
              by_cases c24 : (wrap64 (1 + t721)) = 0
              · rw [if_pos c24] at H
                exact absurd H (by simp)
              · rw [if_neg c24] at H
                have c24b0 : ((wrap64 (1 + t721)) == 0) = false := beq_eq_false_iff_ne.mpr c24
                have c24b1 : ((wrap64 (1 + t721)) != 0) = true := bne_iff_ne.mpr c24
                by_cases c25 : (Int.tmod x13_1 (wrap64 (1 + t721))) = 0
                · rw [if_pos c25] at H
                  have c25b0 : ((Int.tmod x13_1 (wrap64 (1 + t721))) == 0) = true := beq_iff_eq.mpr c25
                  have c25b1 : ((Int.tmod x13_1 (wrap64 (1 + t721))) != 0) = false := bne_eq_false_iff_eq.mpr c25
                  clear c25
                  obtain ⟨ji26, hji26⟩ : ∃ j_ : Int, (mn t722 16) = j_ := ⟨_, rfl⟩
                  replace H : (intervalmonlaw28_AlertLadder.j1 k1 (wrap64 (1 + t721)) t722 (wrap64 (1 + t723)) x12_1 x13_1 t744 (t744 != (decide (x12_1 < (ji26)))) t736 t737 t738 t741 t742 t743) = some r := by first | (rw [hji26] at H; exact H) | (simp only [hji26] at H ⊢; exact H)
                  have hji26_ : (if 16 < t722 then 16 else t722) = ji26 := hji26
                  have H' := Aside0.mk H
                  clear H
                  go_wp2
                  go_meet
                  case rel => exact ⟨_, ((t744 != (decide (x12_1 < (ji26))))), (by first | rfl | (simp; done) | (simp only [← hji26] <;> (first | rfl | simp)) | (simp [*]; done)), H', ⟨by have := HK1.out; first | omega | exact Nat.le_refl _⟩, ⟨by (with_reducible repeat (first | apply Kd.R_alloc | apply Kd.R_drewN | apply Kd.R_drew)); exact Kd.R_mono (Kd.R_far (p := ⟨gb745, 5, none⟩) (Kd.R_far (p := ⟨gb745, 4, none⟩) (Kd.R_far (p := ⟨gb745, 3, none⟩) (Kd.R_far (p := ⟨gb745, 2, none⟩) (Kd.R_far (p := ⟨gb745, 1, none⟩) (Kd.R_far (p := ⟨gb745, 0, none⟩) (Kd.R_types HO_734002.out BK745.out (by decide)) (fun _ hk => hk.2) (.string t736)) (fun _ hk => hk.2) (.int .i64 t737)) (fun _ hk => hk.2) (.slice Ao22 t738.length co22)) (fun _ hk => hk.2) (.int .i64 t741)) (fun _ hk => hk.2) (.int .i64 t742)) (fun _ hk => hk.2) (.int .i64 t743)) (fun _ hk => hk.1.2)⟩, ⟨by (with_reducible repeat (first | apply Kd.R_alloc | apply Kd.R_drewN | apply Kd.R_drew)); exact Kd.R_mono (Kd.R_far (p := ⟨gb745, 5, none⟩) (Kd.R_far (p := ⟨gb745, 4, none⟩) (Kd.R_far (p := ⟨gb745, 3, none⟩) (Kd.R_far (p := ⟨gb745, 2, none⟩) (Kd.R_far (p := ⟨gb745, 1, none⟩) (Kd.R_far (p := ⟨gb745, 0, none⟩) (Kd.R_types HO740.out BK745.out (by decide)) (fun _ hk => hk.2) (.string t736)) (fun _ hk => hk.2) (.int .i64 t737)) (fun _ hk => hk.2) (.slice Ao22 t738.length co22)) (fun _ hk => hk.2) (.int .i64 t741)) (fun _ hk => hk.2) (.int .i64 t742)) (fun _ hk => hk.2) (.int .i64 t743)) (fun _ hk => hk.1.2)⟩, ⟨by (with_reducible repeat (first | refine blk_drewN ?_ _ | refine blk_drew ?_ | refine blk_alloc ?_ _)); refine blk_far ?_ NB733_745.out _; (with_reducible repeat (first | refine blk_drewN ?_ _ | refine blk_drew ?_ | refine blk_alloc ?_ _)); refine blk_far ?_ NB733_745.out _; (with_reducible repeat (first | refine blk_drewN ?_ _ | refine blk_drew ?_ | refine blk_alloc ?_ _)); refine blk_far ?_ NB733_745.out _; (with_reducible repeat (first | refine blk_drewN ?_ _ | refine blk_drew ?_ | refine blk_alloc ?_ _)); refine blk_far ?_ NB733_745.out _; (with_reducible repeat (first | refine blk_drewN ?_ _ | refine blk_drew ?_ | refine blk_alloc ?_ _)); refine blk_far ?_ NB733_745.out _; (with_reducible repeat (first | refine blk_drewN ?_ _ | refine blk_drew ?_ | refine blk_alloc ?_ _)); refine blk_far ?_ NB733_745.out _; (with_reducible repeat (first | refine blk_drewN ?_ _ | refine blk_drew ?_ | refine blk_alloc ?_ _)); exact BK733.out⟩, ⟨by (with_reducible repeat (first | refine blk_drewN ?_ _ | refine blk_drew ?_ | refine blk_alloc ?_ _)); refine blk_put (cs := #[.string t736, .int .i64 t737, .slice Ao22 t738.length co22, .int .i64 t741, .int .i64 t742, .int .i64 0]) ?_ 5 _ rfl; (with_reducible repeat (first | refine blk_drewN ?_ _ | refine blk_drew ?_ | refine blk_alloc ?_ _)); refine blk_put (cs := #[.string t736, .int .i64 t737, .slice Ao22 t738.length co22, .int .i64 t741, .int .i64 0, .int .i64 0]) ?_ 4 _ rfl; (with_reducible repeat (first | refine blk_drewN ?_ _ | refine blk_drew ?_ | refine blk_alloc ?_ _)); refine blk_put (cs := #[.string t736, .int .i64 t737, .slice Ao22 t738.length co22, .int .i64 0, .int .i64 0, .int .i64 0]) ?_ 3 _ rfl; (with_reducible repeat (first | refine blk_drewN ?_ _ | refine blk_drew ?_ | refine blk_alloc ?_ _)); refine blk_put (cs := #[.string t736, .int .i64 t737, .slice none 0 0, .int .i64 0, .int .i64 0, .int .i64 0]) ?_ 2 _ rfl; (with_reducible repeat (first | refine blk_drewN ?_ _ | refine blk_drew ?_ | refine blk_alloc ?_ _)); refine blk_put (cs := #[.string t736, .int .i64 0, .slice none 0 0, .int .i64 0, .int .i64 0, .int .i64 0]) ?_ 1 _ rfl; (with_reducible repeat (first | refine blk_drewN ?_ _ | refine blk_drew ?_ | refine blk_alloc ?_ _)); refine blk_put (cs := #[.string (⟨#[]⟩ : ByteArray), .int .i64 0, .slice none 0 0, .int .i64 0, .int .i64 0, .int .i64 0]) ?_ 0 _ rfl; (with_reducible repeat (first | refine blk_drewN ?_ _ | refine blk_drew ?_ | refine blk_alloc ?_ _)); exact BK745.out⟩, ⟨by repeat (first | (with_reducible first | exact HB.out | apply below_alloc | apply pw_below_drewN | apply below_drew1 | refine below_set ?_ GE733.out | refine below_set ?_ GE745.out) | exact HB.out)⟩⟩
                · rw [if_neg c25] at H
                  have c25b0 : ((Int.tmod x13_1 (wrap64 (1 + t721))) == 0) = false := beq_eq_false_iff_ne.mpr c25
                  have c25b1 : ((Int.tmod x13_1 (wrap64 (1 + t721))) != 0) = true := bne_iff_ne.mpr c25
                  have H' := Aside0.mk H
                  clear H
                  go_wp2
                  go_meet
                  case rel => exact ⟨_, ((t744 != false)), (by first | rfl | (simp; done) | (simp [*]; done)), H', ⟨by have := HK1.out; first | omega | exact Nat.le_refl _⟩, ⟨by (with_reducible repeat (first | apply Kd.R_alloc | apply Kd.R_drewN | apply Kd.R_drew)); exact Kd.R_mono (Kd.R_far (p := ⟨gb745, 5, none⟩) (Kd.R_far (p := ⟨gb745, 4, none⟩) (Kd.R_far (p := ⟨gb745, 3, none⟩) (Kd.R_far (p := ⟨gb745, 2, none⟩) (Kd.R_far (p := ⟨gb745, 1, none⟩) (Kd.R_far (p := ⟨gb745, 0, none⟩) (Kd.R_types HO_734002.out BK745.out (by decide)) (fun _ hk => hk.2) (.string t736)) (fun _ hk => hk.2) (.int .i64 t737)) (fun _ hk => hk.2) (.slice Ao22 t738.length co22)) (fun _ hk => hk.2) (.int .i64 t741)) (fun _ hk => hk.2) (.int .i64 t742)) (fun _ hk => hk.2) (.int .i64 t743)) (fun _ hk => hk.1.2)⟩, ⟨by (with_reducible repeat (first | apply Kd.R_alloc | apply Kd.R_drewN | apply Kd.R_drew)); exact Kd.R_mono (Kd.R_far (p := ⟨gb745, 5, none⟩) (Kd.R_far (p := ⟨gb745, 4, none⟩) (Kd.R_far (p := ⟨gb745, 3, none⟩) (Kd.R_far (p := ⟨gb745, 2, none⟩) (Kd.R_far (p := ⟨gb745, 1, none⟩) (Kd.R_far (p := ⟨gb745, 0, none⟩) (Kd.R_types HO740.out BK745.out (by decide)) (fun _ hk => hk.2) (.string t736)) (fun _ hk => hk.2) (.int .i64 t737)) (fun _ hk => hk.2) (.slice Ao22 t738.length co22)) (fun _ hk => hk.2) (.int .i64 t741)) (fun _ hk => hk.2) (.int .i64 t742)) (fun _ hk => hk.2) (.int .i64 t743)) (fun _ hk => hk.1.2)⟩, ⟨by (with_reducible repeat (first | refine blk_drewN ?_ _ | refine blk_drew ?_ | refine blk_alloc ?_ _)); refine blk_far ?_ NB733_745.out _; (with_reducible repeat (first | refine blk_drewN ?_ _ | refine blk_drew ?_ | refine blk_alloc ?_ _)); refine blk_far ?_ NB733_745.out _; (with_reducible repeat (first | refine blk_drewN ?_ _ | refine blk_drew ?_ | refine blk_alloc ?_ _)); refine blk_far ?_ NB733_745.out _; (with_reducible repeat (first | refine blk_drewN ?_ _ | refine blk_drew ?_ | refine blk_alloc ?_ _)); refine blk_far ?_ NB733_745.out _; (with_reducible repeat (first | refine blk_drewN ?_ _ | refine blk_drew ?_ | refine blk_alloc ?_ _)); refine blk_far ?_ NB733_745.out _; (with_reducible repeat (first | refine blk_drewN ?_ _ | refine blk_drew ?_ | refine blk_alloc ?_ _)); refine blk_far ?_ NB733_745.out _; (with_reducible repeat (first | refine blk_drewN ?_ _ | refine blk_drew ?_ | refine blk_alloc ?_ _)); exact BK733.out⟩, ⟨by (with_reducible repeat (first | refine blk_drewN ?_ _ | refine blk_drew ?_ | refine blk_alloc ?_ _)); refine blk_put (cs := #[.string t736, .int .i64 t737, .slice Ao22 t738.length co22, .int .i64 t741, .int .i64 t742, .int .i64 0]) ?_ 5 _ rfl; (with_reducible repeat (first | refine blk_drewN ?_ _ | refine blk_drew ?_ | refine blk_alloc ?_ _)); refine blk_put (cs := #[.string t736, .int .i64 t737, .slice Ao22 t738.length co22, .int .i64 t741, .int .i64 0, .int .i64 0]) ?_ 4 _ rfl; (with_reducible repeat (first | refine blk_drewN ?_ _ | refine blk_drew ?_ | refine blk_alloc ?_ _)); refine blk_put (cs := #[.string t736, .int .i64 t737, .slice Ao22 t738.length co22, .int .i64 0, .int .i64 0, .int .i64 0]) ?_ 3 _ rfl; (with_reducible repeat (first | refine blk_drewN ?_ _ | refine blk_drew ?_ | refine blk_alloc ?_ _)); refine blk_put (cs := #[.string t736, .int .i64 t737, .slice none 0 0, .int .i64 0, .int .i64 0, .int .i64 0]) ?_ 2 _ rfl; (with_reducible repeat (first | refine blk_drewN ?_ _ | refine blk_drew ?_ | refine blk_alloc ?_ _)); refine blk_put (cs := #[.string t736, .int .i64 0, .slice none 0 0, .int .i64 0, .int .i64 0, .int .i64 0]) ?_ 1 _ rfl; (with_reducible repeat (first | refine blk_drewN ?_ _ | refine blk_drew ?_ | refine blk_alloc ?_ _)); refine blk_put (cs := #[.string (⟨#[]⟩ : ByteArray), .int .i64 0, .slice none 0 0, .int .i64 0, .int .i64 0, .int .i64 0]) ?_ 0 _ rfl; (with_reducible repeat (first | refine blk_drewN ?_ _ | refine blk_drew ?_ | refine blk_alloc ?_ _)); exact BK745.out⟩, ⟨by repeat (first | (with_reducible first | exact HB.out | apply below_alloc | apply pw_below_drewN | apply below_drew1 | refine below_set ?_ GE733.out | refine below_set ?_ GE745.out) | exact HB.out)⟩⟩
            · rw [if_neg c23] at H
              have c23b0 : decide (x13_1 ≤ (wrap64 (1 + t723))) = false := decide_eq_false c23
              clear c23
              (first | rw [c23b0] | (simp only [i64_w, i32_w]; rw [c23b0]) | skip)
              have H' := Aside0.mk H
              clear H
              go_wp2
              go_meet
              case rel => exact ⟨_, ((t744 != false)), (by first | rfl | (simp; done) | (simp [*]; done)), H', ⟨by have := HK1.out; first | omega | exact Nat.le_refl _⟩, ⟨by (with_reducible repeat (first | apply Kd.R_alloc | apply Kd.R_drewN | apply Kd.R_drew)); exact Kd.R_mono (Kd.R_far (p := ⟨gb745, 5, none⟩) (Kd.R_far (p := ⟨gb745, 4, none⟩) (Kd.R_far (p := ⟨gb745, 3, none⟩) (Kd.R_far (p := ⟨gb745, 2, none⟩) (Kd.R_far (p := ⟨gb745, 1, none⟩) (Kd.R_far (p := ⟨gb745, 0, none⟩) (Kd.R_types HO_734002.out BK745.out (by decide)) (fun _ hk => hk.2) (.string t736)) (fun _ hk => hk.2) (.int .i64 t737)) (fun _ hk => hk.2) (.slice Ao22 t738.length co22)) (fun _ hk => hk.2) (.int .i64 t741)) (fun _ hk => hk.2) (.int .i64 t742)) (fun _ hk => hk.2) (.int .i64 t743)) (fun _ hk => hk.1.2)⟩, ⟨by (with_reducible repeat (first | apply Kd.R_alloc | apply Kd.R_drewN | apply Kd.R_drew)); exact Kd.R_mono (Kd.R_far (p := ⟨gb745, 5, none⟩) (Kd.R_far (p := ⟨gb745, 4, none⟩) (Kd.R_far (p := ⟨gb745, 3, none⟩) (Kd.R_far (p := ⟨gb745, 2, none⟩) (Kd.R_far (p := ⟨gb745, 1, none⟩) (Kd.R_far (p := ⟨gb745, 0, none⟩) (Kd.R_types HO740.out BK745.out (by decide)) (fun _ hk => hk.2) (.string t736)) (fun _ hk => hk.2) (.int .i64 t737)) (fun _ hk => hk.2) (.slice Ao22 t738.length co22)) (fun _ hk => hk.2) (.int .i64 t741)) (fun _ hk => hk.2) (.int .i64 t742)) (fun _ hk => hk.2) (.int .i64 t743)) (fun _ hk => hk.1.2)⟩, ⟨by (with_reducible repeat (first | refine blk_drewN ?_ _ | refine blk_drew ?_ | refine blk_alloc ?_ _)); refine blk_far ?_ NB733_745.out _; (with_reducible repeat (first | refine blk_drewN ?_ _ | refine blk_drew ?_ | refine blk_alloc ?_ _)); refine blk_far ?_ NB733_745.out _; (with_reducible repeat (first | refine blk_drewN ?_ _ | refine blk_drew ?_ | refine blk_alloc ?_ _)); refine blk_far ?_ NB733_745.out _; (with_reducible repeat (first | refine blk_drewN ?_ _ | refine blk_drew ?_ | refine blk_alloc ?_ _)); refine blk_far ?_ NB733_745.out _; (with_reducible repeat (first | refine blk_drewN ?_ _ | refine blk_drew ?_ | refine blk_alloc ?_ _)); refine blk_far ?_ NB733_745.out _; (with_reducible repeat (first | refine blk_drewN ?_ _ | refine blk_drew ?_ | refine blk_alloc ?_ _)); refine blk_far ?_ NB733_745.out _; (with_reducible repeat (first | refine blk_drewN ?_ _ | refine blk_drew ?_ | refine blk_alloc ?_ _)); exact BK733.out⟩, ⟨by (with_reducible repeat (first | refine blk_drewN ?_ _ | refine blk_drew ?_ | refine blk_alloc ?_ _)); refine blk_put (cs := #[.string t736, .int .i64 t737, .slice Ao22 t738.length co22, .int .i64 t741, .int .i64 t742, .int .i64 0]) ?_ 5 _ rfl; (with_reducible repeat (first | refine blk_drewN ?_ _ | refine blk_drew ?_ | refine blk_alloc ?_ _)); refine blk_put (cs := #[.string t736, .int .i64 t737, .slice Ao22 t738.length co22, .int .i64 t741, .int .i64 0, .int .i64 0]) ?_ 4 _ rfl; (with_reducible repeat (first | refine blk_drewN ?_ _ | refine blk_drew ?_ | refine blk_alloc ?_ _)); refine blk_put (cs := #[.string t736, .int .i64 t737, .slice Ao22 t738.length co22, .int .i64 0, .int .i64 0, .int .i64 0]) ?_ 3 _ rfl; (with_reducible repeat (first | refine blk_drewN ?_ _ | refine blk_drew ?_ | refine blk_alloc ?_ _)); refine blk_put (cs := #[.string t736, .int .i64 t737, .slice none 0 0, .int .i64 0, .int .i64 0, .int .i64 0]) ?_ 2 _ rfl; (with_reducible repeat (first | refine blk_drewN ?_ _ | refine blk_drew ?_ | refine blk_alloc ?_ _)); refine blk_put (cs := #[.string t736, .int .i64 0, .slice none 0 0, .int .i64 0, .int .i64 0, .int .i64 0]) ?_ 1 _ rfl; (with_reducible repeat (first | refine blk_drewN ?_ _ | refine blk_drew ?_ | refine blk_alloc ?_ _)); refine blk_put (cs := #[.string (⟨#[]⟩ : ByteArray), .int .i64 0, .slice none 0 0, .int .i64 0, .int .i64 0, .int .i64 0]) ?_ 0 _ rfl; (with_reducible repeat (first | refine blk_drewN ?_ _ | refine blk_drew ?_ | refine blk_alloc ?_ _)); exact BK745.out⟩, ⟨by repeat (first | (with_reducible first | exact HB.out | apply below_alloc | apply pw_below_drewN | apply below_drew1 | refine below_set ?_ GE733.out | refine below_set ?_ GE745.out) | exact HB.out)⟩⟩
          case rest =>
            clear HC15
            try clear c1
            try clear c2
            try clear p2
            try clear p6
            try clear c8
            try clear c11
            try clear c13
            try clear c13b0
            try clear c18
            try clear c20
            try clear c21
            try clear c23
            try clear c23b0
            try clear c24
            try clear c24b0
            try clear c24b1
            try clear c25
            try clear c25b0
            try clear c25b1
            try clear hcz11_0
            try clear hcz11_1
            try clear hcz11_2
            try clear hcz11_3
            try clear hcz11_4
            try clear hcz11_5
            try clear hcz16_0
            try clear hcz16_1
            try clear hcz16_2
            try clear hcz16_3
            try clear hcz16_4
            try clear hcz16_5
            try clear hcz21_0
            try clear hcz21_1
            try clear hcz21_2
            try clear hcz21_3
            try clear hcz21_4
            try clear hcz21_5
            try clear hfz11_0
            try clear hfz11_1
            try clear hfz11_2
            try clear hfz11_3
            try clear hfz11_4
            try clear hfz11_5
            try clear hfz16_0
            try clear hfz16_1
            try clear hfz16_2
            try clear hfz16_3
            try clear hfz16_4
            try clear hfz16_5
            try clear hfz21_0
            try clear hfz21_1
            try clear hfz21_2
            try clear hfz21_3
            try clear hfz21_4
            try clear hfz21_5
            try clear p2
            try clear p6
            obtain ⟨kq, x61_14, rfl, HA, HJ14, HO_734002, HO_746002, BK733, BK745, HB⟩ := hcut
            cases kq with
            | zero => exact absurd HA.out (by simp [intervalmonlaw28_AlertLadder.j1])
            | succ kj14 =>
              have H := HA.out
              clear HA
              simp only [intervalmonlaw28_AlertLadder.j1] at H
              by_cases c27 : x61_14 = true
              · subst c27
                have H1 : (some false) = some r := by rw [if_pos rfl] at H; exact H
                clear H
                have H := H1
                clear H1
                obtain rfl := Option.some.inj H
                go_wp2
                go_ret
                exact ⟨by first | rfl | (simp [errW_none, errW_some] <;> rfl) | (simp [*, errW_none, errW_some] <;> rfl), by repeat (first | (with_reducible first | exact HB.out | apply below_alloc | apply pw_below_drewN | apply below_drew1 | refine below_set ?_ GE733.out | refine below_set ?_ GE745.out) | exact HB.out)⟩
              · replace c27 := Bool.eq_false_iff.mpr c27
                subst c27
                have H1 : (if t744 = true then (intervalmonlaw28_AlertLadder.j2 kj14 (wrap64 (1 + t721)) t722 (wrap64 (1 + t723)) (wrap64 (x12_1 + 1)) x13_1 t736 t737 t738 t741 t742 t743) else (intervalmonlaw28_AlertLadder.j2 kj14 (wrap64 (1 + t721)) t722 (wrap64 (1 + t723)) x12_1 x13_1 t736 t737 t738 t741 t742 t743)) = some r := by rw [if_neg (show ¬ (false = true) by decide)] at H; exact H
                clear H
                have H := H1
                clear H1
                have HC28 := Aside0.mk H
                clear H
                have hnb29 := NB745_733.out
                have hnc29 := NB733_745.out
                have hcz30_0 : wc.cell? ⟨gb745, 0, none⟩ = some (.string t736) := (blk_cell BK745.out 0).trans rfl
                have hcz30_1 : wc.cell? ⟨gb745, 1, none⟩ = some (.int .i64 t737) := (blk_cell BK745.out 1).trans rfl
                have hcz30_2 : wc.cell? ⟨gb745, 2, none⟩ = some (.slice Ao22 t738.length co22) := (blk_cell BK745.out 2).trans rfl
                have hcz30_3 : wc.cell? ⟨gb745, 3, none⟩ = some (.int .i64 t741) := (blk_cell BK745.out 3).trans rfl
                have hcz30_4 : wc.cell? ⟨gb745, 4, none⟩ = some (.int .i64 t742) := (blk_cell BK745.out 4).trans rfl
                have hcz30_5 : wc.cell? ⟨gb745, 5, none⟩ = some (.int .i64 t743) := (blk_cell BK745.out 5).trans rfl
                have hfz30_0 := blk_frozen BK745.out 0
                have hfz30_1 := blk_frozen BK745.out 1
                have hfz30_2 := blk_frozen BK745.out 2
                have hfz30_3 := blk_frozen BK745.out 3
                have hfz30_4 := blk_frozen BK745.out 4
                have hfz30_5 := blk_frozen BK745.out 5
                have hcz31_0 : wc.cell? ⟨gb733, 0, none⟩ = some (.string x734000_1) := (blk_cell BK733.out 0).trans rfl
                have hcz31_1 : wc.cell? ⟨gb733, 1, none⟩ = some (.int .i64 x734001_1) := (blk_cell BK733.out 1).trans rfl
                have hcz31_2 : wc.cell? ⟨gb733, 2, none⟩ = some (.slice Ao17 x734002_1.length co17) := (blk_cell BK733.out 2).trans rfl
                have hcz31_3 : wc.cell? ⟨gb733, 3, none⟩ = some (.int .i64 x734003_1) := (blk_cell BK733.out 3).trans rfl
                have hcz31_4 : wc.cell? ⟨gb733, 4, none⟩ = some (.int .i64 x734004_1) := (blk_cell BK733.out 4).trans rfl
                have hcz31_5 : wc.cell? ⟨gb733, 5, none⟩ = some (.int .i64 x734005_1) := (blk_cell BK733.out 5).trans rfl
                have hfz31_0 := blk_frozen BK733.out 0
                have hfz31_1 := blk_frozen BK733.out 1
                have hfz31_2 := blk_frozen BK733.out 2
                have hfz31_3 := blk_frozen BK733.out 3
                have hfz31_4 := blk_frozen BK733.out 4
                have hfz31_5 := blk_frozen BK733.out 5
                go_upto_if 63 with (fail)
                go_cut [12] (fun v12 wc => ∃ (kq : Nat) (x12_27 : Int), v12 = .int .i64 x12_27 ∧ Aside0 (intervalmonlaw28_AlertLadder.j2 kq (wrap64 (1 + t721)) t722 (wrap64 (1 + t723)) x12_27 x13_1 t736 t737 t738 t741 t742 t743 = some r) ∧ Aside0 (kq ≤ kj14) ∧ Aside0 (Kd.R k35 35 wc w.heap.size (fun _ => True) (.slice Ao22 t738.length co22) t738) ∧ Aside0 (Kd.R k35 35 wc w.heap.size (fun _ => True) (.slice Ao22 t738.length co22) t738) ∧ Aside0 (wc.heap[gb733]? = some (.cells #[.string t736, .int .i64 t737, (.slice Ao22 t738.length co22), .int .i64 t741, .int .i64 t742, .int .i64 t743] 25 (0, 0))) ∧ Aside0 (wc.heap[gb745]? = some (.cells #[.string t736, .int .i64 t737, (.slice Ao22 t738.length co22), .int .i64 t741, .int .i64 t742, .int .i64 t743] 25 (0, 0))) ∧ Aside0 (Below w.heap.size w wc))
                case first =>
                  have H := HC28.out
                  clear HC28
                  by_cases c32 : t744 = true
                  · subst c32
                    have H1 : (intervalmonlaw28_AlertLadder.j2 kj14 (wrap64 (1 + t721)) t722 (wrap64 (1 + t723)) (wrap64 (x12_1 + 1)) x13_1 t736 t737 t738 t741 t742 t743) = some r := by rw [if_pos rfl] at H; exact H
                    clear H
                    have H := H1
                    clear H1
                    have H' := Aside0.mk H
                    clear H
                    go_wp2
                    go_meet
                    case rel => exact ⟨_, (wrap64 (x12_1 + 1)), (by first | rfl | (simp; done) | (simp [*]; done)), H', ⟨by have := HK1.out; have := HJ14.out; first | omega | exact Nat.le_refl _⟩, ⟨by (with_reducible repeat (first | apply Kd.R_alloc | apply Kd.R_drewN | apply Kd.R_drew)); exact Kd.R_mono (Kd.R_far (p := ⟨gb733, 5, none⟩) (Kd.R_far (p := ⟨gb733, 4, none⟩) (Kd.R_far (p := ⟨gb733, 3, none⟩) (Kd.R_far (p := ⟨gb733, 2, none⟩) (Kd.R_far (p := ⟨gb733, 1, none⟩) (Kd.R_far (p := ⟨gb733, 0, none⟩) (Kd.R_types HO_746002.out BK733.out (by decide)) (fun _ hk => hk.2) (.string t736)) (fun _ hk => hk.2) (.int .i64 t737)) (fun _ hk => hk.2) (.slice Ao22 t738.length co22)) (fun _ hk => hk.2) (.int .i64 t741)) (fun _ hk => hk.2) (.int .i64 t742)) (fun _ hk => hk.2) (.int .i64 t743)) (fun _ hk => trivial)⟩, ⟨by (with_reducible repeat (first | apply Kd.R_alloc | apply Kd.R_drewN | apply Kd.R_drew)); exact Kd.R_mono (Kd.R_far (p := ⟨gb733, 5, none⟩) (Kd.R_far (p := ⟨gb733, 4, none⟩) (Kd.R_far (p := ⟨gb733, 3, none⟩) (Kd.R_far (p := ⟨gb733, 2, none⟩) (Kd.R_far (p := ⟨gb733, 1, none⟩) (Kd.R_far (p := ⟨gb733, 0, none⟩) (Kd.R_types HO_746002.out BK733.out (by decide)) (fun _ hk => hk.2) (.string t736)) (fun _ hk => hk.2) (.int .i64 t737)) (fun _ hk => hk.2) (.slice Ao22 t738.length co22)) (fun _ hk => hk.2) (.int .i64 t741)) (fun _ hk => hk.2) (.int .i64 t742)) (fun _ hk => hk.2) (.int .i64 t743)) (fun _ hk => trivial)⟩, ⟨by (with_reducible repeat (first | refine blk_drewN ?_ _ | refine blk_drew ?_ | refine blk_alloc ?_ _)); refine blk_put (cs := #[.string t736, .int .i64 t737, .slice Ao22 t738.length co22, .int .i64 t741, .int .i64 t742, .int .i64 x734005_1]) ?_ 5 _ rfl; (with_reducible repeat (first | refine blk_drewN ?_ _ | refine blk_drew ?_ | refine blk_alloc ?_ _)); refine blk_put (cs := #[.string t736, .int .i64 t737, .slice Ao22 t738.length co22, .int .i64 t741, .int .i64 x734004_1, .int .i64 x734005_1]) ?_ 4 _ rfl; (with_reducible repeat (first | refine blk_drewN ?_ _ | refine blk_drew ?_ | refine blk_alloc ?_ _)); refine blk_put (cs := #[.string t736, .int .i64 t737, .slice Ao22 t738.length co22, .int .i64 x734003_1, .int .i64 x734004_1, .int .i64 x734005_1]) ?_ 3 _ rfl; (with_reducible repeat (first | refine blk_drewN ?_ _ | refine blk_drew ?_ | refine blk_alloc ?_ _)); refine blk_put (cs := #[.string t736, .int .i64 t737, .slice Ao17 x734002_1.length co17, .int .i64 x734003_1, .int .i64 x734004_1, .int .i64 x734005_1]) ?_ 2 _ rfl; (with_reducible repeat (first | refine blk_drewN ?_ _ | refine blk_drew ?_ | refine blk_alloc ?_ _)); refine blk_put (cs := #[.string t736, .int .i64 x734001_1, .slice Ao17 x734002_1.length co17, .int .i64 x734003_1, .int .i64 x734004_1, .int .i64 x734005_1]) ?_ 1 _ rfl; (with_reducible repeat (first | refine blk_drewN ?_ _ | refine blk_drew ?_ | refine blk_alloc ?_ _)); refine blk_put (cs := #[.string x734000_1, .int .i64 x734001_1, .slice Ao17 x734002_1.length co17, .int .i64 x734003_1, .int .i64 x734004_1, .int .i64 x734005_1]) ?_ 0 _ rfl; (with_reducible repeat (first | refine blk_drewN ?_ _ | refine blk_drew ?_ | refine blk_alloc ?_ _)); exact BK733.out⟩, ⟨by (with_reducible repeat (first | refine blk_drewN ?_ _ | refine blk_drew ?_ | refine blk_alloc ?_ _)); refine blk_far ?_ NB745_733.out _; (with_reducible repeat (first | refine blk_drewN ?_ _ | refine blk_drew ?_ | refine blk_alloc ?_ _)); refine blk_far ?_ NB745_733.out _; (with_reducible repeat (first | refine blk_drewN ?_ _ | refine blk_drew ?_ | refine blk_alloc ?_ _)); refine blk_far ?_ NB745_733.out _; (with_reducible repeat (first | refine blk_drewN ?_ _ | refine blk_drew ?_ | refine blk_alloc ?_ _)); refine blk_far ?_ NB745_733.out _; (with_reducible repeat (first | refine blk_drewN ?_ _ | refine blk_drew ?_ | refine blk_alloc ?_ _)); refine blk_far ?_ NB745_733.out _; (with_reducible repeat (first | refine blk_drewN ?_ _ | refine blk_drew ?_ | refine blk_alloc ?_ _)); refine blk_far ?_ NB745_733.out _; (with_reducible repeat (first | refine blk_drewN ?_ _ | refine blk_drew ?_ | refine blk_alloc ?_ _)); exact BK745.out⟩, ⟨by repeat (first | (with_reducible first | exact HB.out | apply below_alloc | apply pw_below_drewN | apply below_drew1 | refine below_set ?_ GE733.out | refine below_set ?_ GE745.out) | exact HB.out)⟩⟩
                  · replace c32 := Bool.eq_false_iff.mpr c32
                    subst c32
                    have H1 : (intervalmonlaw28_AlertLadder.j2 kj14 (wrap64 (1 + t721)) t722 (wrap64 (1 + t723)) x12_1 x13_1 t736 t737 t738 t741 t742 t743) = some r := by rw [if_neg (show ¬ (false = true) by decide)] at H; exact H
                    clear H
                    have H := H1
                    clear H1
                    have H' := Aside0.mk H
                    clear H
                    go_wp2
                    go_meet
                    case rel => exact ⟨_, (x12_1), (by first | rfl | (simp; done) | (simp [*]; done)), H', ⟨by have := HK1.out; have := HJ14.out; first | omega | exact Nat.le_refl _⟩, ⟨by (with_reducible repeat (first | apply Kd.R_alloc | apply Kd.R_drewN | apply Kd.R_drew)); exact Kd.R_mono (Kd.R_far (p := ⟨gb733, 5, none⟩) (Kd.R_far (p := ⟨gb733, 4, none⟩) (Kd.R_far (p := ⟨gb733, 3, none⟩) (Kd.R_far (p := ⟨gb733, 2, none⟩) (Kd.R_far (p := ⟨gb733, 1, none⟩) (Kd.R_far (p := ⟨gb733, 0, none⟩) (Kd.R_types HO_746002.out BK733.out (by decide)) (fun _ hk => hk.2) (.string t736)) (fun _ hk => hk.2) (.int .i64 t737)) (fun _ hk => hk.2) (.slice Ao22 t738.length co22)) (fun _ hk => hk.2) (.int .i64 t741)) (fun _ hk => hk.2) (.int .i64 t742)) (fun _ hk => hk.2) (.int .i64 t743)) (fun _ hk => trivial)⟩, ⟨by (with_reducible repeat (first | apply Kd.R_alloc | apply Kd.R_drewN | apply Kd.R_drew)); exact Kd.R_mono (Kd.R_far (p := ⟨gb733, 5, none⟩) (Kd.R_far (p := ⟨gb733, 4, none⟩) (Kd.R_far (p := ⟨gb733, 3, none⟩) (Kd.R_far (p := ⟨gb733, 2, none⟩) (Kd.R_far (p := ⟨gb733, 1, none⟩) (Kd.R_far (p := ⟨gb733, 0, none⟩) (Kd.R_types HO_746002.out BK733.out (by decide)) (fun _ hk => hk.2) (.string t736)) (fun _ hk => hk.2) (.int .i64 t737)) (fun _ hk => hk.2) (.slice Ao22 t738.length co22)) (fun _ hk => hk.2) (.int .i64 t741)) (fun _ hk => hk.2) (.int .i64 t742)) (fun _ hk => hk.2) (.int .i64 t743)) (fun _ hk => trivial)⟩, ⟨by (with_reducible repeat (first | refine blk_drewN ?_ _ | refine blk_drew ?_ | refine blk_alloc ?_ _)); refine blk_put (cs := #[.string t736, .int .i64 t737, .slice Ao22 t738.length co22, .int .i64 t741, .int .i64 t742, .int .i64 x734005_1]) ?_ 5 _ rfl; (with_reducible repeat (first | refine blk_drewN ?_ _ | refine blk_drew ?_ | refine blk_alloc ?_ _)); refine blk_put (cs := #[.string t736, .int .i64 t737, .slice Ao22 t738.length co22, .int .i64 t741, .int .i64 x734004_1, .int .i64 x734005_1]) ?_ 4 _ rfl; (with_reducible repeat (first | refine blk_drewN ?_ _ | refine blk_drew ?_ | refine blk_alloc ?_ _)); refine blk_put (cs := #[.string t736, .int .i64 t737, .slice Ao22 t738.length co22, .int .i64 x734003_1, .int .i64 x734004_1, .int .i64 x734005_1]) ?_ 3 _ rfl; (with_reducible repeat (first | refine blk_drewN ?_ _ | refine blk_drew ?_ | refine blk_alloc ?_ _)); refine blk_put (cs := #[.string t736, .int .i64 t737, .slice Ao17 x734002_1.length co17, .int .i64 x734003_1, .int .i64 x734004_1, .int .i64 x734005_1]) ?_ 2 _ rfl; (with_reducible repeat (first | refine blk_drewN ?_ _ | refine blk_drew ?_ | refine blk_alloc ?_ _)); refine blk_put (cs := #[.string t736, .int .i64 x734001_1, .slice Ao17 x734002_1.length co17, .int .i64 x734003_1, .int .i64 x734004_1, .int .i64 x734005_1]) ?_ 1 _ rfl; (with_reducible repeat (first | refine blk_drewN ?_ _ | refine blk_drew ?_ | refine blk_alloc ?_ _)); refine blk_put (cs := #[.string x734000_1, .int .i64 x734001_1, .slice Ao17 x734002_1.length co17, .int .i64 x734003_1, .int .i64 x734004_1, .int .i64 x734005_1]) ?_ 0 _ rfl; (with_reducible repeat (first | refine blk_drewN ?_ _ | refine blk_drew ?_ | refine blk_alloc ?_ _)); exact BK733.out⟩, ⟨by (with_reducible repeat (first | refine blk_drewN ?_ _ | refine blk_drew ?_ | refine blk_alloc ?_ _)); refine blk_far ?_ NB745_733.out _; (with_reducible repeat (first | refine blk_drewN ?_ _ | refine blk_drew ?_ | refine blk_alloc ?_ _)); refine blk_far ?_ NB745_733.out _; (with_reducible repeat (first | refine blk_drewN ?_ _ | refine blk_drew ?_ | refine blk_alloc ?_ _)); refine blk_far ?_ NB745_733.out _; (with_reducible repeat (first | refine blk_drewN ?_ _ | refine blk_drew ?_ | refine blk_alloc ?_ _)); refine blk_far ?_ NB745_733.out _; (with_reducible repeat (first | refine blk_drewN ?_ _ | refine blk_drew ?_ | refine blk_alloc ?_ _)); refine blk_far ?_ NB745_733.out _; (with_reducible repeat (first | refine blk_drewN ?_ _ | refine blk_drew ?_ | refine blk_alloc ?_ _)); refine blk_far ?_ NB745_733.out _; (with_reducible repeat (first | refine blk_drewN ?_ _ | refine blk_drew ?_ | refine blk_alloc ?_ _)); exact BK745.out⟩, ⟨by repeat (first | (with_reducible first | exact HB.out | apply below_alloc | apply pw_below_drewN | apply below_drew1 | refine below_set ?_ GE733.out | refine below_set ?_ GE745.out) | exact HB.out)⟩⟩
                case rest =>
                  clear HC28
                  try clear c1
                  try clear c2
                  try clear p2
                  try clear c3
                  try clear p6
                  try clear c8
                  try clear c11
                  try clear c13
                  try clear c13b0
                  try clear c18
                  try clear c20
                  try clear c21
                  try clear c23
                  try clear c23b0
                  try clear c24
                  try clear c24b0
                  try clear c24b1
                  try clear c25
                  try clear c25b0
                  try clear c25b1
                  try clear c27
                  try clear c29
                  try clear c32
                  try clear hcz11_0
                  try clear hcz11_1
                  try clear hcz11_2
                  try clear hcz11_3
                  try clear hcz11_4
                  try clear hcz11_5
                  try clear hcz16_0
                  try clear hcz16_1
                  try clear hcz16_2
                  try clear hcz16_3
                  try clear hcz16_4
                  try clear hcz16_5
                  try clear hcz21_0
                  try clear hcz21_1
                  try clear hcz21_2
                  try clear hcz21_3
                  try clear hcz21_4
                  try clear hcz21_5
                  try clear hcz30_0
                  try clear hcz30_1
                  try clear hcz30_2
                  try clear hcz30_3
                  try clear hcz30_4
                  try clear hcz30_5
                  try clear hcz31_0
                  try clear hcz31_1
                  try clear hcz31_2
                  try clear hcz31_3
                  try clear hcz31_4
                  try clear hcz31_5
                  try clear hfz11_0
                  try clear hfz11_1
                  try clear hfz11_2
                  try clear hfz11_3
                  try clear hfz11_4
                  try clear hfz11_5
                  try clear hfz16_0
                  try clear hfz16_1
                  try clear hfz16_2
                  try clear hfz16_3
                  try clear hfz16_4
                  try clear hfz16_5
                  try clear hfz21_0
                  try clear hfz21_1
                  try clear hfz21_2
                  try clear hfz21_3
                  try clear hfz21_4
                  try clear hfz21_5
                  try clear hfz30_0
                  try clear hfz30_1
                  try clear hfz30_2
                  try clear hfz30_3
                  try clear hfz30_4
                  try clear hfz30_5
                  try clear hfz31_0
                  try clear hfz31_1
                  try clear hfz31_2
                  try clear hfz31_3
                  try clear hfz31_4
                  try clear hfz31_5
                  try clear p2
                  try clear p6
                  obtain ⟨kq, x12_27, rfl, HA, HJ27, HO_734002, HO_746002, BK733, BK745, HB⟩ := hcut
                  cases kq with
                  | zero => exact absurd HA.out (by simp [intervalmonlaw28_AlertLadder.j2])
                  | succ kj27 =>
                    have H := HA.out
                    clear HA
                    simp only [intervalmonlaw28_AlertLadder.j2] at H
                    by_cases c33 : x13_1 = (wrap64 (1 + t723))
                    · rw [if_pos c33] at H
                      have c33b0 : (x13_1 == (wrap64 (1 + t723))) = true := beq_iff_eq.mpr c33
                      have c33b1 : (x13_1 != (wrap64 (1 + t723))) = false := bne_eq_false_iff_eq.mpr c33
                      clear c33
                      replace H := Option.bind_eq_some_iff.mp H
                      obtain ⟨⟨t746, t747, t748, t751, t752, t753, t754⟩, A340, H⟩ := H
                      replace H : (if t754 = 0 then (intervalmonlaw28_AlertLadder.l0 kj27 (wrap64 (1 + t721)) t722 (wrap64 (1 + t723)) x12_27 (wrap64 (x13_1 + 1)) t746 t747 t748 t751 t752 t753) else (some false)) = some r := H
                      have A34 := Aside0.mk A340
                      clear A340
                      by_cases c35 : t754 = 0
                      · rw [if_pos c35] at H
                        have c35b0 : (t754 == 0) = true := beq_iff_eq.mpr c35
                        have c35b1 : (t754 != 0) = false := bne_eq_false_iff_eq.mpr c35
                        clear c35
                        have H' := Aside0.mk H
                        clear H
                        have hnb36 := NB733_745.out
                        have hnc36 := NB745_733.out
                        have hcz37_0 : wc.cell? ⟨gb733, 0, none⟩ = some (.string t736) := (blk_cell BK733.out 0).trans rfl
                        have hcz37_1 : wc.cell? ⟨gb733, 1, none⟩ = some (.int .i64 t737) := (blk_cell BK733.out 1).trans rfl
                        have hcz37_2 : wc.cell? ⟨gb733, 2, none⟩ = some (.slice Ao22 t738.length co22) := (blk_cell BK733.out 2).trans rfl
                        have hcz37_3 : wc.cell? ⟨gb733, 3, none⟩ = some (.int .i64 t741) := (blk_cell BK733.out 3).trans rfl
                        have hcz37_4 : wc.cell? ⟨gb733, 4, none⟩ = some (.int .i64 t742) := (blk_cell BK733.out 4).trans rfl
                        have hcz37_5 : wc.cell? ⟨gb733, 5, none⟩ = some (.int .i64 t743) := (blk_cell BK733.out 5).trans rfl
                        have hfz37_0 := blk_frozen BK733.out 0
                        have hfz37_1 := blk_frozen BK733.out 1
                        have hfz37_2 := blk_frozen BK733.out 2
                        have hfz37_3 := blk_frozen BK733.out 3
                        have hfz37_4 := blk_frozen BK733.out 4
                        have hfz37_5 := blk_frozen BK733.out 5
                        go_wp2_with (first | ((with_reducible refine gate_callee (f := 30) rfl ?_); refine goesL_ (some 72) rfl rfl Tryd.func30 (by kernel_rfl) rfl #[.agg #[.string t736, .int .i64 t737, .slice Ao22 t738.length co22, .int .i64 t741, .int .i64 t742, .int .i64 t743], .int .i64 x13_1] rfl (by (try simp only [List.map_toArray, List.map_cons, List.map_nil]); first | done | rfl | (simp only [List.length_drop, List.length_take]; rfl)) ?_; (with_reducible refine (alert_Ack.calls kj27 t736 t737 _ _ t738 t741 t742 t743 x13_1 t746 t747 t748 t751 t752 t753 t754 _ ?side3 ?side1 ?side2 A34.out).mono ?_); (case side1 => repeat (first | exact (Kd.R_reads' HO_734002.out).2.2 | (with_reducible refine Kd.C_alloc ?_ _) | (with_reducible refine Kd.C_drewN ?_ _) | (with_reducible refine Kd.C_drew ?_))); (case side2 => exact (Kd.R_reads' HO_734002.out).2.1); (case side3 => first | exact Allowed.below HLd.out (by repeat (first | (with_reducible first | exact HB.out | apply below_alloc | apply pw_below_drewN | apply below_drew1 | refine below_set ?_ GE733.out | refine below_set ?_ GE745.out) | exact HB.out)) | (repeat (first | exact HLd.out | apply Allowed.drewN | apply Allowed.drew | apply Allowed.alloc))); rintro e w38 ⟨v749, rfl, ho0, hb⟩; refine ⟨_, rfl, ?_⟩; have n0_ := Aside0.mk (Kd.R_elder' (by (with_reducible repeat (first | apply Kd.R_alloc | apply Kd.R_drewN | apply Kd.R_drew)); exact HO_734002.out) (Kd.R_base ho0) hb); have n1_ := Aside0.mk (Kd.R_elder' (by (with_reducible repeat (first | apply Kd.R_alloc | apply Kd.R_drewN | apply Kd.R_drew)); exact HO_746002.out) (Kd.R_base ho0) hb); have n2_ := Aside0.mk (Kd.R_lower (Kd.R_new' (Kd.R_new' ho0 (Kd.R_lt (by (with_reducible repeat (first | apply Kd.R_alloc | apply Kd.R_drewN | apply Kd.R_drew)); exact HO_734002.out))) (Kd.R_lt (by (with_reducible repeat (first | apply Kd.R_alloc | apply Kd.R_drewN | apply Kd.R_drew)); exact HO_746002.out))) (below_size (by repeat (first | (with_reducible first | exact HB.out | apply below_alloc | apply pw_below_drewN | apply below_drew1 | refine below_set ?_ GE733.out | refine below_set ?_ GE745.out) | exact HB.out)))); have n3_ := Aside0.mk (blk_below (g := gb733) (o := .cells #[.string t736, .int .i64 t737, .slice Ao22 t738.length co22, .int .i64 t741, .int .i64 t742, .int .i64 t743] 25 (0, 0)) (by (with_reducible repeat (first | refine blk_drewN ?_ _ | refine blk_drew ?_ | refine blk_alloc ?_ _)); exact BK733.out) hb); have n4_ := Aside0.mk (blk_below (g := gb745) (o := .cells #[.string t736, .int .i64 t737, .slice Ao22 t738.length co22, .int .i64 t741, .int .i64 t742, .int .i64 t743] 25 (0, 0)) (by (with_reducible repeat (first | refine blk_drewN ?_ _ | refine blk_drew ?_ | refine blk_alloc ?_ _)); exact BK745.out) hb); have n5_ := Aside0.mk (below_step (by repeat (first | (with_reducible first | exact HB.out | apply below_alloc | apply pw_below_drewN | apply below_drew1 | refine below_set ?_ GE733.out | refine below_set ?_ GE745.out) | exact HB.out)) hb); clear HO_734002; clear HO_746002; clear BK733; clear BK745; clear HB; have HO_734002 := n0_; have HO_746002 := n1_; have HO750 := n2_; have BK733 := n3_; have BK745 := n4_; have HB := n5_; clear n0_ n1_ n2_ n3_ n4_ n5_; (try clear hb); (try clear hb2); (try clear hk); (try clear hi); (try clear ho0)) | ((with_reducible refine gate_dst (N := 16) rfl ?_); (try (refine gate_guard (by rfl) ?_; dsimp only)); refine box_event ?hg (N := 16) ?hd (cs := #[.string (⟨#[]⟩ : ByteArray), .int .i64 0, .slice none 0 0, .int .i64 0, .int .i64 0, .int .i64 0]) (t := 25) ?hr ?_; (case hd => rfl); (case hg => rfl); (case hr => first | (go_simp; done) | (go_simp; rfl)); intro gb755 hg w39 hbox hb; have n0_ := Aside0.mk (Kd.R_below (by (with_reducible repeat (first | apply Kd.R_alloc | apply Kd.R_drewN | apply Kd.R_drew)); exact HO_734002.out) hb); have n1_ := Aside0.mk (Kd.R_below (by (with_reducible repeat (first | apply Kd.R_alloc | apply Kd.R_drewN | apply Kd.R_drew)); exact HO_746002.out) hb); have n2_ := Aside0.mk (Kd.R_below (by (with_reducible repeat (first | apply Kd.R_alloc | apply Kd.R_drewN | apply Kd.R_drew)); exact HO750.out) hb); have n3_ := Aside0.mk (blk_below (g := gb733) (o := .cells #[.string t736, .int .i64 t737, .slice Ao22 t738.length co22, .int .i64 t741, .int .i64 t742, .int .i64 t743] 25 (0, 0)) (by (with_reducible repeat (first | refine blk_drewN ?_ _ | refine blk_drew ?_ | refine blk_alloc ?_ _)); exact BK733.out) hb); have n4_ := Aside0.mk (blk_below (g := gb745) (o := .cells #[.string t736, .int .i64 t737, .slice Ao22 t738.length co22, .int .i64 t741, .int .i64 t742, .int .i64 t743] 25 (0, 0)) (by (with_reducible repeat (first | refine blk_drewN ?_ _ | refine blk_drew ?_ | refine blk_alloc ?_ _)); exact BK745.out) hb); have n5_ := Aside0.mk (below_step (by repeat (first | (with_reducible first | exact HB.out | apply below_alloc | apply pw_below_drewN | apply below_drew1 | refine below_set ?_ GE733.out | refine below_set ?_ GE745.out) | exact HB.out)) hb); have n6_ := Aside0.mk (hbox); have n7_ := Aside0.mk ((by rw [hg]; exact (below_size (by repeat (first | (with_reducible first | exact HB.out | apply below_alloc | apply pw_below_drewN | apply below_drew1 | refine below_set ?_ GE733.out | refine below_set ?_ GE745.out) | exact HB.out))) : w.heap.size ≤ gb755)); have n8_ := Aside0.mk ((by rw [hg]; exact (below_size (by repeat (first | (with_reducible first | exact HB.out | apply below_alloc | apply pw_below_drewN | apply below_drew1 | refine below_set ?_ GE733.out | refine below_set ?_ GE745.out) | exact HB.out))) : w.heap.size ≤ gb755)); have n9_ := Aside0.mk ((by rw [hg]; exact Nat.ne_of_lt (blk_lt (g := gb733) (o := .cells #[.string t736, .int .i64 t737, .slice Ao22 t738.length co22, .int .i64 t741, .int .i64 t742, .int .i64 t743] 25 (0, 0)) (by (with_reducible repeat (first | refine blk_drewN ?_ _ | refine blk_drew ?_ | refine blk_alloc ?_ _)); exact BK733.out)) : gb733 ≠ gb755)); have n10_ := Aside0.mk ((by rw [hg]; exact Nat.ne_of_gt (blk_lt (g := gb733) (o := .cells #[.string t736, .int .i64 t737, .slice Ao22 t738.length co22, .int .i64 t741, .int .i64 t742, .int .i64 t743] 25 (0, 0)) (by (with_reducible repeat (first | refine blk_drewN ?_ _ | refine blk_drew ?_ | refine blk_alloc ?_ _)); exact BK733.out)) : gb755 ≠ gb733)); have n11_ := Aside0.mk ((by rw [hg]; exact Nat.ne_of_lt (blk_lt (g := gb745) (o := .cells #[.string t736, .int .i64 t737, .slice Ao22 t738.length co22, .int .i64 t741, .int .i64 t742, .int .i64 t743] 25 (0, 0)) (by (with_reducible repeat (first | refine blk_drewN ?_ _ | refine blk_drew ?_ | refine blk_alloc ?_ _)); exact BK745.out)) : gb745 ≠ gb755)); have n12_ := Aside0.mk ((by rw [hg]; exact Nat.ne_of_gt (blk_lt (g := gb745) (o := .cells #[.string t736, .int .i64 t737, .slice Ao22 t738.length co22, .int .i64 t741, .int .i64 t742, .int .i64 t743] 25 (0, 0)) (by (with_reducible repeat (first | refine blk_drewN ?_ _ | refine blk_drew ?_ | refine blk_alloc ?_ _)); exact BK745.out)) : gb755 ≠ gb745)); clear HO_734002; clear HO_746002; clear HO750; clear BK733; clear BK745; clear HB; have HO_734002 := n0_; have HO_746002 := n1_; have HO750 := n2_; have BK733 := n3_; have BK745 := n4_; have HB := n5_; have BK755 := n6_; have GW755 := n7_; have GE755 := n8_; have NB733_755 := n9_; have NB755_733 := n10_; have NB745_755 := n11_; have NB755_745 := n12_; clear n0_ n1_ n2_ n3_ n4_ n5_ n6_ n7_ n8_ n9_ n10_ n11_ n12_; clear hb hbox hg; have hnb40 := NB755_733.out; have hnc40 := NB733_755.out; have hnb41 := NB755_745.out; have hnc41 := NB745_755.out; have hcz42_0 : w39.cell? ⟨gb755, 0, none⟩ = some (.string (⟨#[]⟩ : ByteArray)) := (blk_cell BK755.out 0).trans rfl; have hcz42_1 : w39.cell? ⟨gb755, 1, none⟩ = some (.int .i64 0) := (blk_cell BK755.out 1).trans rfl; have hcz42_2 : w39.cell? ⟨gb755, 2, none⟩ = some (.slice none 0 0) := (blk_cell BK755.out 2).trans rfl; have hcz42_3 : w39.cell? ⟨gb755, 3, none⟩ = some (.int .i64 0) := (blk_cell BK755.out 3).trans rfl; have hcz42_4 : w39.cell? ⟨gb755, 4, none⟩ = some (.int .i64 0) := (blk_cell BK755.out 4).trans rfl; have hcz42_5 : w39.cell? ⟨gb755, 5, none⟩ = some (.int .i64 0) := (blk_cell BK755.out 5).trans rfl; have hfz42_0 := blk_frozen BK755.out 0; have hfz42_1 := blk_frozen BK755.out 1; have hfz42_2 := blk_frozen BK755.out 2; have hfz42_3 := blk_frozen BK755.out 3; have hfz42_4 := blk_frozen BK755.out 4; have hfz42_5 := blk_frozen BK755.out 5; obtain ⟨Ao43, co43, eo43⟩ := Kd.R_slice HO750.out; subst eo43; have hcz44_0 : w39.cell? ⟨gb733, 0, none⟩ = some (.string t736) := (blk_cell BK733.out 0).trans rfl; have hcz44_1 : w39.cell? ⟨gb733, 1, none⟩ = some (.int .i64 t737) := (blk_cell BK733.out 1).trans rfl; have hcz44_2 : w39.cell? ⟨gb733, 2, none⟩ = some (.slice Ao22 t738.length co22) := (blk_cell BK733.out 2).trans rfl; have hcz44_3 : w39.cell? ⟨gb733, 3, none⟩ = some (.int .i64 t741) := (blk_cell BK733.out 3).trans rfl; have hcz44_4 : w39.cell? ⟨gb733, 4, none⟩ = some (.int .i64 t742) := (blk_cell BK733.out 4).trans rfl; have hcz44_5 : w39.cell? ⟨gb733, 5, none⟩ = some (.int .i64 t743) := (blk_cell BK733.out 5).trans rfl; have hfz44_0 := blk_frozen BK733.out 0; have hfz44_1 := blk_frozen BK733.out 1; have hfz44_2 := blk_frozen BK733.out 2; have hfz44_3 := blk_frozen BK733.out 3; have hfz44_4 := blk_frozen BK733.out 4; have hfz44_5 := blk_frozen BK733.out 5))
                        go_roundg kj27
                        case measure => have := HK1.out; have := HJ14.out; have := HJ27.out; omega
                        case rel => exact ⟨(x12_27), (wrap64 (x13_1 + 1)), (t746), (t747), (t748), (t751), (t752), (t753), (.slice Ao43 t748.length co43), (by first | rfl | (simp; done) | (simp [*]; done)), (by first | rfl | (simp; done) | (simp [*]; done)), H', ⟨by have := HK1.out; have := HJ14.out; have := HJ27.out; omega⟩, ⟨by (with_reducible repeat (first | apply Kd.R_alloc | apply Kd.R_drewN | apply Kd.R_drew)); exact Kd.R_mono (Kd.R_far (p := ⟨gb733, 5, none⟩) (Kd.R_far (p := ⟨gb733, 4, none⟩) (Kd.R_far (p := ⟨gb733, 3, none⟩) (Kd.R_far (p := ⟨gb733, 2, none⟩) (Kd.R_far (p := ⟨gb733, 1, none⟩) (Kd.R_far (p := ⟨gb733, 0, none⟩) (Kd.R_far (p := ⟨gb755, 5, none⟩) (Kd.R_far (p := ⟨gb755, 4, none⟩) (Kd.R_far (p := ⟨gb755, 3, none⟩) (Kd.R_far (p := ⟨gb755, 2, none⟩) (Kd.R_far (p := ⟨gb755, 1, none⟩) (Kd.R_far (p := ⟨gb755, 0, none⟩) (Kd.R_types (Kd.R_types HO750.out BK755.out (by decide)) BK733.out (by decide)) (fun _ hk => hk.1.2) (.string t746)) (fun _ hk => hk.1.2) (.int .i64 t747)) (fun _ hk => hk.1.2) (.slice Ao43 t748.length co43)) (fun _ hk => hk.1.2) (.int .i64 t751)) (fun _ hk => hk.1.2) (.int .i64 t752)) (fun _ hk => hk.1.2) (.int .i64 t753)) (fun _ hk => hk.2) (.string t746)) (fun _ hk => hk.2) (.int .i64 t747)) (fun _ hk => hk.2) (.slice Ao43 t748.length co43)) (fun _ hk => hk.2) (.int .i64 t751)) (fun _ hk => hk.2) (.int .i64 t752)) (fun _ hk => hk.2) (.int .i64 t753)) (fun _ hk => trivial)⟩, ⟨by (with_reducible repeat (first | refine blk_drewN ?_ _ | refine blk_drew ?_ | refine blk_alloc ?_ _)); refine blk_put (cs := #[.string t746, .int .i64 t747, .slice Ao43 t748.length co43, .int .i64 t751, .int .i64 t752, .int .i64 t743]) ?_ 5 _ rfl; (with_reducible repeat (first | refine blk_drewN ?_ _ | refine blk_drew ?_ | refine blk_alloc ?_ _)); refine blk_put (cs := #[.string t746, .int .i64 t747, .slice Ao43 t748.length co43, .int .i64 t751, .int .i64 t742, .int .i64 t743]) ?_ 4 _ rfl; (with_reducible repeat (first | refine blk_drewN ?_ _ | refine blk_drew ?_ | refine blk_alloc ?_ _)); refine blk_put (cs := #[.string t746, .int .i64 t747, .slice Ao43 t748.length co43, .int .i64 t741, .int .i64 t742, .int .i64 t743]) ?_ 3 _ rfl; (with_reducible repeat (first | refine blk_drewN ?_ _ | refine blk_drew ?_ | refine blk_alloc ?_ _)); refine blk_put (cs := #[.string t746, .int .i64 t747, .slice Ao22 t738.length co22, .int .i64 t741, .int .i64 t742, .int .i64 t743]) ?_ 2 _ rfl; (with_reducible repeat (first | refine blk_drewN ?_ _ | refine blk_drew ?_ | refine blk_alloc ?_ _)); refine blk_put (cs := #[.string t746, .int .i64 t737, .slice Ao22 t738.length co22, .int .i64 t741, .int .i64 t742, .int .i64 t743]) ?_ 1 _ rfl; (with_reducible repeat (first | refine blk_drewN ?_ _ | refine blk_drew ?_ | refine blk_alloc ?_ _)); refine blk_put (cs := #[.string t736, .int .i64 t737, .slice Ao22 t738.length co22, .int .i64 t741, .int .i64 t742, .int .i64 t743]) ?_ 0 _ rfl; (with_reducible repeat (first | refine blk_drewN ?_ _ | refine blk_drew ?_ | refine blk_alloc ?_ _)); refine blk_far ?_ NB733_755.out _; (with_reducible repeat (first | refine blk_drewN ?_ _ | refine blk_drew ?_ | refine blk_alloc ?_ _)); refine blk_far ?_ NB733_755.out _; (with_reducible repeat (first | refine blk_drewN ?_ _ | refine blk_drew ?_ | refine blk_alloc ?_ _)); refine blk_far ?_ NB733_755.out _; (with_reducible repeat (first | refine blk_drewN ?_ _ | refine blk_drew ?_ | refine blk_alloc ?_ _)); refine blk_far ?_ NB733_755.out _; (with_reducible repeat (first | refine blk_drewN ?_ _ | refine blk_drew ?_ | refine blk_alloc ?_ _)); refine blk_far ?_ NB733_755.out _; (with_reducible repeat (first | refine blk_drewN ?_ _ | refine blk_drew ?_ | refine blk_alloc ?_ _)); refine blk_far ?_ NB733_755.out _; (with_reducible repeat (first | refine blk_drewN ?_ _ | refine blk_drew ?_ | refine blk_alloc ?_ _)); exact BK733.out⟩, ⟨by repeat (first | (with_reducible first | exact HB.out | apply below_alloc | apply pw_below_drewN | apply below_drew1 | refine below_set ?_ GE733.out | refine below_set ?_ GE745.out | refine below_set ?_ GE755.out) | exact HB.out)⟩⟩
                      · rw [if_neg c35] at H
                        have c35b0 : (t754 == 0) = false := beq_eq_false_iff_ne.mpr c35
                        have c35b1 : (t754 != 0) = true := bne_iff_ne.mpr c35
                        obtain rfl := Option.some.inj H
                        have hnb45 := NB733_745.out
                        have hnc45 := NB745_733.out
                        have hcz46_0 : wc.cell? ⟨gb733, 0, none⟩ = some (.string t736) := (blk_cell BK733.out 0).trans rfl
                        have hcz46_1 : wc.cell? ⟨gb733, 1, none⟩ = some (.int .i64 t737) := (blk_cell BK733.out 1).trans rfl
                        have hcz46_2 : wc.cell? ⟨gb733, 2, none⟩ = some (.slice Ao22 t738.length co22) := (blk_cell BK733.out 2).trans rfl
                        have hcz46_3 : wc.cell? ⟨gb733, 3, none⟩ = some (.int .i64 t741) := (blk_cell BK733.out 3).trans rfl
                        have hcz46_4 : wc.cell? ⟨gb733, 4, none⟩ = some (.int .i64 t742) := (blk_cell BK733.out 4).trans rfl
                        have hcz46_5 : wc.cell? ⟨gb733, 5, none⟩ = some (.int .i64 t743) := (blk_cell BK733.out 5).trans rfl
                        have hfz46_0 := blk_frozen BK733.out 0
                        have hfz46_1 := blk_frozen BK733.out 1
                        have hfz46_2 := blk_frozen BK733.out 2
                        have hfz46_3 := blk_frozen BK733.out 3
                        have hfz46_4 := blk_frozen BK733.out 4
                        have hfz46_5 := blk_frozen BK733.out 5
                        go_wp2_with (first | ((with_reducible refine gate_callee (f := 30) rfl ?_); refine goesL_ (some 72) rfl rfl Tryd.func30 (by kernel_rfl) rfl #[.agg #[.string t736, .int .i64 t737, .slice Ao22 t738.length co22, .int .i64 t741, .int .i64 t742, .int .i64 t743], .int .i64 x13_1] rfl (by (try simp only [List.map_toArray, List.map_cons, List.map_nil]); first | done | rfl | (simp only [List.length_drop, List.length_take]; rfl)) ?_; (with_reducible refine (alert_Ack.calls kj27 t736 t737 _ _ t738 t741 t742 t743 x13_1 t746 t747 t748 t751 t752 t753 t754 _ ?side3 ?side1 ?side2 A34.out).mono ?_); (case side1 => repeat (first | exact (Kd.R_reads' HO_734002.out).2.2 | (with_reducible refine Kd.C_alloc ?_ _) | (with_reducible refine Kd.C_drewN ?_ _) | (with_reducible refine Kd.C_drew ?_))); (case side2 => exact (Kd.R_reads' HO_734002.out).2.1); (case side3 => first | exact Allowed.below HLd.out (by repeat (first | (with_reducible first | exact HB.out | apply below_alloc | apply pw_below_drewN | apply below_drew1 | refine below_set ?_ GE733.out | refine below_set ?_ GE745.out) | exact HB.out)) | (repeat (first | exact HLd.out | apply Allowed.drewN | apply Allowed.drew | apply Allowed.alloc))); rintro e w47 ⟨v749, rfl, ho0, hb⟩; refine ⟨_, rfl, ?_⟩; have n0_ := Aside0.mk (Kd.R_elder' (by (with_reducible repeat (first | apply Kd.R_alloc | apply Kd.R_drewN | apply Kd.R_drew)); exact HO_734002.out) (Kd.R_base ho0) hb); have n1_ := Aside0.mk (Kd.R_elder' (by (with_reducible repeat (first | apply Kd.R_alloc | apply Kd.R_drewN | apply Kd.R_drew)); exact HO_746002.out) (Kd.R_base ho0) hb); have n2_ := Aside0.mk (Kd.R_lower (Kd.R_new' (Kd.R_new' ho0 (Kd.R_lt (by (with_reducible repeat (first | apply Kd.R_alloc | apply Kd.R_drewN | apply Kd.R_drew)); exact HO_734002.out))) (Kd.R_lt (by (with_reducible repeat (first | apply Kd.R_alloc | apply Kd.R_drewN | apply Kd.R_drew)); exact HO_746002.out))) (below_size (by repeat (first | (with_reducible first | exact HB.out | apply below_alloc | apply pw_below_drewN | apply below_drew1 | refine below_set ?_ GE733.out | refine below_set ?_ GE745.out) | exact HB.out)))); have n3_ := Aside0.mk (blk_below (g := gb733) (o := .cells #[.string t736, .int .i64 t737, .slice Ao22 t738.length co22, .int .i64 t741, .int .i64 t742, .int .i64 t743] 25 (0, 0)) (by (with_reducible repeat (first | refine blk_drewN ?_ _ | refine blk_drew ?_ | refine blk_alloc ?_ _)); exact BK733.out) hb); have n4_ := Aside0.mk (blk_below (g := gb745) (o := .cells #[.string t736, .int .i64 t737, .slice Ao22 t738.length co22, .int .i64 t741, .int .i64 t742, .int .i64 t743] 25 (0, 0)) (by (with_reducible repeat (first | refine blk_drewN ?_ _ | refine blk_drew ?_ | refine blk_alloc ?_ _)); exact BK745.out) hb); have n5_ := Aside0.mk (below_step (by repeat (first | (with_reducible first | exact HB.out | apply below_alloc | apply pw_below_drewN | apply below_drew1 | refine below_set ?_ GE733.out | refine below_set ?_ GE745.out) | exact HB.out)) hb); clear HO_734002; clear HO_746002; clear BK733; clear BK745; clear HB; have HO_734002 := n0_; have HO_746002 := n1_; have HO750 := n2_; have BK733 := n3_; have BK745 := n4_; have HB := n5_; clear n0_ n1_ n2_ n3_ n4_ n5_; (try clear hb); (try clear hb2); (try clear hk); (try clear hi); (try clear ho0)) | ((with_reducible refine gate_dst (N := 16) rfl ?_); (try (refine gate_guard (by rfl) ?_; dsimp only)); refine box_event ?hg (N := 16) ?hd (cs := #[.string (⟨#[]⟩ : ByteArray), .int .i64 0, .slice none 0 0, .int .i64 0, .int .i64 0, .int .i64 0]) (t := 25) ?hr ?_; (case hd => rfl); (case hg => rfl); (case hr => first | (go_simp; done) | (go_simp; rfl)); intro gb755 hg w48 hbox hb; have n0_ := Aside0.mk (Kd.R_below (by (with_reducible repeat (first | apply Kd.R_alloc | apply Kd.R_drewN | apply Kd.R_drew)); exact HO_734002.out) hb); have n1_ := Aside0.mk (Kd.R_below (by (with_reducible repeat (first | apply Kd.R_alloc | apply Kd.R_drewN | apply Kd.R_drew)); exact HO_746002.out) hb); have n2_ := Aside0.mk (Kd.R_below (by (with_reducible repeat (first | apply Kd.R_alloc | apply Kd.R_drewN | apply Kd.R_drew)); exact HO750.out) hb); have n3_ := Aside0.mk (blk_below (g := gb733) (o := .cells #[.string t736, .int .i64 t737, .slice Ao22 t738.length co22, .int .i64 t741, .int .i64 t742, .int .i64 t743] 25 (0, 0)) (by (with_reducible repeat (first | refine blk_drewN ?_ _ | refine blk_drew ?_ | refine blk_alloc ?_ _)); exact BK733.out) hb); have n4_ := Aside0.mk (blk_below (g := gb745) (o := .cells #[.string t736, .int .i64 t737, .slice Ao22 t738.length co22, .int .i64 t741, .int .i64 t742, .int .i64 t743] 25 (0, 0)) (by (with_reducible repeat (first | refine blk_drewN ?_ _ | refine blk_drew ?_ | refine blk_alloc ?_ _)); exact BK745.out) hb); have n5_ := Aside0.mk (below_step (by repeat (first | (with_reducible first | exact HB.out | apply below_alloc | apply pw_below_drewN | apply below_drew1 | refine below_set ?_ GE733.out | refine below_set ?_ GE745.out) | exact HB.out)) hb); have n6_ := Aside0.mk (hbox); have n7_ := Aside0.mk ((by rw [hg]; exact (below_size (by repeat (first | (with_reducible first | exact HB.out | apply below_alloc | apply pw_below_drewN | apply below_drew1 | refine below_set ?_ GE733.out | refine below_set ?_ GE745.out) | exact HB.out))) : w.heap.size ≤ gb755)); have n8_ := Aside0.mk ((by rw [hg]; exact (below_size (by repeat (first | (with_reducible first | exact HB.out | apply below_alloc | apply pw_below_drewN | apply below_drew1 | refine below_set ?_ GE733.out | refine below_set ?_ GE745.out) | exact HB.out))) : w.heap.size ≤ gb755)); have n9_ := Aside0.mk ((by rw [hg]; exact Nat.ne_of_lt (blk_lt (g := gb733) (o := .cells #[.string t736, .int .i64 t737, .slice Ao22 t738.length co22, .int .i64 t741, .int .i64 t742, .int .i64 t743] 25 (0, 0)) (by (with_reducible repeat (first | refine blk_drewN ?_ _ | refine blk_drew ?_ | refine blk_alloc ?_ _)); exact BK733.out)) : gb733 ≠ gb755)); have n10_ := Aside0.mk ((by rw [hg]; exact Nat.ne_of_gt (blk_lt (g := gb733) (o := .cells #[.string t736, .int .i64 t737, .slice Ao22 t738.length co22, .int .i64 t741, .int .i64 t742, .int .i64 t743] 25 (0, 0)) (by (with_reducible repeat (first | refine blk_drewN ?_ _ | refine blk_drew ?_ | refine blk_alloc ?_ _)); exact BK733.out)) : gb755 ≠ gb733)); have n11_ := Aside0.mk ((by rw [hg]; exact Nat.ne_of_lt (blk_lt (g := gb745) (o := .cells #[.string t736, .int .i64 t737, .slice Ao22 t738.length co22, .int .i64 t741, .int .i64 t742, .int .i64 t743] 25 (0, 0)) (by (with_reducible repeat (first | refine blk_drewN ?_ _ | refine blk_drew ?_ | refine blk_alloc ?_ _)); exact BK745.out)) : gb745 ≠ gb755)); have n12_ := Aside0.mk ((by rw [hg]; exact Nat.ne_of_gt (blk_lt (g := gb745) (o := .cells #[.string t736, .int .i64 t737, .slice Ao22 t738.length co22, .int .i64 t741, .int .i64 t742, .int .i64 t743] 25 (0, 0)) (by (with_reducible repeat (first | refine blk_drewN ?_ _ | refine blk_drew ?_ | refine blk_alloc ?_ _)); exact BK745.out)) : gb755 ≠ gb745)); clear HO_734002; clear HO_746002; clear HO750; clear BK733; clear BK745; clear HB; have HO_734002 := n0_; have HO_746002 := n1_; have HO750 := n2_; have BK733 := n3_; have BK745 := n4_; have HB := n5_; have BK755 := n6_; have GW755 := n7_; have GE755 := n8_; have NB733_755 := n9_; have NB755_733 := n10_; have NB745_755 := n11_; have NB755_745 := n12_; clear n0_ n1_ n2_ n3_ n4_ n5_ n6_ n7_ n8_ n9_ n10_ n11_ n12_; clear hb hbox hg; have hnb49 := NB755_733.out; have hnc49 := NB733_755.out; have hnb50 := NB755_745.out; have hnc50 := NB745_755.out; have hcz51_0 : w48.cell? ⟨gb755, 0, none⟩ = some (.string (⟨#[]⟩ : ByteArray)) := (blk_cell BK755.out 0).trans rfl; have hcz51_1 : w48.cell? ⟨gb755, 1, none⟩ = some (.int .i64 0) := (blk_cell BK755.out 1).trans rfl; have hcz51_2 : w48.cell? ⟨gb755, 2, none⟩ = some (.slice none 0 0) := (blk_cell BK755.out 2).trans rfl; have hcz51_3 : w48.cell? ⟨gb755, 3, none⟩ = some (.int .i64 0) := (blk_cell BK755.out 3).trans rfl; have hcz51_4 : w48.cell? ⟨gb755, 4, none⟩ = some (.int .i64 0) := (blk_cell BK755.out 4).trans rfl; have hcz51_5 : w48.cell? ⟨gb755, 5, none⟩ = some (.int .i64 0) := (blk_cell BK755.out 5).trans rfl; have hfz51_0 := blk_frozen BK755.out 0; have hfz51_1 := blk_frozen BK755.out 1; have hfz51_2 := blk_frozen BK755.out 2; have hfz51_3 := blk_frozen BK755.out 3; have hfz51_4 := blk_frozen BK755.out 4; have hfz51_5 := blk_frozen BK755.out 5; obtain ⟨Ao52, co52, eo52⟩ := Kd.R_slice HO750.out; subst eo52))
                        go_ret
                        exact ⟨by first | rfl | (simp [errW_none, errW_some] <;> rfl) | (simp [*, errW_none, errW_some] <;> rfl), by repeat (first | (with_reducible first | exact HB.out | apply below_alloc | apply pw_below_drewN | apply below_drew1 | refine below_set ?_ GE733.out | refine below_set ?_ GE745.out | refine below_set ?_ GE755.out) | exact HB.out)⟩
                    · rw [if_neg c33] at H
                      have c33b0 : (x13_1 == (wrap64 (1 + t723))) = false := beq_eq_false_iff_ne.mpr c33
                      have c33b1 : (x13_1 != (wrap64 (1 + t723))) = true := bne_iff_ne.mpr c33
                      have H' := Aside0.mk H
                      clear H
                      go_wp2
                      go_roundg kj27
                      case measure => have := HK1.out; have := HJ14.out; have := HJ27.out; omega
                      case rel => exact ⟨(x12_27), (wrap64 (x13_1 + 1)), (t736), (t737), (t738), (t741), (t742), (t743), (.slice Ao22 t738.length co22), (by first | rfl | (simp; done) | (simp [*]; done)), (by first | rfl | (simp; done) | (simp [*]; done)), H', ⟨by have := HK1.out; have := HJ14.out; have := HJ27.out; omega⟩, ⟨by (with_reducible repeat (first | apply Kd.R_alloc | apply Kd.R_drewN | apply Kd.R_drew)); exact HO_734002.out⟩, ⟨by (with_reducible repeat (first | refine blk_drewN ?_ _ | refine blk_drew ?_ | refine blk_alloc ?_ _)); exact BK733.out⟩, ⟨by repeat (first | (with_reducible first | exact HB.out | apply below_alloc | apply pw_below_drewN | apply below_drew1 | refine below_set ?_ GE733.out | refine below_set ?_ GE745.out) | exact HB.out)⟩⟩
        · rw [if_neg c13] at H
          have c13b0 : decide (x13_1 < 100) = false := decide_eq_false c13
          clear c13
          by_cases c53 : x734005_1 = x12_1
          · rw [if_pos c53] at H
            have c53b0 : (x734005_1 == x12_1) = true := beq_iff_eq.mpr c53
            have c53b1 : (x734005_1 != x12_1) = false := bne_eq_false_iff_eq.mpr c53
            clear c53
            replace H := Option.bind_eq_some_iff.mp H
            obtain ⟨t734, A540, H⟩ := H
            replace H : (if t734 = true then ((intervalmonlaw28_lives.f).bind fun t735 => (some t735)) else (some false)) = some r := H
            have A54 := Aside0.mk A540
            clear A540
            by_cases c55 : t734 = true
            · subst c55
              have H1 : ((intervalmonlaw28_lives.f).bind fun t735 => (some t735)) = some r := by rw [if_pos rfl] at H; exact H
              clear H
              have H := H1
              clear H1
              replace H := Option.bind_eq_some_iff.mp H
              obtain ⟨t735, A560, H⟩ := H
              replace H : (some t735) = some r := H
              have A56 := Aside0.mk A560
              clear A560
              obtain rfl := Option.some.inj H
              have hcz57_0 : wr.cell? ⟨gb733, 0, none⟩ = some (.string x734000_1) := (blk_cell BK733.out 0).trans rfl
              have hcz57_1 : wr.cell? ⟨gb733, 1, none⟩ = some (.int .i64 x734001_1) := (blk_cell BK733.out 1).trans rfl
              have hcz57_2 : wr.cell? ⟨gb733, 2, none⟩ = some (u734002) := (blk_cell BK733.out 2).trans rfl
              have hcz57_3 : wr.cell? ⟨gb733, 3, none⟩ = some (.int .i64 x734003_1) := (blk_cell BK733.out 3).trans rfl
              have hcz57_4 : wr.cell? ⟨gb733, 4, none⟩ = some (.int .i64 x734004_1) := (blk_cell BK733.out 4).trans rfl
              have hcz57_5 : wr.cell? ⟨gb733, 5, none⟩ = some (.int .i64 x734005_1) := (blk_cell BK733.out 5).trans rfl
              have hfz57_0 := blk_frozen BK733.out 0
              have hfz57_1 := blk_frozen BK733.out 1
              have hfz57_2 := blk_frozen BK733.out 2
              have hfz57_3 := blk_frozen BK733.out 3
              have hfz57_4 := blk_frozen BK733.out 4
              have hfz57_5 := blk_frozen BK733.out 5
              obtain ⟨Ao58, co58, eo58⟩ := Kd.R_slice HO_734002.out
              subst eo58
              go_wp2_with (first | (go_at_call 15; (with_reducible refine (alert_Valid.calls k1 x734000_1 x734001_1 _ _ x734002_1 x734003_1 x734004_1 x734005_1 true _ ?side3 ?side1 ?side2 A54.out).mono ?_); (case side1 => repeat (first | exact (Kd.R_reads' HO_734002.out).2.2 | (with_reducible refine Kd.C_alloc ?_ _) | (with_reducible refine Kd.C_drewN ?_ _) | (with_reducible refine Kd.C_drew ?_))); (case side2 => exact (Kd.R_reads' HO_734002.out).2.1); (case side3 => first | exact Allowed.below HLd.out (by repeat (first | (with_reducible first | exact HB.out | apply below_alloc | apply pw_below_drewN | apply below_drew1 | refine below_set ?_ GE733.out) | exact HB.out)) | (repeat (first | exact HLd.out | apply Allowed.drewN | apply Allowed.drew | apply Allowed.alloc))); rintro e w59 ⟨rfl, hb⟩; have n0_ := Aside0.mk (Kd.R_below (by (with_reducible repeat (first | apply Kd.R_alloc | apply Kd.R_drewN | apply Kd.R_drew)); exact HO_734002.out) hb); have n1_ := Aside0.mk (blk_below (g := gb733) (o := .cells #[.string x734000_1, .int .i64 x734001_1, .slice Ao58 x734002_1.length co58, .int .i64 x734003_1, .int .i64 x734004_1, .int .i64 x734005_1] 25 (0, 0)) (by (with_reducible repeat (first | refine blk_drewN ?_ _ | refine blk_drew ?_ | refine blk_alloc ?_ _)); exact BK733.out) hb); have n2_ := Aside0.mk (below_step (by repeat (first | (with_reducible first | exact HB.out | apply below_alloc | apply pw_below_drewN | apply below_drew1 | refine below_set ?_ GE733.out) | exact HB.out)) hb); clear HO_734002; clear BK733; clear HB; have HO_734002 := n0_; have BK733 := n1_; have HB := n2_; clear n0_ n1_ n2_; (try clear hb); (try clear hb2); (try clear hk); (try clear hi)) | (go_at_call 17; (with_reducible refine (intervalmonlaw28_lives.calls  t735 _ ?side1 A56.out).mono ?_); (case side1 => first | exact Allowed.below HLd.out (by repeat (first | (with_reducible first | exact HB.out | apply below_alloc | apply pw_below_drewN | apply below_drew1 | refine below_set ?_ GE733.out) | exact HB.out)) | (repeat (first | exact HLd.out | apply Allowed.drewN | apply Allowed.drew | apply Allowed.alloc))); rintro e w60 ⟨rfl, hb⟩; have n0_ := Aside0.mk (Kd.R_below (by (with_reducible repeat (first | apply Kd.R_alloc | apply Kd.R_drewN | apply Kd.R_drew)); exact HO_734002.out) hb); have n1_ := Aside0.mk (blk_below (g := gb733) (o := .cells #[.string x734000_1, .int .i64 x734001_1, .slice Ao58 x734002_1.length co58, .int .i64 x734003_1, .int .i64 x734004_1, .int .i64 x734005_1] 25 (0, 0)) (by (with_reducible repeat (first | refine blk_drewN ?_ _ | refine blk_drew ?_ | refine blk_alloc ?_ _)); exact BK733.out) hb); have n2_ := Aside0.mk (below_step (by repeat (first | (with_reducible first | exact HB.out | apply below_alloc | apply pw_below_drewN | apply below_drew1 | refine below_set ?_ GE733.out) | exact HB.out)) hb); clear HO_734002; clear BK733; clear HB; have HO_734002 := n0_; have BK733 := n1_; have HB := n2_; clear n0_ n1_ n2_; (try clear hb); (try clear hb2); (try clear hk); (try clear hi)))
              go_ret
              exact ⟨by first | rfl | (simp [errW_none, errW_some] <;> rfl) | (simp [*, errW_none, errW_some] <;> rfl), by repeat (first | (with_reducible first | exact HB.out | apply below_alloc | apply pw_below_drewN | apply below_drew1 | refine below_set ?_ GE733.out) | exact HB.out)⟩
            · replace c55 := Bool.eq_false_iff.mpr c55
              subst c55
              have H1 : (some false) = some r := by rw [if_neg (show ¬ (false = true) by decide)] at H; exact H
              clear H
              have H := H1
              clear H1
              obtain rfl := Option.some.inj H
              have hcz61_0 : wr.cell? ⟨gb733, 0, none⟩ = some (.string x734000_1) := (blk_cell BK733.out 0).trans rfl
              have hcz61_1 : wr.cell? ⟨gb733, 1, none⟩ = some (.int .i64 x734001_1) := (blk_cell BK733.out 1).trans rfl
              have hcz61_2 : wr.cell? ⟨gb733, 2, none⟩ = some (u734002) := (blk_cell BK733.out 2).trans rfl
              have hcz61_3 : wr.cell? ⟨gb733, 3, none⟩ = some (.int .i64 x734003_1) := (blk_cell BK733.out 3).trans rfl
              have hcz61_4 : wr.cell? ⟨gb733, 4, none⟩ = some (.int .i64 x734004_1) := (blk_cell BK733.out 4).trans rfl
              have hcz61_5 : wr.cell? ⟨gb733, 5, none⟩ = some (.int .i64 x734005_1) := (blk_cell BK733.out 5).trans rfl
              have hfz61_0 := blk_frozen BK733.out 0
              have hfz61_1 := blk_frozen BK733.out 1
              have hfz61_2 := blk_frozen BK733.out 2
              have hfz61_3 := blk_frozen BK733.out 3
              have hfz61_4 := blk_frozen BK733.out 4
              have hfz61_5 := blk_frozen BK733.out 5
              obtain ⟨Ao62, co62, eo62⟩ := Kd.R_slice HO_734002.out
              subst eo62
              go_wp2_with (first | (go_at_call 15; (with_reducible refine (alert_Valid.calls k1 x734000_1 x734001_1 _ _ x734002_1 x734003_1 x734004_1 x734005_1 false _ ?side3 ?side1 ?side2 A54.out).mono ?_); (case side1 => repeat (first | exact (Kd.R_reads' HO_734002.out).2.2 | (with_reducible refine Kd.C_alloc ?_ _) | (with_reducible refine Kd.C_drewN ?_ _) | (with_reducible refine Kd.C_drew ?_))); (case side2 => exact (Kd.R_reads' HO_734002.out).2.1); (case side3 => first | exact Allowed.below HLd.out (by repeat (first | (with_reducible first | exact HB.out | apply below_alloc | apply pw_below_drewN | apply below_drew1 | refine below_set ?_ GE733.out) | exact HB.out)) | (repeat (first | exact HLd.out | apply Allowed.drewN | apply Allowed.drew | apply Allowed.alloc))); rintro e w63 ⟨rfl, hb⟩; have n0_ := Aside0.mk (Kd.R_below (by (with_reducible repeat (first | apply Kd.R_alloc | apply Kd.R_drewN | apply Kd.R_drew)); exact HO_734002.out) hb); have n1_ := Aside0.mk (blk_below (g := gb733) (o := .cells #[.string x734000_1, .int .i64 x734001_1, .slice Ao62 x734002_1.length co62, .int .i64 x734003_1, .int .i64 x734004_1, .int .i64 x734005_1] 25 (0, 0)) (by (with_reducible repeat (first | refine blk_drewN ?_ _ | refine blk_drew ?_ | refine blk_alloc ?_ _)); exact BK733.out) hb); have n2_ := Aside0.mk (below_step (by repeat (first | (with_reducible first | exact HB.out | apply below_alloc | apply pw_below_drewN | apply below_drew1 | refine below_set ?_ GE733.out) | exact HB.out)) hb); clear HO_734002; clear BK733; clear HB; have HO_734002 := n0_; have BK733 := n1_; have HB := n2_; clear n0_ n1_ n2_; (try clear hb); (try clear hb2); (try clear hk); (try clear hi)))
              go_ret
              exact ⟨by first | rfl | (simp [errW_none, errW_some] <;> rfl) | (simp [*, errW_none, errW_some] <;> rfl), by repeat (first | (with_reducible first | exact HB.out | apply below_alloc | apply pw_below_drewN | apply below_drew1 | refine below_set ?_ GE733.out) | exact HB.out)⟩
          · rw [if_neg c53] at H
            have c53b0 : (x734005_1 == x12_1) = false := beq_eq_false_iff_ne.mpr c53
            have c53b1 : (x734005_1 != x12_1) = true := bne_iff_ne.mpr c53
            obtain rfl := Option.some.inj H
            have hcz64_0 : wr.cell? ⟨gb733, 0, none⟩ = some (.string x734000_1) := (blk_cell BK733.out 0).trans rfl
            have hcz64_1 : wr.cell? ⟨gb733, 1, none⟩ = some (.int .i64 x734001_1) := (blk_cell BK733.out 1).trans rfl
            have hcz64_2 : wr.cell? ⟨gb733, 2, none⟩ = some (u734002) := (blk_cell BK733.out 2).trans rfl
            have hcz64_3 : wr.cell? ⟨gb733, 3, none⟩ = some (.int .i64 x734003_1) := (blk_cell BK733.out 3).trans rfl
            have hcz64_4 : wr.cell? ⟨gb733, 4, none⟩ = some (.int .i64 x734004_1) := (blk_cell BK733.out 4).trans rfl
            have hcz64_5 : wr.cell? ⟨gb733, 5, none⟩ = some (.int .i64 x734005_1) := (blk_cell BK733.out 5).trans rfl
            have hfz64_0 := blk_frozen BK733.out 0
            have hfz64_1 := blk_frozen BK733.out 1
            have hfz64_2 := blk_frozen BK733.out 2
            have hfz64_3 := blk_frozen BK733.out 3
            have hfz64_4 := blk_frozen BK733.out 4
            have hfz64_5 := blk_frozen BK733.out 5
            go_wp2
            go_ret
            exact ⟨by first | rfl | (simp [errW_none, errW_some] <;> rfl) | (simp [*, errW_none, errW_some] <;> rfl), by repeat (first | (with_reducible first | exact HB.out | apply below_alloc | apply pw_below_drewN | apply below_drew1 | refine below_set ?_ GE733.out) | exact HB.out)⟩
  · replace c8 := Bool.eq_false_iff.mpr c8
    subst c8
    have H1 : (some false) = some r := by rw [if_neg (show ¬ (false = true) by decide)] at H; exact H
    clear H
    have H := H1
    clear H1
    obtain rfl := Option.some.inj H
    go_enter Tryd.func11, Tryd.ntmps11
    go_wp2_with (first | ((with_reducible refine gate_callee (f := 27) rfl ?_); refine goesL_ (some 19) rfl rfl Tryd.func27 (by kernel_rfl) rfl #[.int .i64 a0, .int .i64 5] rfl (by (try simp only [List.map_toArray, List.map_cons, List.map_nil]); first | done | rfl | (simp only [List.length_drop, List.length_take]; rfl)) ?_; (with_reducible refine (intervalmonref01_Around.calls a0 5 t721 _ A4.out).mono ?_); rintro e w' ⟨rfl, ⟨nd, rfl⟩⟩; refine ⟨_, rfl, ?_⟩) | ((with_reducible refine gate_callee (f := 27) rfl ?_); refine goesL_ (some 22) rfl rfl Tryd.func27 (by kernel_rfl) rfl #[.int .i64 a1, .int .i64 21] rfl (by (try simp only [List.map_toArray, List.map_cons, List.map_nil]); first | done | rfl | (simp only [List.length_drop, List.length_take]; rfl)) ?_; (with_reducible refine (intervalmonref01_Around.calls a1 21 t722 _ A5.out).mono ?_); rintro e w' ⟨rfl, ⟨nd, rfl⟩⟩; refine ⟨_, rfl, ?_⟩) | ((with_reducible refine gate_callee (f := 27) rfl ?_); refine goesL_ (some 24) rfl rfl Tryd.func27 (by kernel_rfl) rfl #[.int .i64 a2, .int .i64 150] rfl (by (try simp only [List.map_toArray, List.map_cons, List.map_nil]); first | done | rfl | (simp only [List.length_drop, List.length_take]; rfl)) ?_; (with_reducible refine (intervalmonref01_Around.calls a2 150 t723 _ A6.out).mono ?_); rintro e w' ⟨rfl, ⟨nd, rfl⟩⟩; refine ⟨_, rfl, ?_⟩) | ((with_reducible refine gate_callee (f := 18) rfl ?_); refine goesL_ (some 28) rfl rfl Tryd.func18 (by kernel_rfl) rfl #[.agg #[.string (⟨#[104, 111, 116]⟩ : ByteArray), .int .i64 1, .slice none 0 0, .int .i64 0, .int .i64 0, .int .i64 0], .int .i64 2, .int .i64 0] rfl (by (try simp only [List.map_toArray, List.map_cons, List.map_nil]); first | done | rfl | (simp only [List.length_drop, List.length_take]; rfl)) ?_; (refine (alert_Step.calls k (⟨#[104, 111, 116]⟩ : ByteArray) 1 _ _ ([] : List (S35)) 0 0 0 2 0 t724 t725 t726 t729 t730 t731 false _ ?side3 ?side1 ?side2 A7.out).mono ?_); (case side1 => exact Kd.C_nil _ _); (case side2 => exact Nat.le_refl _); (case side3 => first | exact Allowed.below HLd.out (by repeat (first | (with_reducible first | exact HB.out | apply below_alloc | apply pw_below_drewN | apply below_drew1) | exact HB.out)) | (repeat (first | exact HLd.out | apply Allowed.drewN | apply Allowed.drew | apply Allowed.alloc))); rintro e w65 ⟨v727, rfl, ho0, hb⟩; refine ⟨_, rfl, ?_⟩; have n0_ := Aside0.mk (Kd.R_lower ho0 (below_size (by repeat (first | (with_reducible first | exact HB.out | apply below_alloc | apply pw_below_drewN | apply below_drew1) | exact HB.out)))); have n1_ := Aside0.mk (below_step (by repeat (first | (with_reducible first | exact HB.out | apply below_alloc | apply pw_below_drewN | apply below_drew1) | exact HB.out)) hb); clear HB; have HO728 := n0_; have HB := n1_; clear n0_ n1_; (try clear hb); (try clear hb2); (try clear hk); (try clear hi); (try clear ho0)) | ((with_reducible refine gate_dst (N := 10) rfl ?_); (try (refine gate_guard (by rfl) ?_; dsimp only)); refine box_event ?hg (N := 10) ?hd (cs := #[.string (⟨#[]⟩ : ByteArray), .int .i64 0, .slice none 0 0, .int .i64 0, .int .i64 0, .int .i64 0]) (t := 25) ?hr ?_; (case hd => rfl); (case hg => rfl); (case hr => first | (go_simp; done) | (go_simp; rfl)); intro gb733 hg w66 hbox hb; have n0_ := Aside0.mk (Kd.R_below (by (with_reducible repeat (first | apply Kd.R_alloc | apply Kd.R_drewN | apply Kd.R_drew)); exact HO728.out) hb); have n1_ := Aside0.mk (below_step (by repeat (first | (with_reducible first | exact HB.out | apply below_alloc | apply pw_below_drewN | apply below_drew1) | exact HB.out)) hb); have n2_ := Aside0.mk (hbox); have n3_ := Aside0.mk ((by rw [hg]; exact (below_size (by repeat (first | (with_reducible first | exact HB.out | apply below_alloc | apply pw_below_drewN | apply below_drew1) | exact HB.out))) : w.heap.size ≤ gb733)); have n4_ := Aside0.mk ((by rw [hg]; exact (below_size (by repeat (first | (with_reducible first | exact HB.out | apply below_alloc | apply pw_below_drewN | apply below_drew1) | exact HB.out))) : w.heap.size ≤ gb733)); clear HO728; clear HB; have HO728 := n0_; have HB := n1_; have BK733 := n2_; have GW733 := n3_; have GE733 := n4_; clear n0_ n1_ n2_ n3_ n4_; clear hb hbox hg; have hcz67_0 : w66.cell? ⟨gb733, 0, none⟩ = some (.string (⟨#[]⟩ : ByteArray)) := (blk_cell BK733.out 0).trans rfl; have hcz67_1 : w66.cell? ⟨gb733, 1, none⟩ = some (.int .i64 0) := (blk_cell BK733.out 1).trans rfl; have hcz67_2 : w66.cell? ⟨gb733, 2, none⟩ = some (.slice none 0 0) := (blk_cell BK733.out 2).trans rfl; have hcz67_3 : w66.cell? ⟨gb733, 3, none⟩ = some (.int .i64 0) := (blk_cell BK733.out 3).trans rfl; have hcz67_4 : w66.cell? ⟨gb733, 4, none⟩ = some (.int .i64 0) := (blk_cell BK733.out 4).trans rfl; have hcz67_5 : w66.cell? ⟨gb733, 5, none⟩ = some (.int .i64 0) := (blk_cell BK733.out 5).trans rfl; have hfz67_0 := blk_frozen BK733.out 0; have hfz67_1 := blk_frozen BK733.out 1; have hfz67_2 := blk_frozen BK733.out 2; have hfz67_3 := blk_frozen BK733.out 3; have hfz67_4 := blk_frozen BK733.out 4; have hfz67_5 := blk_frozen BK733.out 5; obtain ⟨Ao68, co68, eo68⟩ := Kd.R_slice HO728.out; subst eo68))
    go_ret
    exact ⟨by first | rfl | (simp [errW_none, errW_some] <;> rfl) | (simp [*, errW_none, errW_some] <;> rfl), by repeat (first | (with_reducible first | exact HB.out | apply below_alloc | apply pw_below_drewN | apply below_drew1 | refine below_set ?_ GE733.out) | exact HB.out)⟩

/-- THE ONE PURE STATEMENT of intervalmonlaw28_AlertLadder: yours. -/
def intervalmonlaw28_AlertLadder.Pure : Prop := ∀ (a0 : Int) (a1 : Int) (a2 : Int), (Lit.int .i64 a0).wf = true → (Lit.int .i64 a1).wf = true → (Lit.int .i64 a2).wf = true → ∃ k, intervalmonlaw28_AlertLadder.f k a0 a1 a2 = some true
theorem intervalmonlaw28_AlertLadder.walk (P : intervalmonlaw28_AlertLadder.Pure) (a0 : Int) (a1 : Int) (a2 : Int) (w : World) (hLd : Allowed w) (w0 : (Lit.int .i64 a0).wf = true) (w1 : (Lit.int .i64 a1).wf = true) (w2 : (Lit.int .i64 a2).wf = true) :
    Calls Tryd.prog 11 #[.int .i64 a0, .int .i64 a1, .int .i64 a2] w fun e w' => e = .returned (.bool true) ∧ Below w.heap.size w w' := by
  obtain ⟨k, h⟩ := P a0 a1 a2 w0 w1 w2
  refine (intervalmonlaw28_AlertLadder.calls k a0 a1 a2 true w hLd h).mono ?_
  rintro e w' ⟨rfl, hd⟩
  exact ⟨rfl, hd⟩

end Go.Proofs.YtbbddeilbcpmiaaDoor.Q
