/- alert.Valid: what it computes, and that the code computes it, where the table holds what the program's text lays. -/
import Derived.Test.YtbbddeilbcpmiaaDoorQ0
import Derived.Test.YtbbddeilbcpmiaaDoorMLab
import Derived.Test.YtbbddeilbcpmiaaDoorQ3
import Derived.Outline
namespace Go.Proofs.YtbbddeilbcpmiaaDoor.Q
open Go.RowKit Go.Proofs.YtbbddeilbcpmiaaDoorW.PrintWords Go.Proofs.YtbbddeilbcpmiaaDoorW.PrintLast Go.Proofs.YtbbddeilbcpmiaaDoorW.PrintMore
set_option linter.unusedVariables false
set_option linter.unusedSimpArgs false
def alert_Valid.lo (s : Int) : Int := tabAllowed.getD (2 * s.toNat) 0
def alert_Valid.hi (s : Int) : Int := tabAllowed.getD (2 * s.toNat + 1) 0
def alert_Valid.tail (s since level : Int) : Bool := if since < 0 then false else if 1048576 < since then false else if level < alert_Valid.lo s then false else decide (level ≤ alert_Valid.hi s)
def alert_Valid.f (k : Nat) (a0_0 : ByteArray) (a0_1 : Int) (l0_2 : List S35) (a0_3 a0_4 a0_5 : Int) : Option Bool :=
  if nameB a0_0 = true then (if a0_1 < 1 then some false else (labels_Valid.f k l0_2).bind fun t2 => if t2 = true then (if a0_3 < 0 then some false else if 4 < a0_3 then some false else some (alert_Valid.tail a0_3 a0_4 a0_5)) else some false) else some false
set_option maxHeartbeats 8000000 in
set_option maxRecDepth 100000 in
theorem alert_Valid.calls (k : Nat) (a0_0 : ByteArray) (a0_1 : Int) (A0_2 : Option Addr) (c0_2 : Nat) (l0_2 : List S35) (a0_3 : Int) (a0_4 : Int) (a0_5 : Int) (r : Bool) (w : World) (hLd : Allowed w) (hr0_2 : Kd.C k35 w A0_2 l0_2.length l0_2) (hc0_2 : l0_2.length ≤ c0_2) (h : alert_Valid.f k a0_0 a0_1 l0_2 a0_3 a0_4 a0_5 = some r) :
    Calls Tryd.prog 15 #[.agg #[.string a0_0, .int .i64 a0_1, .slice A0_2 l0_2.length c0_2, .int .i64 a0_3, .int .i64 a0_4, .int .i64 a0_5]] w fun e w' => e = .returned (.bool r) ∧ Below w.heap.size w w' := by
  have hu25 := Tryd.underlying25
  have HR := Aside0.mk hr0_2
  have HC := Aside0.mk hc0_2
  have HL := Aside0.mk hLd
  clear hr0_2 hc0_2 hLd
  have C1 := fun (t : Bool) (ht : nameB a0_0 = t) (W : World) => labels_Name.calls a0_0 t W (by unfold labels_Name.f; rw [ht])
  have HA0 := Aside0.mk (below_alloc (Below.refl w.heap.size w) (.cells #[.string a0_0, .int .i64 a0_1, .slice A0_2 l0_2.length c0_2, .int .i64 a0_3, .int .i64 a0_4, .int .i64 a0_5] 25))
  have HB1 : ∀ {w1 : World}, Below (w.alloc (.cells #[.string a0_0, .int .i64 a0_1, .slice A0_2 l0_2.length c0_2, .int .i64 a0_3, .int .i64 a0_4, .int .i64 a0_5] 25)).heap.size (w.alloc (.cells #[.string a0_0, .int .i64 a0_1, .slice A0_2 l0_2.length c0_2, .int .i64 a0_3, .int .i64 a0_4, .int .i64 a0_5] 25)) w1 → Below w.heap.size w w1 := fun hb => below_then HA0.out HA0.out.size hb
  have HK1 : ∀ {w1 : World}, Below (w.alloc (.cells #[.string a0_0, .int .i64 a0_1, .slice A0_2 l0_2.length c0_2, .int .i64 a0_3, .int .i64 a0_4, .int .i64 a0_5] 25)).heap.size (w.alloc (.cells #[.string a0_0, .int .i64 a0_1, .slice A0_2 l0_2.length c0_2, .int .i64 a0_3, .int .i64 a0_4, .int .i64 a0_5] 25)) w1 → w1.heap[w.heap.size]? = some (.cells #[.string a0_0, .int .i64 a0_1, .slice A0_2 l0_2.length c0_2, .int .i64 a0_3, .int .i64 a0_4, .int .i64 a0_5] 25 (0, 0)) := fun hb => blk_below (blk_new _ _) hb
  have HB1 := Aside0.mk @HB1
  have HK1 := Aside0.mk @HK1
  unfold alert_Valid.f at h
  by_cases h1 : nameB a0_0 = true
  · rw [if_pos h1] at h
    have C1 := C1 true h1
    clear h1
    by_cases h2 : a0_1 < 1
    · rw [if_pos h2] at h
      obtain rfl := Option.some.inj h
      have h2b : decide (a0_1 < 1) = true := decide_eq_true h2
      clear h h2
      go_enter Tryd.func15, Tryd.ntmps15
      go_wp2_with (go_at_call 44; refine (C1 _).mono ?_; rintro e w1 ⟨rfl, hb⟩; have HB2 := Aside0.mk (HB1.out hb); have HK2 := Aside0.mk (HK1.out hb); have z1 := (blk_cell HK2.out 1).trans rfl; have z2 := (blk_cell HK2.out 2).trans rfl; clear hb)
      go_ret
      exact ⟨rfl, HB2.out⟩
    · rw [if_neg h2] at h
      have h2b : decide (a0_1 < 1) = false := decide_eq_false h2
      clear h2
      obtain ⟨t2, A2, h⟩ := Option.bind_eq_some_iff.mp h
      have C2 := fun W h' => labels_Valid.calls k A0_2 c0_2 l0_2 t2 W h' HC.out A2
      clear A2
      by_cases h3 : t2 = true
      · subst h3
        rw [if_pos rfl] at h
        by_cases h4 : a0_3 < 0
        · rw [if_pos h4] at h
          obtain rfl := Option.some.inj h
          have h4b : decide (a0_3 < 0) = true := decide_eq_true h4
          clear h h4
          go_enter Tryd.func15, Tryd.ntmps15
          go_wp2_with (first | (go_at_call 44; refine (C1 _).mono ?_; rintro e w1 ⟨rfl, hb⟩; have HB2 := Aside0.mk (HB1.out hb); have HK2 := Aside0.mk (HK1.out hb); have z1 := (blk_cell HK2.out 1).trans rfl; have z2 := (blk_cell HK2.out 2).trans rfl; clear hb) | (go_at_call 45; refine (C2 _ (Kd.C_below HR.out HB2.out)).mono ?_; rintro e w2 ⟨rfl, hb⟩; have HB3 := Aside0.mk (below_then HB2.out HB2.out.size hb); have HK3 := Aside0.mk (blk_below HK2.out hb); clear z1 z2; have z3 := (blk_cell HK3.out 3).trans rfl; have z4 := (blk_cell HK3.out 4).trans rfl; have z5 := (blk_cell HK3.out 5).trans rfl; clear hb))
          go_ret
          exact ⟨rfl, HB3.out⟩
        rw [if_neg h4] at h
        have h4b : decide (a0_3 < 0) = false := decide_eq_false h4
        by_cases h5 : 4 < a0_3
        · rw [if_pos h5] at h
          obtain rfl := Option.some.inj h
          have h5b : decide (4 < a0_3) = true := decide_eq_true h5
          clear h h4 h5
          go_enter Tryd.func15, Tryd.ntmps15
          go_wp2_with (first | (go_at_call 44; refine (C1 _).mono ?_; rintro e w1 ⟨rfl, hb⟩; have HB2 := Aside0.mk (HB1.out hb); have HK2 := Aside0.mk (HK1.out hb); have z1 := (blk_cell HK2.out 1).trans rfl; have z2 := (blk_cell HK2.out 2).trans rfl; clear hb) | (go_at_call 45; refine (C2 _ (Kd.C_below HR.out HB2.out)).mono ?_; rintro e w2 ⟨rfl, hb⟩; have HB3 := Aside0.mk (below_then HB2.out HB2.out.size hb); have HK3 := Aside0.mk (blk_below HK2.out hb); clear z1 z2; have z3 := (blk_cell HK3.out 3).trans rfl; have z4 := (blk_cell HK3.out 4).trans rfl; have z5 := (blk_cell HK3.out 5).trans rfl; clear hb))
          go_ret
          exact ⟨rfl, HB3.out⟩
        rw [if_neg h5] at h
        have h5b : decide (4 < a0_3) = false := decide_eq_false h5
        have hs : a0_3 = 0 ∨ a0_3 = 1 ∨ a0_3 = 2 ∨ a0_3 = 3 ∨ a0_3 = 4 := by omega
        clear h4 h5 h4b h5b
        have HT := Aside0.mk h
        clear h
        rcases hs with rfl | rfl | rfl | rfl | rfl
        · have HT1 : alert_Valid.tail 0 a0_4 a0_5 = r := Option.some.inj HT.out
          unfold alert_Valid.tail at HT1
          by_cases d1 : a0_4 < 0
          · rw [if_pos d1] at HT1
            subst HT1
            have d1b : decide (0 ≤ a0_4) = false := decide_eq_false (by omega)
            clear d1 HT
            go_enter Tryd.func15, Tryd.ntmps15
            go_wp2_with (first | (go_at_call 44; refine (C1 _).mono ?_; rintro e w1 ⟨rfl, hb⟩; have HB2 := Aside0.mk (HB1.out hb); have HK2 := Aside0.mk (HK1.out hb); have z1 := (blk_cell HK2.out 1).trans rfl; have z2 := (blk_cell HK2.out 2).trans rfl; clear hb) | (go_at_call 45; refine (C2 _ (Kd.C_below HR.out HB2.out)).mono ?_; rintro e w2 ⟨rfl, hb⟩; have HB3 := Aside0.mk (below_then HB2.out HB2.out.size hb); have HK3 := Aside0.mk (blk_below HK2.out hb); clear z1 z2; have z3 := (blk_cell HK3.out 3).trans rfl; have z4 := (blk_cell HK3.out 4).trans rfl; have z5 := (blk_cell HK3.out 5).trans rfl; have gA : w2.cell? ⟨0, 0, none⟩ = some (.int .i64 0) := (HL.out.below HB3.out).cell 0 (by decide); have gB : w2.cell? ⟨0, 1, none⟩ = some (.int .i64 0) := (HL.out.below HB3.out).cell 1 (by decide); clear hb))
            go_quiet (fail)
            go_wp2
            go_ret
            exact ⟨rfl, pw_below_drewN HB3.out _⟩
          rw [if_neg d1] at HT1
          have d1b : decide (0 ≤ a0_4) = true := decide_eq_true (by omega)
          by_cases d2 : 1048576 < a0_4
          · rw [if_pos d2] at HT1
            subst HT1
            have d2b : decide (a0_4 ≤ 1048576) = false := decide_eq_false (by omega)
            clear d1 d2 HT
            go_enter Tryd.func15, Tryd.ntmps15
            go_wp2_with (first | (go_at_call 44; refine (C1 _).mono ?_; rintro e w1 ⟨rfl, hb⟩; have HB2 := Aside0.mk (HB1.out hb); have HK2 := Aside0.mk (HK1.out hb); have z1 := (blk_cell HK2.out 1).trans rfl; have z2 := (blk_cell HK2.out 2).trans rfl; clear hb) | (go_at_call 45; refine (C2 _ (Kd.C_below HR.out HB2.out)).mono ?_; rintro e w2 ⟨rfl, hb⟩; have HB3 := Aside0.mk (below_then HB2.out HB2.out.size hb); have HK3 := Aside0.mk (blk_below HK2.out hb); clear z1 z2; have z3 := (blk_cell HK3.out 3).trans rfl; have z4 := (blk_cell HK3.out 4).trans rfl; have z5 := (blk_cell HK3.out 5).trans rfl; have gA : w2.cell? ⟨0, 0, none⟩ = some (.int .i64 0) := (HL.out.below HB3.out).cell 0 (by decide); have gB : w2.cell? ⟨0, 1, none⟩ = some (.int .i64 0) := (HL.out.below HB3.out).cell 1 (by decide); clear hb))
            go_quiet (fail)
            go_wp2
            go_ret
            exact ⟨rfl, pw_below_drewN HB3.out _⟩
          rw [if_neg d2] at HT1
          have d2b : decide (a0_4 ≤ 1048576) = true := decide_eq_true (by omega)
          by_cases d3 : a0_5 < 0
          · rw [if_pos (show a0_5 < alert_Valid.lo 0 from d3)] at HT1
            subst HT1
            have d3b : decide (0 ≤ a0_5) = false := decide_eq_false (by omega)
            clear d1 d2 d3 HT
            go_enter Tryd.func15, Tryd.ntmps15
            go_wp2_with (first | (go_at_call 44; refine (C1 _).mono ?_; rintro e w1 ⟨rfl, hb⟩; have HB2 := Aside0.mk (HB1.out hb); have HK2 := Aside0.mk (HK1.out hb); have z1 := (blk_cell HK2.out 1).trans rfl; have z2 := (blk_cell HK2.out 2).trans rfl; clear hb) | (go_at_call 45; refine (C2 _ (Kd.C_below HR.out HB2.out)).mono ?_; rintro e w2 ⟨rfl, hb⟩; have HB3 := Aside0.mk (below_then HB2.out HB2.out.size hb); have HK3 := Aside0.mk (blk_below HK2.out hb); clear z1 z2; have z3 := (blk_cell HK3.out 3).trans rfl; have z4 := (blk_cell HK3.out 4).trans rfl; have z5 := (blk_cell HK3.out 5).trans rfl; have gA : w2.cell? ⟨0, 0, none⟩ = some (.int .i64 0) := (HL.out.below HB3.out).cell 0 (by decide); have gB : w2.cell? ⟨0, 1, none⟩ = some (.int .i64 0) := (HL.out.below HB3.out).cell 1 (by decide); clear hb))
            go_quiet (fail)
            go_wp2
            go_ret
            exact ⟨rfl, pw_below_drewN HB3.out _⟩
          · rw [if_neg (show ¬ a0_5 < alert_Valid.lo 0 from d3)] at HT1
            have HT2 : decide (a0_5 ≤ 0) = r := HT1
            subst HT2
            have d3b : decide (0 ≤ a0_5) = true := decide_eq_true (by omega)
            clear d1 d2 d3 HT HT1
            go_enter Tryd.func15, Tryd.ntmps15
            go_wp2_with (first | (go_at_call 44; refine (C1 _).mono ?_; rintro e w1 ⟨rfl, hb⟩; have HB2 := Aside0.mk (HB1.out hb); have HK2 := Aside0.mk (HK1.out hb); have z1 := (blk_cell HK2.out 1).trans rfl; have z2 := (blk_cell HK2.out 2).trans rfl; clear hb) | (go_at_call 45; refine (C2 _ (Kd.C_below HR.out HB2.out)).mono ?_; rintro e w2 ⟨rfl, hb⟩; have HB3 := Aside0.mk (below_then HB2.out HB2.out.size hb); have HK3 := Aside0.mk (blk_below HK2.out hb); clear z1 z2; have z3 := (blk_cell HK3.out 3).trans rfl; have z4 := (blk_cell HK3.out 4).trans rfl; have z5 := (blk_cell HK3.out 5).trans rfl; have gA : w2.cell? ⟨0, 0, none⟩ = some (.int .i64 0) := (HL.out.below HB3.out).cell 0 (by decide); have gB : w2.cell? ⟨0, 1, none⟩ = some (.int .i64 0) := (HL.out.below HB3.out).cell 1 (by decide); clear hb))
            go_quiet (fail)
            go_wp2
            go_ret
            exact ⟨rfl, pw_below_drewN HB3.out _⟩
        · have HT1 : alert_Valid.tail 1 a0_4 a0_5 = r := Option.some.inj HT.out
          unfold alert_Valid.tail at HT1
          by_cases d1 : a0_4 < 0
          · rw [if_pos d1] at HT1
            subst HT1
            have d1b : decide (0 ≤ a0_4) = false := decide_eq_false (by omega)
            clear d1 HT
            go_enter Tryd.func15, Tryd.ntmps15
            go_wp2_with (first | (go_at_call 44; refine (C1 _).mono ?_; rintro e w1 ⟨rfl, hb⟩; have HB2 := Aside0.mk (HB1.out hb); have HK2 := Aside0.mk (HK1.out hb); have z1 := (blk_cell HK2.out 1).trans rfl; have z2 := (blk_cell HK2.out 2).trans rfl; clear hb) | (go_at_call 45; refine (C2 _ (Kd.C_below HR.out HB2.out)).mono ?_; rintro e w2 ⟨rfl, hb⟩; have HB3 := Aside0.mk (below_then HB2.out HB2.out.size hb); have HK3 := Aside0.mk (blk_below HK2.out hb); clear z1 z2; have z3 := (blk_cell HK3.out 3).trans rfl; have z4 := (blk_cell HK3.out 4).trans rfl; have z5 := (blk_cell HK3.out 5).trans rfl; have gA : w2.cell? ⟨0, 2, none⟩ = some (.int .i64 0) := (HL.out.below HB3.out).cell 2 (by decide); have gB : w2.cell? ⟨0, 3, none⟩ = some (.int .i64 0) := (HL.out.below HB3.out).cell 3 (by decide); clear hb))
            go_quiet (fail)
            go_wp2
            go_ret
            exact ⟨rfl, pw_below_drewN HB3.out _⟩
          rw [if_neg d1] at HT1
          have d1b : decide (0 ≤ a0_4) = true := decide_eq_true (by omega)
          by_cases d2 : 1048576 < a0_4
          · rw [if_pos d2] at HT1
            subst HT1
            have d2b : decide (a0_4 ≤ 1048576) = false := decide_eq_false (by omega)
            clear d1 d2 HT
            go_enter Tryd.func15, Tryd.ntmps15
            go_wp2_with (first | (go_at_call 44; refine (C1 _).mono ?_; rintro e w1 ⟨rfl, hb⟩; have HB2 := Aside0.mk (HB1.out hb); have HK2 := Aside0.mk (HK1.out hb); have z1 := (blk_cell HK2.out 1).trans rfl; have z2 := (blk_cell HK2.out 2).trans rfl; clear hb) | (go_at_call 45; refine (C2 _ (Kd.C_below HR.out HB2.out)).mono ?_; rintro e w2 ⟨rfl, hb⟩; have HB3 := Aside0.mk (below_then HB2.out HB2.out.size hb); have HK3 := Aside0.mk (blk_below HK2.out hb); clear z1 z2; have z3 := (blk_cell HK3.out 3).trans rfl; have z4 := (blk_cell HK3.out 4).trans rfl; have z5 := (blk_cell HK3.out 5).trans rfl; have gA : w2.cell? ⟨0, 2, none⟩ = some (.int .i64 0) := (HL.out.below HB3.out).cell 2 (by decide); have gB : w2.cell? ⟨0, 3, none⟩ = some (.int .i64 0) := (HL.out.below HB3.out).cell 3 (by decide); clear hb))
            go_quiet (fail)
            go_wp2
            go_ret
            exact ⟨rfl, pw_below_drewN HB3.out _⟩
          rw [if_neg d2] at HT1
          have d2b : decide (a0_4 ≤ 1048576) = true := decide_eq_true (by omega)
          by_cases d3 : a0_5 < 0
          · rw [if_pos (show a0_5 < alert_Valid.lo 1 from d3)] at HT1
            subst HT1
            have d3b : decide (0 ≤ a0_5) = false := decide_eq_false (by omega)
            clear d1 d2 d3 HT
            go_enter Tryd.func15, Tryd.ntmps15
            go_wp2_with (first | (go_at_call 44; refine (C1 _).mono ?_; rintro e w1 ⟨rfl, hb⟩; have HB2 := Aside0.mk (HB1.out hb); have HK2 := Aside0.mk (HK1.out hb); have z1 := (blk_cell HK2.out 1).trans rfl; have z2 := (blk_cell HK2.out 2).trans rfl; clear hb) | (go_at_call 45; refine (C2 _ (Kd.C_below HR.out HB2.out)).mono ?_; rintro e w2 ⟨rfl, hb⟩; have HB3 := Aside0.mk (below_then HB2.out HB2.out.size hb); have HK3 := Aside0.mk (blk_below HK2.out hb); clear z1 z2; have z3 := (blk_cell HK3.out 3).trans rfl; have z4 := (blk_cell HK3.out 4).trans rfl; have z5 := (blk_cell HK3.out 5).trans rfl; have gA : w2.cell? ⟨0, 2, none⟩ = some (.int .i64 0) := (HL.out.below HB3.out).cell 2 (by decide); have gB : w2.cell? ⟨0, 3, none⟩ = some (.int .i64 0) := (HL.out.below HB3.out).cell 3 (by decide); clear hb))
            go_quiet (fail)
            go_wp2
            go_ret
            exact ⟨rfl, pw_below_drewN HB3.out _⟩
          · rw [if_neg (show ¬ a0_5 < alert_Valid.lo 1 from d3)] at HT1
            have HT2 : decide (a0_5 ≤ 0) = r := HT1
            subst HT2
            have d3b : decide (0 ≤ a0_5) = true := decide_eq_true (by omega)
            clear d1 d2 d3 HT HT1
            go_enter Tryd.func15, Tryd.ntmps15
            go_wp2_with (first | (go_at_call 44; refine (C1 _).mono ?_; rintro e w1 ⟨rfl, hb⟩; have HB2 := Aside0.mk (HB1.out hb); have HK2 := Aside0.mk (HK1.out hb); have z1 := (blk_cell HK2.out 1).trans rfl; have z2 := (blk_cell HK2.out 2).trans rfl; clear hb) | (go_at_call 45; refine (C2 _ (Kd.C_below HR.out HB2.out)).mono ?_; rintro e w2 ⟨rfl, hb⟩; have HB3 := Aside0.mk (below_then HB2.out HB2.out.size hb); have HK3 := Aside0.mk (blk_below HK2.out hb); clear z1 z2; have z3 := (blk_cell HK3.out 3).trans rfl; have z4 := (blk_cell HK3.out 4).trans rfl; have z5 := (blk_cell HK3.out 5).trans rfl; have gA : w2.cell? ⟨0, 2, none⟩ = some (.int .i64 0) := (HL.out.below HB3.out).cell 2 (by decide); have gB : w2.cell? ⟨0, 3, none⟩ = some (.int .i64 0) := (HL.out.below HB3.out).cell 3 (by decide); clear hb))
            go_quiet (fail)
            go_wp2
            go_ret
            exact ⟨rfl, pw_below_drewN HB3.out _⟩
        · have HT1 : alert_Valid.tail 2 a0_4 a0_5 = r := Option.some.inj HT.out
          unfold alert_Valid.tail at HT1
          by_cases d1 : a0_4 < 0
          · rw [if_pos d1] at HT1
            subst HT1
            have d1b : decide (0 ≤ a0_4) = false := decide_eq_false (by omega)
            clear d1 HT
            go_enter Tryd.func15, Tryd.ntmps15
            go_wp2_with (first | (go_at_call 44; refine (C1 _).mono ?_; rintro e w1 ⟨rfl, hb⟩; have HB2 := Aside0.mk (HB1.out hb); have HK2 := Aside0.mk (HK1.out hb); have z1 := (blk_cell HK2.out 1).trans rfl; have z2 := (blk_cell HK2.out 2).trans rfl; clear hb) | (go_at_call 45; refine (C2 _ (Kd.C_below HR.out HB2.out)).mono ?_; rintro e w2 ⟨rfl, hb⟩; have HB3 := Aside0.mk (below_then HB2.out HB2.out.size hb); have HK3 := Aside0.mk (blk_below HK2.out hb); clear z1 z2; have z3 := (blk_cell HK3.out 3).trans rfl; have z4 := (blk_cell HK3.out 4).trans rfl; have z5 := (blk_cell HK3.out 5).trans rfl; have gA : w2.cell? ⟨0, 4, none⟩ = some (.int .i64 0) := (HL.out.below HB3.out).cell 4 (by decide); have gB : w2.cell? ⟨0, 5, none⟩ = some (.int .i64 0) := (HL.out.below HB3.out).cell 5 (by decide); clear hb))
            go_quiet (fail)
            go_wp2
            go_ret
            exact ⟨rfl, pw_below_drewN HB3.out _⟩
          rw [if_neg d1] at HT1
          have d1b : decide (0 ≤ a0_4) = true := decide_eq_true (by omega)
          by_cases d2 : 1048576 < a0_4
          · rw [if_pos d2] at HT1
            subst HT1
            have d2b : decide (a0_4 ≤ 1048576) = false := decide_eq_false (by omega)
            clear d1 d2 HT
            go_enter Tryd.func15, Tryd.ntmps15
            go_wp2_with (first | (go_at_call 44; refine (C1 _).mono ?_; rintro e w1 ⟨rfl, hb⟩; have HB2 := Aside0.mk (HB1.out hb); have HK2 := Aside0.mk (HK1.out hb); have z1 := (blk_cell HK2.out 1).trans rfl; have z2 := (blk_cell HK2.out 2).trans rfl; clear hb) | (go_at_call 45; refine (C2 _ (Kd.C_below HR.out HB2.out)).mono ?_; rintro e w2 ⟨rfl, hb⟩; have HB3 := Aside0.mk (below_then HB2.out HB2.out.size hb); have HK3 := Aside0.mk (blk_below HK2.out hb); clear z1 z2; have z3 := (blk_cell HK3.out 3).trans rfl; have z4 := (blk_cell HK3.out 4).trans rfl; have z5 := (blk_cell HK3.out 5).trans rfl; have gA : w2.cell? ⟨0, 4, none⟩ = some (.int .i64 0) := (HL.out.below HB3.out).cell 4 (by decide); have gB : w2.cell? ⟨0, 5, none⟩ = some (.int .i64 0) := (HL.out.below HB3.out).cell 5 (by decide); clear hb))
            go_quiet (fail)
            go_wp2
            go_ret
            exact ⟨rfl, pw_below_drewN HB3.out _⟩
          rw [if_neg d2] at HT1
          have d2b : decide (a0_4 ≤ 1048576) = true := decide_eq_true (by omega)
          by_cases d3 : a0_5 < 0
          · rw [if_pos (show a0_5 < alert_Valid.lo 2 from d3)] at HT1
            subst HT1
            have d3b : decide (0 ≤ a0_5) = false := decide_eq_false (by omega)
            clear d1 d2 d3 HT
            go_enter Tryd.func15, Tryd.ntmps15
            go_wp2_with (first | (go_at_call 44; refine (C1 _).mono ?_; rintro e w1 ⟨rfl, hb⟩; have HB2 := Aside0.mk (HB1.out hb); have HK2 := Aside0.mk (HK1.out hb); have z1 := (blk_cell HK2.out 1).trans rfl; have z2 := (blk_cell HK2.out 2).trans rfl; clear hb) | (go_at_call 45; refine (C2 _ (Kd.C_below HR.out HB2.out)).mono ?_; rintro e w2 ⟨rfl, hb⟩; have HB3 := Aside0.mk (below_then HB2.out HB2.out.size hb); have HK3 := Aside0.mk (blk_below HK2.out hb); clear z1 z2; have z3 := (blk_cell HK3.out 3).trans rfl; have z4 := (blk_cell HK3.out 4).trans rfl; have z5 := (blk_cell HK3.out 5).trans rfl; have gA : w2.cell? ⟨0, 4, none⟩ = some (.int .i64 0) := (HL.out.below HB3.out).cell 4 (by decide); have gB : w2.cell? ⟨0, 5, none⟩ = some (.int .i64 0) := (HL.out.below HB3.out).cell 5 (by decide); clear hb))
            go_quiet (fail)
            go_wp2
            go_ret
            exact ⟨rfl, pw_below_drewN HB3.out _⟩
          · rw [if_neg (show ¬ a0_5 < alert_Valid.lo 2 from d3)] at HT1
            have HT2 : decide (a0_5 ≤ 0) = r := HT1
            subst HT2
            have d3b : decide (0 ≤ a0_5) = true := decide_eq_true (by omega)
            clear d1 d2 d3 HT HT1
            go_enter Tryd.func15, Tryd.ntmps15
            go_wp2_with (first | (go_at_call 44; refine (C1 _).mono ?_; rintro e w1 ⟨rfl, hb⟩; have HB2 := Aside0.mk (HB1.out hb); have HK2 := Aside0.mk (HK1.out hb); have z1 := (blk_cell HK2.out 1).trans rfl; have z2 := (blk_cell HK2.out 2).trans rfl; clear hb) | (go_at_call 45; refine (C2 _ (Kd.C_below HR.out HB2.out)).mono ?_; rintro e w2 ⟨rfl, hb⟩; have HB3 := Aside0.mk (below_then HB2.out HB2.out.size hb); have HK3 := Aside0.mk (blk_below HK2.out hb); clear z1 z2; have z3 := (blk_cell HK3.out 3).trans rfl; have z4 := (blk_cell HK3.out 4).trans rfl; have z5 := (blk_cell HK3.out 5).trans rfl; have gA : w2.cell? ⟨0, 4, none⟩ = some (.int .i64 0) := (HL.out.below HB3.out).cell 4 (by decide); have gB : w2.cell? ⟨0, 5, none⟩ = some (.int .i64 0) := (HL.out.below HB3.out).cell 5 (by decide); clear hb))
            go_quiet (fail)
            go_wp2
            go_ret
            exact ⟨rfl, pw_below_drewN HB3.out _⟩
        · have HT1 : alert_Valid.tail 3 a0_4 a0_5 = r := Option.some.inj HT.out
          unfold alert_Valid.tail at HT1
          by_cases d1 : a0_4 < 0
          · rw [if_pos d1] at HT1
            subst HT1
            have d1b : decide (0 ≤ a0_4) = false := decide_eq_false (by omega)
            clear d1 HT
            go_enter Tryd.func15, Tryd.ntmps15
            go_wp2_with (first | (go_at_call 44; refine (C1 _).mono ?_; rintro e w1 ⟨rfl, hb⟩; have HB2 := Aside0.mk (HB1.out hb); have HK2 := Aside0.mk (HK1.out hb); have z1 := (blk_cell HK2.out 1).trans rfl; have z2 := (blk_cell HK2.out 2).trans rfl; clear hb) | (go_at_call 45; refine (C2 _ (Kd.C_below HR.out HB2.out)).mono ?_; rintro e w2 ⟨rfl, hb⟩; have HB3 := Aside0.mk (below_then HB2.out HB2.out.size hb); have HK3 := Aside0.mk (blk_below HK2.out hb); clear z1 z2; have z3 := (blk_cell HK3.out 3).trans rfl; have z4 := (blk_cell HK3.out 4).trans rfl; have z5 := (blk_cell HK3.out 5).trans rfl; have gA : w2.cell? ⟨0, 6, none⟩ = some (.int .i64 0) := (HL.out.below HB3.out).cell 6 (by decide); have gB : w2.cell? ⟨0, 7, none⟩ = some (.int .i64 16) := (HL.out.below HB3.out).cell 7 (by decide); clear hb))
            go_quiet (fail)
            go_wp2
            go_ret
            exact ⟨rfl, pw_below_drewN HB3.out _⟩
          rw [if_neg d1] at HT1
          have d1b : decide (0 ≤ a0_4) = true := decide_eq_true (by omega)
          by_cases d2 : 1048576 < a0_4
          · rw [if_pos d2] at HT1
            subst HT1
            have d2b : decide (a0_4 ≤ 1048576) = false := decide_eq_false (by omega)
            clear d1 d2 HT
            go_enter Tryd.func15, Tryd.ntmps15
            go_wp2_with (first | (go_at_call 44; refine (C1 _).mono ?_; rintro e w1 ⟨rfl, hb⟩; have HB2 := Aside0.mk (HB1.out hb); have HK2 := Aside0.mk (HK1.out hb); have z1 := (blk_cell HK2.out 1).trans rfl; have z2 := (blk_cell HK2.out 2).trans rfl; clear hb) | (go_at_call 45; refine (C2 _ (Kd.C_below HR.out HB2.out)).mono ?_; rintro e w2 ⟨rfl, hb⟩; have HB3 := Aside0.mk (below_then HB2.out HB2.out.size hb); have HK3 := Aside0.mk (blk_below HK2.out hb); clear z1 z2; have z3 := (blk_cell HK3.out 3).trans rfl; have z4 := (blk_cell HK3.out 4).trans rfl; have z5 := (blk_cell HK3.out 5).trans rfl; have gA : w2.cell? ⟨0, 6, none⟩ = some (.int .i64 0) := (HL.out.below HB3.out).cell 6 (by decide); have gB : w2.cell? ⟨0, 7, none⟩ = some (.int .i64 16) := (HL.out.below HB3.out).cell 7 (by decide); clear hb))
            go_quiet (fail)
            go_wp2
            go_ret
            exact ⟨rfl, pw_below_drewN HB3.out _⟩
          rw [if_neg d2] at HT1
          have d2b : decide (a0_4 ≤ 1048576) = true := decide_eq_true (by omega)
          by_cases d3 : a0_5 < 0
          · rw [if_pos (show a0_5 < alert_Valid.lo 3 from d3)] at HT1
            subst HT1
            have d3b : decide (0 ≤ a0_5) = false := decide_eq_false (by omega)
            clear d1 d2 d3 HT
            go_enter Tryd.func15, Tryd.ntmps15
            go_wp2_with (first | (go_at_call 44; refine (C1 _).mono ?_; rintro e w1 ⟨rfl, hb⟩; have HB2 := Aside0.mk (HB1.out hb); have HK2 := Aside0.mk (HK1.out hb); have z1 := (blk_cell HK2.out 1).trans rfl; have z2 := (blk_cell HK2.out 2).trans rfl; clear hb) | (go_at_call 45; refine (C2 _ (Kd.C_below HR.out HB2.out)).mono ?_; rintro e w2 ⟨rfl, hb⟩; have HB3 := Aside0.mk (below_then HB2.out HB2.out.size hb); have HK3 := Aside0.mk (blk_below HK2.out hb); clear z1 z2; have z3 := (blk_cell HK3.out 3).trans rfl; have z4 := (blk_cell HK3.out 4).trans rfl; have z5 := (blk_cell HK3.out 5).trans rfl; have gA : w2.cell? ⟨0, 6, none⟩ = some (.int .i64 0) := (HL.out.below HB3.out).cell 6 (by decide); have gB : w2.cell? ⟨0, 7, none⟩ = some (.int .i64 16) := (HL.out.below HB3.out).cell 7 (by decide); clear hb))
            go_quiet (fail)
            go_wp2
            go_ret
            exact ⟨rfl, pw_below_drewN HB3.out _⟩
          · rw [if_neg (show ¬ a0_5 < alert_Valid.lo 3 from d3)] at HT1
            have HT2 : decide (a0_5 ≤ 16) = r := HT1
            subst HT2
            have d3b : decide (0 ≤ a0_5) = true := decide_eq_true (by omega)
            clear d1 d2 d3 HT HT1
            go_enter Tryd.func15, Tryd.ntmps15
            go_wp2_with (first | (go_at_call 44; refine (C1 _).mono ?_; rintro e w1 ⟨rfl, hb⟩; have HB2 := Aside0.mk (HB1.out hb); have HK2 := Aside0.mk (HK1.out hb); have z1 := (blk_cell HK2.out 1).trans rfl; have z2 := (blk_cell HK2.out 2).trans rfl; clear hb) | (go_at_call 45; refine (C2 _ (Kd.C_below HR.out HB2.out)).mono ?_; rintro e w2 ⟨rfl, hb⟩; have HB3 := Aside0.mk (below_then HB2.out HB2.out.size hb); have HK3 := Aside0.mk (blk_below HK2.out hb); clear z1 z2; have z3 := (blk_cell HK3.out 3).trans rfl; have z4 := (blk_cell HK3.out 4).trans rfl; have z5 := (blk_cell HK3.out 5).trans rfl; have gA : w2.cell? ⟨0, 6, none⟩ = some (.int .i64 0) := (HL.out.below HB3.out).cell 6 (by decide); have gB : w2.cell? ⟨0, 7, none⟩ = some (.int .i64 16) := (HL.out.below HB3.out).cell 7 (by decide); clear hb))
            go_quiet (fail)
            go_wp2
            go_ret
            exact ⟨rfl, pw_below_drewN HB3.out _⟩
        · have HT1 : alert_Valid.tail 4 a0_4 a0_5 = r := Option.some.inj HT.out
          unfold alert_Valid.tail at HT1
          by_cases d1 : a0_4 < 0
          · rw [if_pos d1] at HT1
            subst HT1
            have d1b : decide (0 ≤ a0_4) = false := decide_eq_false (by omega)
            clear d1 HT
            go_enter Tryd.func15, Tryd.ntmps15
            go_wp2_with (first | (go_at_call 44; refine (C1 _).mono ?_; rintro e w1 ⟨rfl, hb⟩; have HB2 := Aside0.mk (HB1.out hb); have HK2 := Aside0.mk (HK1.out hb); have z1 := (blk_cell HK2.out 1).trans rfl; have z2 := (blk_cell HK2.out 2).trans rfl; clear hb) | (go_at_call 45; refine (C2 _ (Kd.C_below HR.out HB2.out)).mono ?_; rintro e w2 ⟨rfl, hb⟩; have HB3 := Aside0.mk (below_then HB2.out HB2.out.size hb); have HK3 := Aside0.mk (blk_below HK2.out hb); clear z1 z2; have z3 := (blk_cell HK3.out 3).trans rfl; have z4 := (blk_cell HK3.out 4).trans rfl; have z5 := (blk_cell HK3.out 5).trans rfl; have gA : w2.cell? ⟨0, 8, none⟩ = some (.int .i64 1) := (HL.out.below HB3.out).cell 8 (by decide); have gB : w2.cell? ⟨0, 9, none⟩ = some (.int .i64 16) := (HL.out.below HB3.out).cell 9 (by decide); clear hb))
            go_quiet (fail)
            go_wp2
            go_ret
            exact ⟨rfl, pw_below_drewN HB3.out _⟩
          rw [if_neg d1] at HT1
          have d1b : decide (0 ≤ a0_4) = true := decide_eq_true (by omega)
          by_cases d2 : 1048576 < a0_4
          · rw [if_pos d2] at HT1
            subst HT1
            have d2b : decide (a0_4 ≤ 1048576) = false := decide_eq_false (by omega)
            clear d1 d2 HT
            go_enter Tryd.func15, Tryd.ntmps15
            go_wp2_with (first | (go_at_call 44; refine (C1 _).mono ?_; rintro e w1 ⟨rfl, hb⟩; have HB2 := Aside0.mk (HB1.out hb); have HK2 := Aside0.mk (HK1.out hb); have z1 := (blk_cell HK2.out 1).trans rfl; have z2 := (blk_cell HK2.out 2).trans rfl; clear hb) | (go_at_call 45; refine (C2 _ (Kd.C_below HR.out HB2.out)).mono ?_; rintro e w2 ⟨rfl, hb⟩; have HB3 := Aside0.mk (below_then HB2.out HB2.out.size hb); have HK3 := Aside0.mk (blk_below HK2.out hb); clear z1 z2; have z3 := (blk_cell HK3.out 3).trans rfl; have z4 := (blk_cell HK3.out 4).trans rfl; have z5 := (blk_cell HK3.out 5).trans rfl; have gA : w2.cell? ⟨0, 8, none⟩ = some (.int .i64 1) := (HL.out.below HB3.out).cell 8 (by decide); have gB : w2.cell? ⟨0, 9, none⟩ = some (.int .i64 16) := (HL.out.below HB3.out).cell 9 (by decide); clear hb))
            go_quiet (fail)
            go_wp2
            go_ret
            exact ⟨rfl, pw_below_drewN HB3.out _⟩
          rw [if_neg d2] at HT1
          have d2b : decide (a0_4 ≤ 1048576) = true := decide_eq_true (by omega)
          by_cases d3 : a0_5 < 1
          · rw [if_pos (show a0_5 < alert_Valid.lo 4 from d3)] at HT1
            subst HT1
            have d3b : decide (1 ≤ a0_5) = false := decide_eq_false (by omega)
            clear d1 d2 d3 HT
            go_enter Tryd.func15, Tryd.ntmps15
            go_wp2_with (first | (go_at_call 44; refine (C1 _).mono ?_; rintro e w1 ⟨rfl, hb⟩; have HB2 := Aside0.mk (HB1.out hb); have HK2 := Aside0.mk (HK1.out hb); have z1 := (blk_cell HK2.out 1).trans rfl; have z2 := (blk_cell HK2.out 2).trans rfl; clear hb) | (go_at_call 45; refine (C2 _ (Kd.C_below HR.out HB2.out)).mono ?_; rintro e w2 ⟨rfl, hb⟩; have HB3 := Aside0.mk (below_then HB2.out HB2.out.size hb); have HK3 := Aside0.mk (blk_below HK2.out hb); clear z1 z2; have z3 := (blk_cell HK3.out 3).trans rfl; have z4 := (blk_cell HK3.out 4).trans rfl; have z5 := (blk_cell HK3.out 5).trans rfl; have gA : w2.cell? ⟨0, 8, none⟩ = some (.int .i64 1) := (HL.out.below HB3.out).cell 8 (by decide); have gB : w2.cell? ⟨0, 9, none⟩ = some (.int .i64 16) := (HL.out.below HB3.out).cell 9 (by decide); clear hb))
            go_quiet (fail)
            go_wp2
            go_ret
            exact ⟨rfl, pw_below_drewN HB3.out _⟩
          · rw [if_neg (show ¬ a0_5 < alert_Valid.lo 4 from d3)] at HT1
            have HT2 : decide (a0_5 ≤ 16) = r := HT1
            subst HT2
            have d3b : decide (1 ≤ a0_5) = true := decide_eq_true (by omega)
            clear d1 d2 d3 HT HT1
            go_enter Tryd.func15, Tryd.ntmps15
            go_wp2_with (first | (go_at_call 44; refine (C1 _).mono ?_; rintro e w1 ⟨rfl, hb⟩; have HB2 := Aside0.mk (HB1.out hb); have HK2 := Aside0.mk (HK1.out hb); have z1 := (blk_cell HK2.out 1).trans rfl; have z2 := (blk_cell HK2.out 2).trans rfl; clear hb) | (go_at_call 45; refine (C2 _ (Kd.C_below HR.out HB2.out)).mono ?_; rintro e w2 ⟨rfl, hb⟩; have HB3 := Aside0.mk (below_then HB2.out HB2.out.size hb); have HK3 := Aside0.mk (blk_below HK2.out hb); clear z1 z2; have z3 := (blk_cell HK3.out 3).trans rfl; have z4 := (blk_cell HK3.out 4).trans rfl; have z5 := (blk_cell HK3.out 5).trans rfl; have gA : w2.cell? ⟨0, 8, none⟩ = some (.int .i64 1) := (HL.out.below HB3.out).cell 8 (by decide); have gB : w2.cell? ⟨0, 9, none⟩ = some (.int .i64 16) := (HL.out.below HB3.out).cell 9 (by decide); clear hb))
            go_quiet (fail)
            go_wp2
            go_ret
            exact ⟨rfl, pw_below_drewN HB3.out _⟩
      · have h3 : t2 = false := by simpa using h3
        subst h3
        rw [if_neg (by decide)] at h
        obtain rfl := Option.some.inj h
        clear h
        go_enter Tryd.func15, Tryd.ntmps15
        go_wp2_with (first | (go_at_call 44; refine (C1 _).mono ?_; rintro e w1 ⟨rfl, hb⟩; have HB2 := Aside0.mk (HB1.out hb); have HK2 := Aside0.mk (HK1.out hb); have z1 := (blk_cell HK2.out 1).trans rfl; have z2 := (blk_cell HK2.out 2).trans rfl; clear hb) | (go_at_call 45; refine (C2 _ (Kd.C_below HR.out HB2.out)).mono ?_; rintro e w2 ⟨rfl, hb⟩; have HB3 := Aside0.mk (below_then HB2.out HB2.out.size hb); have HK3 := Aside0.mk (blk_below HK2.out hb); clear z1 z2; have z3 := (blk_cell HK3.out 3).trans rfl; have z4 := (blk_cell HK3.out 4).trans rfl; have z5 := (blk_cell HK3.out 5).trans rfl; clear hb))
        go_ret
        exact ⟨rfl, HB3.out⟩
  · rw [if_neg h1] at h
    obtain rfl := Option.some.inj h
    have C1 := C1 false (by simpa using h1)
    clear h1 h
    go_enter Tryd.func15, Tryd.ntmps15
    go_wp2_with (go_at_call 44; refine (C1 _).mono ?_; rintro e w1 ⟨rfl, hb⟩; have HB2 := Aside0.mk (HB1.out hb); have HK2 := Aside0.mk (HK1.out hb); have z1 := (blk_cell HK2.out 1).trans rfl; have z2 := (blk_cell HK2.out 2).trans rfl; clear hb)
    go_ret
    exact ⟨rfl, HB2.out⟩
end Go.Proofs.YtbbddeilbcpmiaaDoor.Q
