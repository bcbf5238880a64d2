/- intervalmonref28.Escalate: what it computes, and its walk by hand. -/
import Derived.Test.YtbbddeilbcpmiaaDoorMRefAt
namespace Go.Proofs.YtbbddeilbcpmiaaDoor.Q
open Go.RowKit Go.Proofs.YtbbddeilbcpmiaaDoorW.PrintWords Go.Proofs.YtbbddeilbcpmiaaDoorW.PrintLast Go.Proofs.YtbbddeilbcpmiaaDoorW.PrintMore
set_option linter.unusedVariables false
def intervalmonref28_Escalate.f (k : Nat) (a0_0 : ByteArray) (a0_1 : Int) (l0_2 : List (S35)) (a0_3 : Int) (a0_4 : Int) (a0_5 : Int) (a1 : Int) (a2 : Int) (a3 : Int) : Option (ByteArray × Int × (List (S35)) × Int × Int × Int × Bool) := (intervalmonref28_At.f k a0_0 a0_1 l0_2 a0_3 a0_4 a0_5 a1).bind fun t434 => (if t434 = true then (if a0_3 = 2 then (if a2 < 0 then (some (a0_0, a0_1, l0_2, a0_3, a0_4, a0_5, false)) else (if (wrap64 (a1 - a0_4)) < a2 then (some (a0_0, a0_1, l0_2, a0_3, a0_4, a0_5, false)) else (if a0_5 ≥ a3 then (some (a0_0, a0_1, l0_2, a0_3, a0_4, a0_5, false)) else (if a0_5 ≥ 16 then (some (a0_0, a0_1, l0_2, a0_3, a0_4, a0_5, false)) else ((intervalmonref28_with.f a0_0 a0_1 l0_2 a0_3 a0_4 a0_5 4 a1 (wrap64 (a0_5 + 1))).bind fun bt435 => (some (bt435.1, bt435.2.1, bt435.2.2.1, bt435.2.2.2.1, bt435.2.2.2.2.1, bt435.2.2.2.2.2, true))))))) else (if a0_3 = 4 then (if a2 < 0 then (some (a0_0, a0_1, l0_2, a0_3, a0_4, a0_5, false)) else (if (wrap64 (a1 - a0_4)) < a2 then (some (a0_0, a0_1, l0_2, a0_3, a0_4, a0_5, false)) else (if a0_5 ≥ a3 then (some (a0_0, a0_1, l0_2, a0_3, a0_4, a0_5, false)) else (if a0_5 ≥ 16 then (some (a0_0, a0_1, l0_2, a0_3, a0_4, a0_5, false)) else ((intervalmonref28_with.f a0_0 a0_1 l0_2 a0_3 a0_4 a0_5 4 a1 (wrap64 (a0_5 + 1))).bind fun bt443 => (some (bt443.1, bt443.2.1, bt443.2.2.1, bt443.2.2.2.1, bt443.2.2.2.2.1, bt443.2.2.2.2.2, true))))))) else (some (a0_0, a0_1, l0_2, a0_3, a0_4, a0_5, false)))) else (some (a0_0, a0_1, l0_2, a0_3, a0_4, a0_5, false)))
namespace lk
set_option maxHeartbeats 4000000 in
set_option maxRecDepth 100000 in
theorem c22 {k : Nat} {n n' : ByteArray} {v v' : Int} {A : Option Addr} {c : Nat} {L L' : List S35} {st si lv st' si' lv' a1 a2 a3 : Int} {r : Bool} (w0 W : World) (hB : Below w0.heap.size w0 W) (hR : LR W w0.heap.size A c L) (h : intervalmonref28_Escalate.f k n v L st si lv a1 a2 a3 = some (n', v', L', st', si', lv', r)) :
    Calls Tryd.prog 22 #[.agg #[.string n, .int .i64 v, .slice A L.length c, .int .i64 st, .int .i64 si, .int .i64 lv], .int .i64 a1, .int .i64 a2, .int .i64 a3] W fun e w' => ∃ A' c', e = .returned (.tuple #[.agg #[.string n', .int .i64 v', .slice A' L'.length c', .int .i64 st', .int .i64 si', .int .i64 lv'], .bool r]) ∧ LR w' w0.heap.size A' c' L' ∧ Below W.heap.size W w' := by
  unfold intervalmonref28_Escalate.f at h
  obtain ⟨b, hb, h⟩ := Option.bind_eq_some_iff.mp h
  have HH := Lib.hid h
  clear h hB
  cases b
  · have h := HH.out
    rw [if_neg (by decide)] at h
    simp only [Option.some.injEq, Prod.mk.injEq] at h
    obtain ⟨rfl, rfl, rfl, rfl, rfl, rfl, rfl⟩ := h
    clear HH
    go_enter Tryd.func22, Tryd.ntmps22
    go_wp2_with fail
    have HA := Lib.hid (lr_below hR (below_alloc (below_alloc (Below.refl _ _) (.cells #[.string n, .int .i64 v, .slice A L.length c, .int .i64 st, .int .i64 si, .int .i64 lv] 25)) (.cells #[.string ⟨#[]⟩, .int .i64 0, .slice none 0 0, .int .i64 0, .int .i64 0, .int .i64 0] 25)))
    refine (c51 _ HA.out hb).mono ?_
    rintro e w1 ⟨rfl, hb1⟩
    have HB1 := Lib.hid (below_step (below_alloc (below_alloc (Below.refl _ _) _) _) hb1)
    have HR1 := Lib.hid (lr_below HA.out hb1)
    have BA := Lib.hid (blk_below (blk_old (blk_new W #[.string n, .int .i64 v, .slice A L.length c, .int .i64 st, .int .i64 si, .int .i64 lv] 25) (.cells #[.string ⟨#[]⟩, .int .i64 0, .slice none 0 0, .int .i64 0, .int .i64 0, .int .i64 0] 25)) hb1)
    have BR0 := Lib.hid (blk_below (blk_new (W.alloc (.cells #[.string n, .int .i64 v, .slice A L.length c, .int .i64 st, .int .i64 si, .int .i64 lv] 25)) #[.string ⟨#[]⟩, .int .i64 0, .slice none 0 0, .int .i64 0, .int .i64 0, .int .i64 0] 25) hb1)
    have BR := Lib.hid (show w1.heap[W.heap.size + 1]? = some (.cells #[.string ⟨#[]⟩, .int .i64 0, .slice none 0 0, .int .i64 0, .int .i64 0, .int .i64 0] 25 (0, 0)) from by have h_ := BR0.out; rwa [show (W.alloc _).heap.size = W.heap.size + 1 from by simp] at h_)
    have zz := blk_lt BR.out
    have zf := fun j => blk_frozen BR.out j
    obtain ⟨z0, z1, z2, z3, z4, z5⟩ := blk6 BA.out
    obtain ⟨y0, y1, y2, y3, y4, y5⟩ := blk6 BR.out
    clear hb1 HA BR0
    go_wp2_with fail
    refine bodyPost_ret (results_ct rfl _ _ (W.heap.size + 1) 25 #[.string n, .int .i64 v, .slice A L.length c, .int .i64 st, .int .i64 si, .int .i64 lv] (0, 0) _ rfl (six_K BR.out) Tryd.underlying25 rfl (by kernel_rfl)) rfl ?_
    exact ⟨A, c, rfl, six_R HR1.out BR.out, six_B HB1.out (Nat.le_succ _)⟩
  · by_cases s2 : st = 2
    · subst s2
      by_cases x1 : a2 < 0
      · have h := HH.out
        rw [if_pos rfl, if_pos rfl, if_pos x1] at h
        simp only [Option.some.injEq, Prod.mk.injEq] at h
        obtain ⟨rfl, rfl, rfl, rfl, rfl, rfl, rfl⟩ := h
        clear HH
        go_enter Tryd.func22, Tryd.ntmps22
        go_wp2_with fail
        have HA := Lib.hid (lr_below hR (below_alloc (below_alloc (Below.refl _ _) (.cells #[.string n, .int .i64 v, .slice A L.length c, .int .i64 2, .int .i64 si, .int .i64 lv] 25)) (.cells #[.string ⟨#[]⟩, .int .i64 0, .slice none 0 0, .int .i64 0, .int .i64 0, .int .i64 0] 25)))
        refine (c51 _ HA.out hb).mono ?_
        rintro e w1 ⟨rfl, hb1⟩
        have HB1 := Lib.hid (below_step (below_alloc (below_alloc (Below.refl _ _) _) _) hb1)
        have HR1 := Lib.hid (lr_below HA.out hb1)
        have BA := Lib.hid (blk_below (blk_old (blk_new W #[.string n, .int .i64 v, .slice A L.length c, .int .i64 2, .int .i64 si, .int .i64 lv] 25) (.cells #[.string ⟨#[]⟩, .int .i64 0, .slice none 0 0, .int .i64 0, .int .i64 0, .int .i64 0] 25)) hb1)
        have BR0 := Lib.hid (blk_below (blk_new (W.alloc (.cells #[.string n, .int .i64 v, .slice A L.length c, .int .i64 2, .int .i64 si, .int .i64 lv] 25)) #[.string ⟨#[]⟩, .int .i64 0, .slice none 0 0, .int .i64 0, .int .i64 0, .int .i64 0] 25) hb1)
        have BR := Lib.hid (show w1.heap[W.heap.size + 1]? = some (.cells #[.string ⟨#[]⟩, .int .i64 0, .slice none 0 0, .int .i64 0, .int .i64 0, .int .i64 0] 25 (0, 0)) from by have h_ := BR0.out; rwa [show (W.alloc _).heap.size = W.heap.size + 1 from by simp] at h_)
        have zz := blk_lt BR.out
        have zf := fun j => blk_frozen BR.out j
        obtain ⟨z0, z1, z2, z3, z4, z5⟩ := blk6 BA.out
        obtain ⟨y0, y1, y2, y3, y4, y5⟩ := blk6 BR.out
        clear hb1 HA BR0
        go_wp2_with fail
        refine bodyPost_ret (results_ct rfl _ _ (W.heap.size + 1) 25 #[.string n, .int .i64 v, .slice A L.length c, .int .i64 2, .int .i64 si, .int .i64 lv] (0, 0) _ rfl (six_K BR.out) Tryd.underlying25 rfl (by kernel_rfl)) rfl ?_
        exact ⟨A, c, rfl, six_R HR1.out BR.out, six_B HB1.out (Nat.le_succ _)⟩
      · by_cases x2 : wrap64 (a1 - si) < a2
        · have h := HH.out
          rw [if_pos rfl, if_pos rfl, if_neg x1, if_pos x2] at h
          simp only [Option.some.injEq, Prod.mk.injEq] at h
          obtain ⟨rfl, rfl, rfl, rfl, rfl, rfl, rfl⟩ := h
          clear HH
          go_enter Tryd.func22, Tryd.ntmps22
          go_wp2_with fail
          have HA := Lib.hid (lr_below hR (below_alloc (below_alloc (Below.refl _ _) (.cells #[.string n, .int .i64 v, .slice A L.length c, .int .i64 2, .int .i64 si, .int .i64 lv] 25)) (.cells #[.string ⟨#[]⟩, .int .i64 0, .slice none 0 0, .int .i64 0, .int .i64 0, .int .i64 0] 25)))
          refine (c51 _ HA.out hb).mono ?_
          rintro e w1 ⟨rfl, hb1⟩
          have HB1 := Lib.hid (below_step (below_alloc (below_alloc (Below.refl _ _) _) _) hb1)
          have HR1 := Lib.hid (lr_below HA.out hb1)
          have BA := Lib.hid (blk_below (blk_old (blk_new W #[.string n, .int .i64 v, .slice A L.length c, .int .i64 2, .int .i64 si, .int .i64 lv] 25) (.cells #[.string ⟨#[]⟩, .int .i64 0, .slice none 0 0, .int .i64 0, .int .i64 0, .int .i64 0] 25)) hb1)
          have BR0 := Lib.hid (blk_below (blk_new (W.alloc (.cells #[.string n, .int .i64 v, .slice A L.length c, .int .i64 2, .int .i64 si, .int .i64 lv] 25)) #[.string ⟨#[]⟩, .int .i64 0, .slice none 0 0, .int .i64 0, .int .i64 0, .int .i64 0] 25) hb1)
          have BR := Lib.hid (show w1.heap[W.heap.size + 1]? = some (.cells #[.string ⟨#[]⟩, .int .i64 0, .slice none 0 0, .int .i64 0, .int .i64 0, .int .i64 0] 25 (0, 0)) from by have h_ := BR0.out; rwa [show (W.alloc _).heap.size = W.heap.size + 1 from by simp] at h_)
          have zz := blk_lt BR.out
          have zf := fun j => blk_frozen BR.out j
          obtain ⟨z0, z1, z2, z3, z4, z5⟩ := blk6 BA.out
          obtain ⟨y0, y1, y2, y3, y4, y5⟩ := blk6 BR.out
          clear hb1 HA BR0
          go_wp2_with fail
          refine bodyPost_ret (results_ct rfl _ _ (W.heap.size + 1) 25 #[.string n, .int .i64 v, .slice A L.length c, .int .i64 2, .int .i64 si, .int .i64 lv] (0, 0) _ rfl (six_K BR.out) Tryd.underlying25 rfl (by kernel_rfl)) rfl ?_
          exact ⟨A, c, rfl, six_R HR1.out BR.out, six_B HB1.out (Nat.le_succ _)⟩
        · by_cases x3 : lv ≥ a3
          · have h := HH.out
            rw [if_pos rfl, if_pos rfl, if_neg x1, if_neg x2, if_pos x3] at h
            simp only [Option.some.injEq, Prod.mk.injEq] at h
            obtain ⟨rfl, rfl, rfl, rfl, rfl, rfl, rfl⟩ := h
            clear HH
            go_enter Tryd.func22, Tryd.ntmps22
            go_wp2_with fail
            have HA := Lib.hid (lr_below hR (below_alloc (below_alloc (Below.refl _ _) (.cells #[.string n, .int .i64 v, .slice A L.length c, .int .i64 2, .int .i64 si, .int .i64 lv] 25)) (.cells #[.string ⟨#[]⟩, .int .i64 0, .slice none 0 0, .int .i64 0, .int .i64 0, .int .i64 0] 25)))
            refine (c51 _ HA.out hb).mono ?_
            rintro e w1 ⟨rfl, hb1⟩
            have HB1 := Lib.hid (below_step (below_alloc (below_alloc (Below.refl _ _) _) _) hb1)
            have HR1 := Lib.hid (lr_below HA.out hb1)
            have BA := Lib.hid (blk_below (blk_old (blk_new W #[.string n, .int .i64 v, .slice A L.length c, .int .i64 2, .int .i64 si, .int .i64 lv] 25) (.cells #[.string ⟨#[]⟩, .int .i64 0, .slice none 0 0, .int .i64 0, .int .i64 0, .int .i64 0] 25)) hb1)
            have BR0 := Lib.hid (blk_below (blk_new (W.alloc (.cells #[.string n, .int .i64 v, .slice A L.length c, .int .i64 2, .int .i64 si, .int .i64 lv] 25)) #[.string ⟨#[]⟩, .int .i64 0, .slice none 0 0, .int .i64 0, .int .i64 0, .int .i64 0] 25) hb1)
            have BR := Lib.hid (show w1.heap[W.heap.size + 1]? = some (.cells #[.string ⟨#[]⟩, .int .i64 0, .slice none 0 0, .int .i64 0, .int .i64 0, .int .i64 0] 25 (0, 0)) from by have h_ := BR0.out; rwa [show (W.alloc _).heap.size = W.heap.size + 1 from by simp] at h_)
            have zz := blk_lt BR.out
            have zf := fun j => blk_frozen BR.out j
            obtain ⟨z0, z1, z2, z3, z4, z5⟩ := blk6 BA.out
            obtain ⟨y0, y1, y2, y3, y4, y5⟩ := blk6 BR.out
            clear hb1 HA BR0
            go_wp2_with fail
            refine bodyPost_ret (results_ct rfl _ _ (W.heap.size + 1) 25 #[.string n, .int .i64 v, .slice A L.length c, .int .i64 2, .int .i64 si, .int .i64 lv] (0, 0) _ rfl (six_K BR.out) Tryd.underlying25 rfl (by kernel_rfl)) rfl ?_
            exact ⟨A, c, rfl, six_R HR1.out BR.out, six_B HB1.out (Nat.le_succ _)⟩
          · by_cases x4 : lv ≥ 16
            · have h := HH.out
              rw [if_pos rfl, if_pos rfl, if_neg x1, if_neg x2, if_neg x3, if_pos x4] at h
              simp only [Option.some.injEq, Prod.mk.injEq] at h
              obtain ⟨rfl, rfl, rfl, rfl, rfl, rfl, rfl⟩ := h
              clear HH
              go_enter Tryd.func22, Tryd.ntmps22
              go_wp2_with fail
              have HA := Lib.hid (lr_below hR (below_alloc (below_alloc (Below.refl _ _) (.cells #[.string n, .int .i64 v, .slice A L.length c, .int .i64 2, .int .i64 si, .int .i64 lv] 25)) (.cells #[.string ⟨#[]⟩, .int .i64 0, .slice none 0 0, .int .i64 0, .int .i64 0, .int .i64 0] 25)))
              refine (c51 _ HA.out hb).mono ?_
              rintro e w1 ⟨rfl, hb1⟩
              have HB1 := Lib.hid (below_step (below_alloc (below_alloc (Below.refl _ _) _) _) hb1)
              have HR1 := Lib.hid (lr_below HA.out hb1)
              have BA := Lib.hid (blk_below (blk_old (blk_new W #[.string n, .int .i64 v, .slice A L.length c, .int .i64 2, .int .i64 si, .int .i64 lv] 25) (.cells #[.string ⟨#[]⟩, .int .i64 0, .slice none 0 0, .int .i64 0, .int .i64 0, .int .i64 0] 25)) hb1)
              have BR0 := Lib.hid (blk_below (blk_new (W.alloc (.cells #[.string n, .int .i64 v, .slice A L.length c, .int .i64 2, .int .i64 si, .int .i64 lv] 25)) #[.string ⟨#[]⟩, .int .i64 0, .slice none 0 0, .int .i64 0, .int .i64 0, .int .i64 0] 25) hb1)
              have BR := Lib.hid (show w1.heap[W.heap.size + 1]? = some (.cells #[.string ⟨#[]⟩, .int .i64 0, .slice none 0 0, .int .i64 0, .int .i64 0, .int .i64 0] 25 (0, 0)) from by have h_ := BR0.out; rwa [show (W.alloc _).heap.size = W.heap.size + 1 from by simp] at h_)
              have zz := blk_lt BR.out
              have zf := fun j => blk_frozen BR.out j
              obtain ⟨z0, z1, z2, z3, z4, z5⟩ := blk6 BA.out
              obtain ⟨y0, y1, y2, y3, y4, y5⟩ := blk6 BR.out
              clear hb1 HA BR0
              go_wp2_with fail
              refine bodyPost_ret (results_ct rfl _ _ (W.heap.size + 1) 25 #[.string n, .int .i64 v, .slice A L.length c, .int .i64 2, .int .i64 si, .int .i64 lv] (0, 0) _ rfl (six_K BR.out) Tryd.underlying25 rfl (by kernel_rfl)) rfl ?_
              exact ⟨A, c, rfl, six_R HR1.out BR.out, six_B HB1.out (Nat.le_succ _)⟩
            · have h := HH.out
              rw [if_pos rfl, if_pos rfl, if_neg x1, if_neg x2, if_neg x3, if_neg x4, intervalmonref28_with.f, Option.bind_some] at h
              simp only [Option.some.injEq, Prod.mk.injEq] at h
              obtain ⟨rfl, rfl, rfl, rfl, rfl, rfl, rfl⟩ := h
              clear HH
              go_enter Tryd.func22, Tryd.ntmps22
              go_wp2_with fail
              have HA := Lib.hid (lr_below hR (below_alloc (below_alloc (Below.refl _ _) (.cells #[.string n, .int .i64 v, .slice A L.length c, .int .i64 2, .int .i64 si, .int .i64 lv] 25)) (.cells #[.string ⟨#[]⟩, .int .i64 0, .slice none 0 0, .int .i64 0, .int .i64 0, .int .i64 0] 25)))
              refine (c51 _ HA.out hb).mono ?_
              rintro e w1 ⟨rfl, hb1⟩
              have HB1 := Lib.hid (below_step (below_alloc (below_alloc (Below.refl _ _) _) _) hb1)
              have HR1 := Lib.hid (lr_below HA.out hb1)
              have BA := Lib.hid (blk_below (blk_old (blk_new W #[.string n, .int .i64 v, .slice A L.length c, .int .i64 2, .int .i64 si, .int .i64 lv] 25) (.cells #[.string ⟨#[]⟩, .int .i64 0, .slice none 0 0, .int .i64 0, .int .i64 0, .int .i64 0] 25)) hb1)
              have BR0 := Lib.hid (blk_below (blk_new (W.alloc (.cells #[.string n, .int .i64 v, .slice A L.length c, .int .i64 2, .int .i64 si, .int .i64 lv] 25)) #[.string ⟨#[]⟩, .int .i64 0, .slice none 0 0, .int .i64 0, .int .i64 0, .int .i64 0] 25) hb1)
              have BR := Lib.hid (show w1.heap[W.heap.size + 1]? = some (.cells #[.string ⟨#[]⟩, .int .i64 0, .slice none 0 0, .int .i64 0, .int .i64 0, .int .i64 0] 25 (0, 0)) from by have h_ := BR0.out; rwa [show (W.alloc _).heap.size = W.heap.size + 1 from by simp] at h_)
              have zz := blk_lt BR.out
              have zf := fun j => blk_frozen BR.out j
              obtain ⟨z0, z1, z2, z3, z4, z5⟩ := blk6 BA.out
              obtain ⟨y0, y1, y2, y3, y4, y5⟩ := blk6 BR.out
              clear hb1 HA BR0
              go_wp2_with fail
              refine (c52 _).mono ?_
              rintro e w2 ⟨rfl, hb2⟩
              have HB2 := Lib.hid (below_step HB1.out hb2)
              have HR2 := Lib.hid (lr_below HR1.out hb2)
              have BR2 := Lib.hid (blk_below BR.out hb2)
              clear zz zf z0 z1 z2 z3 z4 z5 y0 y1 y2 y3 y4 y5 hb2 BA
              have zz := blk_lt BR2.out
              have zf := fun j => blk_frozen BR2.out j
              obtain ⟨y0, y1, y2, y3, y4, y5⟩ := blk6 BR2.out
              go_wp2_with fail
              refine bodyPost_ret (results_ct rfl _ _ (W.heap.size + 1) 25 #[.string n, .int .i64 v, .slice A L.length c, .int .i64 4, .int .i64 a1, .int .i64 (wrap64 (lv + 1))] (0, 0) _ rfl (six_K BR2.out) Tryd.underlying25 rfl (by kernel_rfl)) rfl ?_
              exact ⟨A, c, rfl, six_R HR2.out BR2.out, six_B HB2.out (Nat.le_succ _)⟩
    · by_cases s4 : st = 4
      · subst s4
        by_cases x1 : a2 < 0
        · have h := HH.out
          rw [if_pos rfl, if_neg (by decide), if_pos rfl, if_pos x1] at h
          simp only [Option.some.injEq, Prod.mk.injEq] at h
          obtain ⟨rfl, rfl, rfl, rfl, rfl, rfl, rfl⟩ := h
          clear HH
          go_enter Tryd.func22, Tryd.ntmps22
          go_wp2_with fail
          have HA := Lib.hid (lr_below hR (below_alloc (below_alloc (Below.refl _ _) (.cells #[.string n, .int .i64 v, .slice A L.length c, .int .i64 4, .int .i64 si, .int .i64 lv] 25)) (.cells #[.string ⟨#[]⟩, .int .i64 0, .slice none 0 0, .int .i64 0, .int .i64 0, .int .i64 0] 25)))
          refine (c51 _ HA.out hb).mono ?_
          rintro e w1 ⟨rfl, hb1⟩
          have HB1 := Lib.hid (below_step (below_alloc (below_alloc (Below.refl _ _) _) _) hb1)
          have HR1 := Lib.hid (lr_below HA.out hb1)
          have BA := Lib.hid (blk_below (blk_old (blk_new W #[.string n, .int .i64 v, .slice A L.length c, .int .i64 4, .int .i64 si, .int .i64 lv] 25) (.cells #[.string ⟨#[]⟩, .int .i64 0, .slice none 0 0, .int .i64 0, .int .i64 0, .int .i64 0] 25)) hb1)
          have BR0 := Lib.hid (blk_below (blk_new (W.alloc (.cells #[.string n, .int .i64 v, .slice A L.length c, .int .i64 4, .int .i64 si, .int .i64 lv] 25)) #[.string ⟨#[]⟩, .int .i64 0, .slice none 0 0, .int .i64 0, .int .i64 0, .int .i64 0] 25) hb1)
          have BR := Lib.hid (show w1.heap[W.heap.size + 1]? = some (.cells #[.string ⟨#[]⟩, .int .i64 0, .slice none 0 0, .int .i64 0, .int .i64 0, .int .i64 0] 25 (0, 0)) from by have h_ := BR0.out; rwa [show (W.alloc _).heap.size = W.heap.size + 1 from by simp] at h_)
          have zz := blk_lt BR.out
          have zf := fun j => blk_frozen BR.out j
          obtain ⟨z0, z1, z2, z3, z4, z5⟩ := blk6 BA.out
          obtain ⟨y0, y1, y2, y3, y4, y5⟩ := blk6 BR.out
          clear hb1 HA BR0
          go_wp2_with fail
          refine bodyPost_ret (results_ct rfl _ _ (W.heap.size + 1) 25 #[.string n, .int .i64 v, .slice A L.length c, .int .i64 4, .int .i64 si, .int .i64 lv] (0, 0) _ rfl (six_K BR.out) Tryd.underlying25 rfl (by kernel_rfl)) rfl ?_
          exact ⟨A, c, rfl, six_R HR1.out BR.out, six_B HB1.out (Nat.le_succ _)⟩
        · by_cases x2 : wrap64 (a1 - si) < a2
          · have h := HH.out
            rw [if_pos rfl, if_neg (by decide), if_pos rfl, if_neg x1, if_pos x2] at h
            simp only [Option.some.injEq, Prod.mk.injEq] at h
            obtain ⟨rfl, rfl, rfl, rfl, rfl, rfl, rfl⟩ := h
            clear HH
            go_enter Tryd.func22, Tryd.ntmps22
            go_wp2_with fail
            have HA := Lib.hid (lr_below hR (below_alloc (below_alloc (Below.refl _ _) (.cells #[.string n, .int .i64 v, .slice A L.length c, .int .i64 4, .int .i64 si, .int .i64 lv] 25)) (.cells #[.string ⟨#[]⟩, .int .i64 0, .slice none 0 0, .int .i64 0, .int .i64 0, .int .i64 0] 25)))
            refine (c51 _ HA.out hb).mono ?_
            rintro e w1 ⟨rfl, hb1⟩
            have HB1 := Lib.hid (below_step (below_alloc (below_alloc (Below.refl _ _) _) _) hb1)
            have HR1 := Lib.hid (lr_below HA.out hb1)
            have BA := Lib.hid (blk_below (blk_old (blk_new W #[.string n, .int .i64 v, .slice A L.length c, .int .i64 4, .int .i64 si, .int .i64 lv] 25) (.cells #[.string ⟨#[]⟩, .int .i64 0, .slice none 0 0, .int .i64 0, .int .i64 0, .int .i64 0] 25)) hb1)
            have BR0 := Lib.hid (blk_below (blk_new (W.alloc (.cells #[.string n, .int .i64 v, .slice A L.length c, .int .i64 4, .int .i64 si, .int .i64 lv] 25)) #[.string ⟨#[]⟩, .int .i64 0, .slice none 0 0, .int .i64 0, .int .i64 0, .int .i64 0] 25) hb1)
            have BR := Lib.hid (show w1.heap[W.heap.size + 1]? = some (.cells #[.string ⟨#[]⟩, .int .i64 0, .slice none 0 0, .int .i64 0, .int .i64 0, .int .i64 0] 25 (0, 0)) from by have h_ := BR0.out; rwa [show (W.alloc _).heap.size = W.heap.size + 1 from by simp] at h_)
            have zz := blk_lt BR.out
            have zf := fun j => blk_frozen BR.out j
            obtain ⟨z0, z1, z2, z3, z4, z5⟩ := blk6 BA.out
            obtain ⟨y0, y1, y2, y3, y4, y5⟩ := blk6 BR.out
            clear hb1 HA BR0
            go_wp2_with fail
            refine bodyPost_ret (results_ct rfl _ _ (W.heap.size + 1) 25 #[.string n, .int .i64 v, .slice A L.length c, .int .i64 4, .int .i64 si, .int .i64 lv] (0, 0) _ rfl (six_K BR.out) Tryd.underlying25 rfl (by kernel_rfl)) rfl ?_
            exact ⟨A, c, rfl, six_R HR1.out BR.out, six_B HB1.out (Nat.le_succ _)⟩
          · by_cases x3 : lv ≥ a3
            · have h := HH.out
              rw [if_pos rfl, if_neg (by decide), if_pos rfl, if_neg x1, if_neg x2, if_pos x3] at h
              simp only [Option.some.injEq, Prod.mk.injEq] at h
              obtain ⟨rfl, rfl, rfl, rfl, rfl, rfl, rfl⟩ := h
              clear HH
              go_enter Tryd.func22, Tryd.ntmps22
              go_wp2_with fail
              have HA := Lib.hid (lr_below hR (below_alloc (below_alloc (Below.refl _ _) (.cells #[.string n, .int .i64 v, .slice A L.length c, .int .i64 4, .int .i64 si, .int .i64 lv] 25)) (.cells #[.string ⟨#[]⟩, .int .i64 0, .slice none 0 0, .int .i64 0, .int .i64 0, .int .i64 0] 25)))
              refine (c51 _ HA.out hb).mono ?_
              rintro e w1 ⟨rfl, hb1⟩
              have HB1 := Lib.hid (below_step (below_alloc (below_alloc (Below.refl _ _) _) _) hb1)
              have HR1 := Lib.hid (lr_below HA.out hb1)
              have BA := Lib.hid (blk_below (blk_old (blk_new W #[.string n, .int .i64 v, .slice A L.length c, .int .i64 4, .int .i64 si, .int .i64 lv] 25) (.cells #[.string ⟨#[]⟩, .int .i64 0, .slice none 0 0, .int .i64 0, .int .i64 0, .int .i64 0] 25)) hb1)
              have BR0 := Lib.hid (blk_below (blk_new (W.alloc (.cells #[.string n, .int .i64 v, .slice A L.length c, .int .i64 4, .int .i64 si, .int .i64 lv] 25)) #[.string ⟨#[]⟩, .int .i64 0, .slice none 0 0, .int .i64 0, .int .i64 0, .int .i64 0] 25) hb1)
              have BR := Lib.hid (show w1.heap[W.heap.size + 1]? = some (.cells #[.string ⟨#[]⟩, .int .i64 0, .slice none 0 0, .int .i64 0, .int .i64 0, .int .i64 0] 25 (0, 0)) from by have h_ := BR0.out; rwa [show (W.alloc _).heap.size = W.heap.size + 1 from by simp] at h_)
              have zz := blk_lt BR.out
              have zf := fun j => blk_frozen BR.out j
              obtain ⟨z0, z1, z2, z3, z4, z5⟩ := blk6 BA.out
              obtain ⟨y0, y1, y2, y3, y4, y5⟩ := blk6 BR.out
              clear hb1 HA BR0
              go_wp2_with fail
              refine bodyPost_ret (results_ct rfl _ _ (W.heap.size + 1) 25 #[.string n, .int .i64 v, .slice A L.length c, .int .i64 4, .int .i64 si, .int .i64 lv] (0, 0) _ rfl (six_K BR.out) Tryd.underlying25 rfl (by kernel_rfl)) rfl ?_
              exact ⟨A, c, rfl, six_R HR1.out BR.out, six_B HB1.out (Nat.le_succ _)⟩
            · by_cases x4 : lv ≥ 16
              · have h := HH.out
                rw [if_pos rfl, if_neg (by decide), if_pos rfl, if_neg x1, if_neg x2, if_neg x3, if_pos x4] at h
                simp only [Option.some.injEq, Prod.mk.injEq] at h
                obtain ⟨rfl, rfl, rfl, rfl, rfl, rfl, rfl⟩ := h
                clear HH
                go_enter Tryd.func22, Tryd.ntmps22
                go_wp2_with fail
                have HA := Lib.hid (lr_below hR (below_alloc (below_alloc (Below.refl _ _) (.cells #[.string n, .int .i64 v, .slice A L.length c, .int .i64 4, .int .i64 si, .int .i64 lv] 25)) (.cells #[.string ⟨#[]⟩, .int .i64 0, .slice none 0 0, .int .i64 0, .int .i64 0, .int .i64 0] 25)))
                refine (c51 _ HA.out hb).mono ?_
                rintro e w1 ⟨rfl, hb1⟩
                have HB1 := Lib.hid (below_step (below_alloc (below_alloc (Below.refl _ _) _) _) hb1)
                have HR1 := Lib.hid (lr_below HA.out hb1)
                have BA := Lib.hid (blk_below (blk_old (blk_new W #[.string n, .int .i64 v, .slice A L.length c, .int .i64 4, .int .i64 si, .int .i64 lv] 25) (.cells #[.string ⟨#[]⟩, .int .i64 0, .slice none 0 0, .int .i64 0, .int .i64 0, .int .i64 0] 25)) hb1)
                have BR0 := Lib.hid (blk_below (blk_new (W.alloc (.cells #[.string n, .int .i64 v, .slice A L.length c, .int .i64 4, .int .i64 si, .int .i64 lv] 25)) #[.string ⟨#[]⟩, .int .i64 0, .slice none 0 0, .int .i64 0, .int .i64 0, .int .i64 0] 25) hb1)
                have BR := Lib.hid (show w1.heap[W.heap.size + 1]? = some (.cells #[.string ⟨#[]⟩, .int .i64 0, .slice none 0 0, .int .i64 0, .int .i64 0, .int .i64 0] 25 (0, 0)) from by have h_ := BR0.out; rwa [show (W.alloc _).heap.size = W.heap.size + 1 from by simp] at h_)
                have zz := blk_lt BR.out
                have zf := fun j => blk_frozen BR.out j
                obtain ⟨z0, z1, z2, z3, z4, z5⟩ := blk6 BA.out
                obtain ⟨y0, y1, y2, y3, y4, y5⟩ := blk6 BR.out
                clear hb1 HA BR0
                go_wp2_with fail
                refine bodyPost_ret (results_ct rfl _ _ (W.heap.size + 1) 25 #[.string n, .int .i64 v, .slice A L.length c, .int .i64 4, .int .i64 si, .int .i64 lv] (0, 0) _ rfl (six_K BR.out) Tryd.underlying25 rfl (by kernel_rfl)) rfl ?_
                exact ⟨A, c, rfl, six_R HR1.out BR.out, six_B HB1.out (Nat.le_succ _)⟩
              · have h := HH.out
                rw [if_pos rfl, if_neg (by decide), if_pos rfl, if_neg x1, if_neg x2, if_neg x3, if_neg x4, intervalmonref28_with.f, Option.bind_some] at h
                simp only [Option.some.injEq, Prod.mk.injEq] at h
                obtain ⟨rfl, rfl, rfl, rfl, rfl, rfl, rfl⟩ := h
                clear HH
                go_enter Tryd.func22, Tryd.ntmps22
                go_wp2_with fail
                have HA := Lib.hid (lr_below hR (below_alloc (below_alloc (Below.refl _ _) (.cells #[.string n, .int .i64 v, .slice A L.length c, .int .i64 4, .int .i64 si, .int .i64 lv] 25)) (.cells #[.string ⟨#[]⟩, .int .i64 0, .slice none 0 0, .int .i64 0, .int .i64 0, .int .i64 0] 25)))
                refine (c51 _ HA.out hb).mono ?_
                rintro e w1 ⟨rfl, hb1⟩
                have HB1 := Lib.hid (below_step (below_alloc (below_alloc (Below.refl _ _) _) _) hb1)
                have HR1 := Lib.hid (lr_below HA.out hb1)
                have BA := Lib.hid (blk_below (blk_old (blk_new W #[.string n, .int .i64 v, .slice A L.length c, .int .i64 4, .int .i64 si, .int .i64 lv] 25) (.cells #[.string ⟨#[]⟩, .int .i64 0, .slice none 0 0, .int .i64 0, .int .i64 0, .int .i64 0] 25)) hb1)
                have BR0 := Lib.hid (blk_below (blk_new (W.alloc (.cells #[.string n, .int .i64 v, .slice A L.length c, .int .i64 4, .int .i64 si, .int .i64 lv] 25)) #[.string ⟨#[]⟩, .int .i64 0, .slice none 0 0, .int .i64 0, .int .i64 0, .int .i64 0] 25) hb1)
                have BR := Lib.hid (show w1.heap[W.heap.size + 1]? = some (.cells #[.string ⟨#[]⟩, .int .i64 0, .slice none 0 0, .int .i64 0, .int .i64 0, .int .i64 0] 25 (0, 0)) from by have h_ := BR0.out; rwa [show (W.alloc _).heap.size = W.heap.size + 1 from by simp] at h_)
                have zz := blk_lt BR.out
                have zf := fun j => blk_frozen BR.out j
                obtain ⟨z0, z1, z2, z3, z4, z5⟩ := blk6 BA.out
                obtain ⟨y0, y1, y2, y3, y4, y5⟩ := blk6 BR.out
                clear hb1 HA BR0
                go_wp2_with fail
                refine (c52 _).mono ?_
                rintro e w2 ⟨rfl, hb2⟩
                have HB2 := Lib.hid (below_step HB1.out hb2)
                have HR2 := Lib.hid (lr_below HR1.out hb2)
                have BR2 := Lib.hid (blk_below BR.out hb2)
                clear zz zf z0 z1 z2 z3 z4 z5 y0 y1 y2 y3 y4 y5 hb2 BA
                have zz := blk_lt BR2.out
                have zf := fun j => blk_frozen BR2.out j
                obtain ⟨y0, y1, y2, y3, y4, y5⟩ := blk6 BR2.out
                go_wp2_with fail
                refine bodyPost_ret (results_ct rfl _ _ (W.heap.size + 1) 25 #[.string n, .int .i64 v, .slice A L.length c, .int .i64 4, .int .i64 a1, .int .i64 (wrap64 (lv + 1))] (0, 0) _ rfl (six_K BR2.out) Tryd.underlying25 rfl (by kernel_rfl)) rfl ?_
                exact ⟨A, c, rfl, six_R HR2.out BR2.out, six_B HB2.out (Nat.le_succ _)⟩
      · have h := HH.out
        rw [if_pos rfl, if_neg s2, if_neg s4] at h
        simp only [Option.some.injEq, Prod.mk.injEq] at h
        obtain ⟨rfl, rfl, rfl, rfl, rfl, rfl, rfl⟩ := h
        clear HH
        have s2b : (st == 2) = false := beq_eq_false_iff_ne.mpr s2
        have s4b : (st == 4) = false := beq_eq_false_iff_ne.mpr s4
        have s2c : (st != 2) = true := by simp [s2]
        have s4c : (st != 4) = true := by simp [s4]
        clear s2 s4
        go_enter Tryd.func22, Tryd.ntmps22
        go_wp2_with fail
        have HA := Lib.hid (lr_below hR (below_alloc (below_alloc (Below.refl _ _) (.cells #[.string n, .int .i64 v, .slice A L.length c, .int .i64 st, .int .i64 si, .int .i64 lv] 25)) (.cells #[.string ⟨#[]⟩, .int .i64 0, .slice none 0 0, .int .i64 0, .int .i64 0, .int .i64 0] 25)))
        refine (c51 _ HA.out hb).mono ?_
        rintro e w1 ⟨rfl, hb1⟩
        have HB1 := Lib.hid (below_step (below_alloc (below_alloc (Below.refl _ _) _) _) hb1)
        have HR1 := Lib.hid (lr_below HA.out hb1)
        have BA := Lib.hid (blk_below (blk_old (blk_new W #[.string n, .int .i64 v, .slice A L.length c, .int .i64 st, .int .i64 si, .int .i64 lv] 25) (.cells #[.string ⟨#[]⟩, .int .i64 0, .slice none 0 0, .int .i64 0, .int .i64 0, .int .i64 0] 25)) hb1)
        have BR0 := Lib.hid (blk_below (blk_new (W.alloc (.cells #[.string n, .int .i64 v, .slice A L.length c, .int .i64 st, .int .i64 si, .int .i64 lv] 25)) #[.string ⟨#[]⟩, .int .i64 0, .slice none 0 0, .int .i64 0, .int .i64 0, .int .i64 0] 25) hb1)
        have BR := Lib.hid (show w1.heap[W.heap.size + 1]? = some (.cells #[.string ⟨#[]⟩, .int .i64 0, .slice none 0 0, .int .i64 0, .int .i64 0, .int .i64 0] 25 (0, 0)) from by have h_ := BR0.out; rwa [show (W.alloc _).heap.size = W.heap.size + 1 from by simp] at h_)
        have zz := blk_lt BR.out
        have zf := fun j => blk_frozen BR.out j
        obtain ⟨z0, z1, z2, z3, z4, z5⟩ := blk6 BA.out
        obtain ⟨y0, y1, y2, y3, y4, y5⟩ := blk6 BR.out
        clear hb1 HA BR0
        go_wp2_with fail
        refine bodyPost_ret (results_ct rfl _ _ (W.heap.size + 1) 25 #[.string n, .int .i64 v, .slice A L.length c, .int .i64 st, .int .i64 si, .int .i64 lv] (0, 0) _ rfl (six_K BR.out) Tryd.underlying25 rfl (by kernel_rfl)) rfl ?_
        exact ⟨A, c, rfl, six_R HR1.out BR.out, six_B HB1.out (Nat.le_succ _)⟩
end lk
end Go.Proofs.YtbbddeilbcpmiaaDoor.Q
