/- intervalmonref28.Step: what it computes, and its walk by hand. -/
import Derived.Test.YtbbddeilbcpmiaaDoorMRefAt
namespace Go.Proofs.YtbbddeilbcpmiaaDoor.Q
open Go.RowKit Go.Proofs.YtbbddeilbcpmiaaDoorW.PrintWords Go.Proofs.YtbbddeilbcpmiaaDoorW.PrintLast Go.Proofs.YtbbddeilbcpmiaaDoorW.PrintMore
set_option linter.unusedVariables false
/-- what a verdict does to a state, when the alert may be looked at -/
def stepS (st a : Int) : Option (Int × Bool) :=
  if a = 2 ∧ (st = 0 ∨ st = 1) then some (2, true) else if a = 1 ∧ st = 0 then some (1, false) else if a = 0 ∧ st ≠ 0 then some (0, false) else none
/-- intervalmonref28.Step, as a function of lists and numbers. -/
def intervalmonref28_Step.g (k : Nat) (n : ByteArray) (v : Int) (L : List S35) (st si lv a t : Int) : Option (ByteArray × Int × List S35 × Int × Int × Int × Bool) := (intervalmonref28_At.f k n v L st si lv t).bind fun b => if b = true then some (match stepS st a with | some (s, r) => (n, v, L, s, t, 0, r) | none => (n, v, L, st, si, lv, false)) else some (n, v, L, st, si, lv, false)
namespace lk
set_option maxHeartbeats 4000000 in
set_option maxRecDepth 100000 in
theorem c19 {k : Nat} {n n' : ByteArray} {v v' : Int} {A : Option Addr} {c : Nat} {L L' : List S35} {st si lv st' si' lv' a1 a2 : Int} {r : Bool} (w0 W : World) (hB : Below w0.heap.size w0 W) (hR : LR W w0.heap.size A c L) (h : intervalmonref28_Step.g k n v L st si lv a1 a2 = some (n', v', L', st', si', lv', r)) :
    Calls Tryd.prog 19 #[.agg #[.string n, .int .i64 v, .slice A L.length c, .int .i64 st, .int .i64 si, .int .i64 lv], .int .i64 a1, .int .i64 a2] W fun e w' => ∃ A' c', e = .returned (.tuple #[.agg #[.string n', .int .i64 v', .slice A' L'.length c', .int .i64 st', .int .i64 si', .int .i64 lv'], .bool r]) ∧ LR w' w0.heap.size A' c' L' ∧ Below W.heap.size W w' := by
  unfold intervalmonref28_Step.g at h
  obtain ⟨b, hb, h⟩ := Option.bind_eq_some_iff.mp h
  have HH := Lib.hid h
  clear h hB
  cases b
  · have h := HH.out
    rw [if_neg (by decide)] at h
    simp only [Option.some.injEq, Prod.mk.injEq] at h
    obtain ⟨rfl, rfl, rfl, rfl, rfl, rfl, rfl⟩ := h
    clear HH
    go_enter Tryd.func19, Tryd.ntmps19
    go_wp2_with fail
    have HA := Lib.hid (lr_below hR (below_alloc (below_alloc (Below.refl _ _) (.cells #[.string n, .int .i64 v, .slice A L.length c, .int .i64 st, .int .i64 si, .int .i64 lv] 25)) (.cells #[.string ⟨#[]⟩, .int .i64 0, .slice none 0 0, .int .i64 0, .int .i64 0, .int .i64 0] 25)))
    refine (c51 _ HA.out hb).mono ?_
    rintro e w1 ⟨rfl, hb1⟩
    have HB1 := Lib.hid (below_step (below_alloc (below_alloc (Below.refl _ _) _) _) hb1)
    have HR1 := Lib.hid (lr_below HA.out hb1)
    have BA := Lib.hid (blk_below (blk_old (blk_new W #[.string n, .int .i64 v, .slice A L.length c, .int .i64 st, .int .i64 si, .int .i64 lv] 25) (.cells #[.string ⟨#[]⟩, .int .i64 0, .slice none 0 0, .int .i64 0, .int .i64 0, .int .i64 0] 25)) hb1)
    have BR0 := Lib.hid (blk_below (blk_new (W.alloc (.cells #[.string n, .int .i64 v, .slice A L.length c, .int .i64 st, .int .i64 si, .int .i64 lv] 25)) #[.string ⟨#[]⟩, .int .i64 0, .slice none 0 0, .int .i64 0, .int .i64 0, .int .i64 0] 25) hb1)
    have BR := Lib.hid (show w1.heap[W.heap.size + 1]? = some (.cells #[.string ⟨#[]⟩, .int .i64 0, .slice none 0 0, .int .i64 0, .int .i64 0, .int .i64 0] 25 (0, 0)) from by have h_ := BR0.out; rwa [show (W.alloc _).heap.size = W.heap.size + 1 from by simp] at h_)
    have zz := blk_lt BR.out
    have zf := fun j => blk_frozen BR.out j
    obtain ⟨z0, z1, z2, z3, z4, z5⟩ := blk6 BA.out
    obtain ⟨y0, y1, y2, y3, y4, y5⟩ := blk6 BR.out
    clear hb1 HA BR0
    go_wp2_with fail
    refine bodyPost_ret (results_ct rfl _ _ (W.heap.size + 1) 25 #[.string n, .int .i64 v, .slice A L.length c, .int .i64 st, .int .i64 si, .int .i64 lv] (0, 0) _ rfl (six_K BR.out) Tryd.underlying25 rfl (by kernel_rfl)) rfl ?_
    exact ⟨A, c, rfl, six_R HR1.out BR.out, six_B HB1.out (Nat.le_succ _)⟩
  · by_cases e2 : a1 = 2
    · subst e2
      by_cases s0 : st = 0
      · subst s0
        have h := HH.out
        rw [if_pos rfl, show stepS 0 2 = some (2, true) from by simp [stepS]] at h
        simp only [Option.some.injEq, Prod.mk.injEq] at h
        obtain ⟨rfl, rfl, rfl, rfl, rfl, rfl, rfl⟩ := h
        clear HH
        go_enter Tryd.func19, Tryd.ntmps19
        go_wp2_with fail
        have HA := Lib.hid (lr_below hR (below_alloc (below_alloc (Below.refl _ _) (.cells #[.string n, .int .i64 v, .slice A L.length c, .int .i64 0, .int .i64 si, .int .i64 lv] 25)) (.cells #[.string ⟨#[]⟩, .int .i64 0, .slice none 0 0, .int .i64 0, .int .i64 0, .int .i64 0] 25)))
        refine (c51 _ HA.out hb).mono ?_
        rintro e w1 ⟨rfl, hb1⟩
        have HB1 := Lib.hid (below_step (below_alloc (below_alloc (Below.refl _ _) _) _) hb1)
        have HR1 := Lib.hid (lr_below HA.out hb1)
        have BA := Lib.hid (blk_below (blk_old (blk_new W #[.string n, .int .i64 v, .slice A L.length c, .int .i64 0, .int .i64 si, .int .i64 lv] 25) (.cells #[.string ⟨#[]⟩, .int .i64 0, .slice none 0 0, .int .i64 0, .int .i64 0, .int .i64 0] 25)) hb1)
        have BR0 := Lib.hid (blk_below (blk_new (W.alloc (.cells #[.string n, .int .i64 v, .slice A L.length c, .int .i64 0, .int .i64 si, .int .i64 lv] 25)) #[.string ⟨#[]⟩, .int .i64 0, .slice none 0 0, .int .i64 0, .int .i64 0, .int .i64 0] 25) hb1)
        have BR := Lib.hid (show w1.heap[W.heap.size + 1]? = some (.cells #[.string ⟨#[]⟩, .int .i64 0, .slice none 0 0, .int .i64 0, .int .i64 0, .int .i64 0] 25 (0, 0)) from by have h_ := BR0.out; rwa [show (W.alloc _).heap.size = W.heap.size + 1 from by simp] at h_)
        have zz := blk_lt BR.out
        have zf := fun j => blk_frozen BR.out j
        obtain ⟨z0, z1, z2, z3, z4, z5⟩ := blk6 BA.out
        obtain ⟨y0, y1, y2, y3, y4, y5⟩ := blk6 BR.out
        clear hb1 HA BR0
        go_wp2_with fail
        refine (c52 _).mono ?_
        rintro e w2 ⟨rfl, hb2⟩
        have HB2 := Lib.hid (below_step HB1.out hb2)
        have HR2 := Lib.hid (lr_below HR1.out hb2)
        have BR2 := Lib.hid (blk_below BR.out hb2)
        clear zz zf z0 z1 z2 z3 z4 z5 y0 y1 y2 y3 y4 y5 hb2 BA
        have zz := blk_lt BR2.out
        have zf := fun j => blk_frozen BR2.out j
        obtain ⟨y0, y1, y2, y3, y4, y5⟩ := blk6 BR2.out
        go_wp2_with fail
        refine bodyPost_ret (results_ct rfl _ _ (W.heap.size + 1) 25 #[.string n, .int .i64 v, .slice A L.length c, .int .i64 2, .int .i64 a2, .int .i64 0] (0, 0) _ rfl (six_K BR2.out) Tryd.underlying25 rfl (by kernel_rfl)) rfl ?_
        exact ⟨A, c, rfl, six_R HR2.out BR2.out, six_B HB2.out (Nat.le_succ _)⟩
      · by_cases s1 : st = 1
        · subst s1
          have h := HH.out
          rw [if_pos rfl, show stepS 1 2 = some (2, true) from by simp [stepS]] at h
          simp only [Option.some.injEq, Prod.mk.injEq] at h
          obtain ⟨rfl, rfl, rfl, rfl, rfl, rfl, rfl⟩ := h
          clear HH
          go_enter Tryd.func19, Tryd.ntmps19
          go_wp2_with fail
          have HA := Lib.hid (lr_below hR (below_alloc (below_alloc (Below.refl _ _) (.cells #[.string n, .int .i64 v, .slice A L.length c, .int .i64 1, .int .i64 si, .int .i64 lv] 25)) (.cells #[.string ⟨#[]⟩, .int .i64 0, .slice none 0 0, .int .i64 0, .int .i64 0, .int .i64 0] 25)))
          refine (c51 _ HA.out hb).mono ?_
          rintro e w1 ⟨rfl, hb1⟩
          have HB1 := Lib.hid (below_step (below_alloc (below_alloc (Below.refl _ _) _) _) hb1)
          have HR1 := Lib.hid (lr_below HA.out hb1)
          have BA := Lib.hid (blk_below (blk_old (blk_new W #[.string n, .int .i64 v, .slice A L.length c, .int .i64 1, .int .i64 si, .int .i64 lv] 25) (.cells #[.string ⟨#[]⟩, .int .i64 0, .slice none 0 0, .int .i64 0, .int .i64 0, .int .i64 0] 25)) hb1)
          have BR0 := Lib.hid (blk_below (blk_new (W.alloc (.cells #[.string n, .int .i64 v, .slice A L.length c, .int .i64 1, .int .i64 si, .int .i64 lv] 25)) #[.string ⟨#[]⟩, .int .i64 0, .slice none 0 0, .int .i64 0, .int .i64 0, .int .i64 0] 25) hb1)
          have BR := Lib.hid (show w1.heap[W.heap.size + 1]? = some (.cells #[.string ⟨#[]⟩, .int .i64 0, .slice none 0 0, .int .i64 0, .int .i64 0, .int .i64 0] 25 (0, 0)) from by have h_ := BR0.out; rwa [show (W.alloc _).heap.size = W.heap.size + 1 from by simp] at h_)
          have zz := blk_lt BR.out
          have zf := fun j => blk_frozen BR.out j
          obtain ⟨z0, z1, z2, z3, z4, z5⟩ := blk6 BA.out
          obtain ⟨y0, y1, y2, y3, y4, y5⟩ := blk6 BR.out
          clear hb1 HA BR0
          go_wp2_with fail
          refine (c52 _).mono ?_
          rintro e w2 ⟨rfl, hb2⟩
          have HB2 := Lib.hid (below_step HB1.out hb2)
          have HR2 := Lib.hid (lr_below HR1.out hb2)
          have BR2 := Lib.hid (blk_below BR.out hb2)
          clear zz zf z0 z1 z2 z3 z4 z5 y0 y1 y2 y3 y4 y5 hb2 BA
          have zz := blk_lt BR2.out
          have zf := fun j => blk_frozen BR2.out j
          obtain ⟨y0, y1, y2, y3, y4, y5⟩ := blk6 BR2.out
          go_wp2_with fail
          refine bodyPost_ret (results_ct rfl _ _ (W.heap.size + 1) 25 #[.string n, .int .i64 v, .slice A L.length c, .int .i64 2, .int .i64 a2, .int .i64 0] (0, 0) _ rfl (six_K BR2.out) Tryd.underlying25 rfl (by kernel_rfl)) rfl ?_
          exact ⟨A, c, rfl, six_R HR2.out BR2.out, six_B HB2.out (Nat.le_succ _)⟩
        · have h := HH.out
          rw [if_pos rfl, show stepS st 2 = none from by simp [stepS, s0, s1]] at h
          simp only [Option.some.injEq, Prod.mk.injEq] at h
          obtain ⟨rfl, rfl, rfl, rfl, rfl, rfl, rfl⟩ := h
          clear HH
          have s0b : (st == 0) = false := beq_eq_false_iff_ne.mpr s0
          have s0c : (st != 0) = true := by simp [s0]
          have s1b : (st == 1) = false := beq_eq_false_iff_ne.mpr s1
          clear s0 s1
          go_enter Tryd.func19, Tryd.ntmps19
          go_wp2_with fail
          have HA := Lib.hid (lr_below hR (below_alloc (below_alloc (Below.refl _ _) (.cells #[.string n, .int .i64 v, .slice A L.length c, .int .i64 st, .int .i64 si, .int .i64 lv] 25)) (.cells #[.string ⟨#[]⟩, .int .i64 0, .slice none 0 0, .int .i64 0, .int .i64 0, .int .i64 0] 25)))
          refine (c51 _ HA.out hb).mono ?_
          rintro e w1 ⟨rfl, hb1⟩
          have HB1 := Lib.hid (below_step (below_alloc (below_alloc (Below.refl _ _) _) _) hb1)
          have HR1 := Lib.hid (lr_below HA.out hb1)
          have BA := Lib.hid (blk_below (blk_old (blk_new W #[.string n, .int .i64 v, .slice A L.length c, .int .i64 st, .int .i64 si, .int .i64 lv] 25) (.cells #[.string ⟨#[]⟩, .int .i64 0, .slice none 0 0, .int .i64 0, .int .i64 0, .int .i64 0] 25)) hb1)
          have BR0 := Lib.hid (blk_below (blk_new (W.alloc (.cells #[.string n, .int .i64 v, .slice A L.length c, .int .i64 st, .int .i64 si, .int .i64 lv] 25)) #[.string ⟨#[]⟩, .int .i64 0, .slice none 0 0, .int .i64 0, .int .i64 0, .int .i64 0] 25) hb1)
          have BR := Lib.hid (show w1.heap[W.heap.size + 1]? = some (.cells #[.string ⟨#[]⟩, .int .i64 0, .slice none 0 0, .int .i64 0, .int .i64 0, .int .i64 0] 25 (0, 0)) from by have h_ := BR0.out; rwa [show (W.alloc _).heap.size = W.heap.size + 1 from by simp] at h_)
          have zz := blk_lt BR.out
          have zf := fun j => blk_frozen BR.out j
          obtain ⟨z0, z1, z2, z3, z4, z5⟩ := blk6 BA.out
          obtain ⟨y0, y1, y2, y3, y4, y5⟩ := blk6 BR.out
          clear hb1 HA BR0
          go_wp2_with fail
          refine bodyPost_ret (results_ct rfl _ _ (W.heap.size + 1) 25 #[.string n, .int .i64 v, .slice A L.length c, .int .i64 st, .int .i64 si, .int .i64 lv] (0, 0) _ rfl (six_K BR.out) Tryd.underlying25 rfl (by kernel_rfl)) rfl ?_
          exact ⟨A, c, rfl, six_R HR1.out BR.out, six_B HB1.out (Nat.le_succ _)⟩
    · by_cases e1 : a1 = 1
      · subst e1
        by_cases s0 : st = 0
        · subst s0
          have h := HH.out
          rw [if_pos rfl, show stepS 0 1 = some (1, false) from by simp [stepS]] at h
          simp only [Option.some.injEq, Prod.mk.injEq] at h
          obtain ⟨rfl, rfl, rfl, rfl, rfl, rfl, rfl⟩ := h
          clear HH
          go_enter Tryd.func19, Tryd.ntmps19
          go_wp2_with fail
          have HA := Lib.hid (lr_below hR (below_alloc (below_alloc (Below.refl _ _) (.cells #[.string n, .int .i64 v, .slice A L.length c, .int .i64 0, .int .i64 si, .int .i64 lv] 25)) (.cells #[.string ⟨#[]⟩, .int .i64 0, .slice none 0 0, .int .i64 0, .int .i64 0, .int .i64 0] 25)))
          refine (c51 _ HA.out hb).mono ?_
          rintro e w1 ⟨rfl, hb1⟩
          have HB1 := Lib.hid (below_step (below_alloc (below_alloc (Below.refl _ _) _) _) hb1)
          have HR1 := Lib.hid (lr_below HA.out hb1)
          have BA := Lib.hid (blk_below (blk_old (blk_new W #[.string n, .int .i64 v, .slice A L.length c, .int .i64 0, .int .i64 si, .int .i64 lv] 25) (.cells #[.string ⟨#[]⟩, .int .i64 0, .slice none 0 0, .int .i64 0, .int .i64 0, .int .i64 0] 25)) hb1)
          have BR0 := Lib.hid (blk_below (blk_new (W.alloc (.cells #[.string n, .int .i64 v, .slice A L.length c, .int .i64 0, .int .i64 si, .int .i64 lv] 25)) #[.string ⟨#[]⟩, .int .i64 0, .slice none 0 0, .int .i64 0, .int .i64 0, .int .i64 0] 25) hb1)
          have BR := Lib.hid (show w1.heap[W.heap.size + 1]? = some (.cells #[.string ⟨#[]⟩, .int .i64 0, .slice none 0 0, .int .i64 0, .int .i64 0, .int .i64 0] 25 (0, 0)) from by have h_ := BR0.out; rwa [show (W.alloc _).heap.size = W.heap.size + 1 from by simp] at h_)
          have zz := blk_lt BR.out
          have zf := fun j => blk_frozen BR.out j
          obtain ⟨z0, z1, z2, z3, z4, z5⟩ := blk6 BA.out
          obtain ⟨y0, y1, y2, y3, y4, y5⟩ := blk6 BR.out
          clear hb1 HA BR0
          go_wp2_with fail
          refine (c52 _).mono ?_
          rintro e w2 ⟨rfl, hb2⟩
          have HB2 := Lib.hid (below_step HB1.out hb2)
          have HR2 := Lib.hid (lr_below HR1.out hb2)
          have BR2 := Lib.hid (blk_below BR.out hb2)
          clear zz zf z0 z1 z2 z3 z4 z5 y0 y1 y2 y3 y4 y5 hb2 BA
          have zz := blk_lt BR2.out
          have zf := fun j => blk_frozen BR2.out j
          obtain ⟨y0, y1, y2, y3, y4, y5⟩ := blk6 BR2.out
          go_wp2_with fail
          refine bodyPost_ret (results_ct rfl _ _ (W.heap.size + 1) 25 #[.string n, .int .i64 v, .slice A L.length c, .int .i64 1, .int .i64 a2, .int .i64 0] (0, 0) _ rfl (six_K BR2.out) Tryd.underlying25 rfl (by kernel_rfl)) rfl ?_
          exact ⟨A, c, rfl, six_R HR2.out BR2.out, six_B HB2.out (Nat.le_succ _)⟩
        · have h := HH.out
          rw [if_pos rfl, show stepS st 1 = none from by simp [stepS, s0]] at h
          simp only [Option.some.injEq, Prod.mk.injEq] at h
          obtain ⟨rfl, rfl, rfl, rfl, rfl, rfl, rfl⟩ := h
          clear HH
          have s0b : (st == 0) = false := beq_eq_false_iff_ne.mpr s0
          have s0c : (st != 0) = true := by simp [s0]
          clear s0
          go_enter Tryd.func19, Tryd.ntmps19
          go_wp2_with fail
          have HA := Lib.hid (lr_below hR (below_alloc (below_alloc (Below.refl _ _) (.cells #[.string n, .int .i64 v, .slice A L.length c, .int .i64 st, .int .i64 si, .int .i64 lv] 25)) (.cells #[.string ⟨#[]⟩, .int .i64 0, .slice none 0 0, .int .i64 0, .int .i64 0, .int .i64 0] 25)))
          refine (c51 _ HA.out hb).mono ?_
          rintro e w1 ⟨rfl, hb1⟩
          have HB1 := Lib.hid (below_step (below_alloc (below_alloc (Below.refl _ _) _) _) hb1)
          have HR1 := Lib.hid (lr_below HA.out hb1)
          have BA := Lib.hid (blk_below (blk_old (blk_new W #[.string n, .int .i64 v, .slice A L.length c, .int .i64 st, .int .i64 si, .int .i64 lv] 25) (.cells #[.string ⟨#[]⟩, .int .i64 0, .slice none 0 0, .int .i64 0, .int .i64 0, .int .i64 0] 25)) hb1)
          have BR0 := Lib.hid (blk_below (blk_new (W.alloc (.cells #[.string n, .int .i64 v, .slice A L.length c, .int .i64 st, .int .i64 si, .int .i64 lv] 25)) #[.string ⟨#[]⟩, .int .i64 0, .slice none 0 0, .int .i64 0, .int .i64 0, .int .i64 0] 25) hb1)
          have BR := Lib.hid (show w1.heap[W.heap.size + 1]? = some (.cells #[.string ⟨#[]⟩, .int .i64 0, .slice none 0 0, .int .i64 0, .int .i64 0, .int .i64 0] 25 (0, 0)) from by have h_ := BR0.out; rwa [show (W.alloc _).heap.size = W.heap.size + 1 from by simp] at h_)
          have zz := blk_lt BR.out
          have zf := fun j => blk_frozen BR.out j
          obtain ⟨z0, z1, z2, z3, z4, z5⟩ := blk6 BA.out
          obtain ⟨y0, y1, y2, y3, y4, y5⟩ := blk6 BR.out
          clear hb1 HA BR0
          go_wp2_with fail
          refine bodyPost_ret (results_ct rfl _ _ (W.heap.size + 1) 25 #[.string n, .int .i64 v, .slice A L.length c, .int .i64 st, .int .i64 si, .int .i64 lv] (0, 0) _ rfl (six_K BR.out) Tryd.underlying25 rfl (by kernel_rfl)) rfl ?_
          exact ⟨A, c, rfl, six_R HR1.out BR.out, six_B HB1.out (Nat.le_succ _)⟩
      · by_cases e0 : a1 = 0
        · subst e0
          by_cases s0 : st = 0
          · subst s0
            have h := HH.out
            rw [if_pos rfl, show stepS 0 0 = none from by simp [stepS]] at h
            simp only [Option.some.injEq, Prod.mk.injEq] at h
            obtain ⟨rfl, rfl, rfl, rfl, rfl, rfl, rfl⟩ := h
            clear HH
            go_enter Tryd.func19, Tryd.ntmps19
            go_wp2_with fail
            have HA := Lib.hid (lr_below hR (below_alloc (below_alloc (Below.refl _ _) (.cells #[.string n, .int .i64 v, .slice A L.length c, .int .i64 0, .int .i64 si, .int .i64 lv] 25)) (.cells #[.string ⟨#[]⟩, .int .i64 0, .slice none 0 0, .int .i64 0, .int .i64 0, .int .i64 0] 25)))
            refine (c51 _ HA.out hb).mono ?_
            rintro e w1 ⟨rfl, hb1⟩
            have HB1 := Lib.hid (below_step (below_alloc (below_alloc (Below.refl _ _) _) _) hb1)
            have HR1 := Lib.hid (lr_below HA.out hb1)
            have BA := Lib.hid (blk_below (blk_old (blk_new W #[.string n, .int .i64 v, .slice A L.length c, .int .i64 0, .int .i64 si, .int .i64 lv] 25) (.cells #[.string ⟨#[]⟩, .int .i64 0, .slice none 0 0, .int .i64 0, .int .i64 0, .int .i64 0] 25)) hb1)
            have BR0 := Lib.hid (blk_below (blk_new (W.alloc (.cells #[.string n, .int .i64 v, .slice A L.length c, .int .i64 0, .int .i64 si, .int .i64 lv] 25)) #[.string ⟨#[]⟩, .int .i64 0, .slice none 0 0, .int .i64 0, .int .i64 0, .int .i64 0] 25) hb1)
            have BR := Lib.hid (show w1.heap[W.heap.size + 1]? = some (.cells #[.string ⟨#[]⟩, .int .i64 0, .slice none 0 0, .int .i64 0, .int .i64 0, .int .i64 0] 25 (0, 0)) from by have h_ := BR0.out; rwa [show (W.alloc _).heap.size = W.heap.size + 1 from by simp] at h_)
            have zz := blk_lt BR.out
            have zf := fun j => blk_frozen BR.out j
            obtain ⟨z0, z1, z2, z3, z4, z5⟩ := blk6 BA.out
            obtain ⟨y0, y1, y2, y3, y4, y5⟩ := blk6 BR.out
            clear hb1 HA BR0
            go_wp2_with fail
            refine bodyPost_ret (results_ct rfl _ _ (W.heap.size + 1) 25 #[.string n, .int .i64 v, .slice A L.length c, .int .i64 0, .int .i64 si, .int .i64 lv] (0, 0) _ rfl (six_K BR.out) Tryd.underlying25 rfl (by kernel_rfl)) rfl ?_
            exact ⟨A, c, rfl, six_R HR1.out BR.out, six_B HB1.out (Nat.le_succ _)⟩
          · have h := HH.out
            rw [if_pos rfl, show stepS st 0 = some (0, false) from by simp [stepS, s0]] at h
            simp only [Option.some.injEq, Prod.mk.injEq] at h
            obtain ⟨rfl, rfl, rfl, rfl, rfl, rfl, rfl⟩ := h
            clear HH
            have s0b : (st == 0) = false := beq_eq_false_iff_ne.mpr s0
            have s0c : (st != 0) = true := by simp [s0]
            clear s0
            go_enter Tryd.func19, Tryd.ntmps19
            go_wp2_with fail
            have HA := Lib.hid (lr_below hR (below_alloc (below_alloc (Below.refl _ _) (.cells #[.string n, .int .i64 v, .slice A L.length c, .int .i64 st, .int .i64 si, .int .i64 lv] 25)) (.cells #[.string ⟨#[]⟩, .int .i64 0, .slice none 0 0, .int .i64 0, .int .i64 0, .int .i64 0] 25)))
            refine (c51 _ HA.out hb).mono ?_
            rintro e w1 ⟨rfl, hb1⟩
            have HB1 := Lib.hid (below_step (below_alloc (below_alloc (Below.refl _ _) _) _) hb1)
            have HR1 := Lib.hid (lr_below HA.out hb1)
            have BA := Lib.hid (blk_below (blk_old (blk_new W #[.string n, .int .i64 v, .slice A L.length c, .int .i64 st, .int .i64 si, .int .i64 lv] 25) (.cells #[.string ⟨#[]⟩, .int .i64 0, .slice none 0 0, .int .i64 0, .int .i64 0, .int .i64 0] 25)) hb1)
            have BR0 := Lib.hid (blk_below (blk_new (W.alloc (.cells #[.string n, .int .i64 v, .slice A L.length c, .int .i64 st, .int .i64 si, .int .i64 lv] 25)) #[.string ⟨#[]⟩, .int .i64 0, .slice none 0 0, .int .i64 0, .int .i64 0, .int .i64 0] 25) hb1)
            have BR := Lib.hid (show w1.heap[W.heap.size + 1]? = some (.cells #[.string ⟨#[]⟩, .int .i64 0, .slice none 0 0, .int .i64 0, .int .i64 0, .int .i64 0] 25 (0, 0)) from by have h_ := BR0.out; rwa [show (W.alloc _).heap.size = W.heap.size + 1 from by simp] at h_)
            have zz := blk_lt BR.out
            have zf := fun j => blk_frozen BR.out j
            obtain ⟨z0, z1, z2, z3, z4, z5⟩ := blk6 BA.out
            obtain ⟨y0, y1, y2, y3, y4, y5⟩ := blk6 BR.out
            clear hb1 HA BR0
            go_wp2_with fail
            refine (c52 _).mono ?_
            rintro e w2 ⟨rfl, hb2⟩
            have HB2 := Lib.hid (below_step HB1.out hb2)
            have HR2 := Lib.hid (lr_below HR1.out hb2)
            have BR2 := Lib.hid (blk_below BR.out hb2)
            clear zz zf z0 z1 z2 z3 z4 z5 y0 y1 y2 y3 y4 y5 hb2 BA
            have zz := blk_lt BR2.out
            have zf := fun j => blk_frozen BR2.out j
            obtain ⟨y0, y1, y2, y3, y4, y5⟩ := blk6 BR2.out
            go_wp2_with fail
            refine bodyPost_ret (results_ct rfl _ _ (W.heap.size + 1) 25 #[.string n, .int .i64 v, .slice A L.length c, .int .i64 0, .int .i64 a2, .int .i64 0] (0, 0) _ rfl (six_K BR2.out) Tryd.underlying25 rfl (by kernel_rfl)) rfl ?_
            exact ⟨A, c, rfl, six_R HR2.out BR2.out, six_B HB2.out (Nat.le_succ _)⟩
        · have h := HH.out
          rw [if_pos rfl, show stepS st a1 = none from by simp [stepS, e0, e1, e2]] at h
          simp only [Option.some.injEq, Prod.mk.injEq] at h
          obtain ⟨rfl, rfl, rfl, rfl, rfl, rfl, rfl⟩ := h
          clear HH
          have e0b : (a1 == 0) = false := beq_eq_false_iff_ne.mpr e0
          have e1b : (a1 == 1) = false := beq_eq_false_iff_ne.mpr e1
          have e2b : (a1 == 2) = false := beq_eq_false_iff_ne.mpr e2
          clear e0 e1 e2
          go_enter Tryd.func19, Tryd.ntmps19
          go_wp2_with fail
          have HA := Lib.hid (lr_below hR (below_alloc (below_alloc (Below.refl _ _) (.cells #[.string n, .int .i64 v, .slice A L.length c, .int .i64 st, .int .i64 si, .int .i64 lv] 25)) (.cells #[.string ⟨#[]⟩, .int .i64 0, .slice none 0 0, .int .i64 0, .int .i64 0, .int .i64 0] 25)))
          refine (c51 _ HA.out hb).mono ?_
          rintro e w1 ⟨rfl, hb1⟩
          have HB1 := Lib.hid (below_step (below_alloc (below_alloc (Below.refl _ _) _) _) hb1)
          have HR1 := Lib.hid (lr_below HA.out hb1)
          have BA := Lib.hid (blk_below (blk_old (blk_new W #[.string n, .int .i64 v, .slice A L.length c, .int .i64 st, .int .i64 si, .int .i64 lv] 25) (.cells #[.string ⟨#[]⟩, .int .i64 0, .slice none 0 0, .int .i64 0, .int .i64 0, .int .i64 0] 25)) hb1)
          have BR0 := Lib.hid (blk_below (blk_new (W.alloc (.cells #[.string n, .int .i64 v, .slice A L.length c, .int .i64 st, .int .i64 si, .int .i64 lv] 25)) #[.string ⟨#[]⟩, .int .i64 0, .slice none 0 0, .int .i64 0, .int .i64 0, .int .i64 0] 25) hb1)
          have BR := Lib.hid (show w1.heap[W.heap.size + 1]? = some (.cells #[.string ⟨#[]⟩, .int .i64 0, .slice none 0 0, .int .i64 0, .int .i64 0, .int .i64 0] 25 (0, 0)) from by have h_ := BR0.out; rwa [show (W.alloc _).heap.size = W.heap.size + 1 from by simp] at h_)
          have zz := blk_lt BR.out
          have zf := fun j => blk_frozen BR.out j
          obtain ⟨z0, z1, z2, z3, z4, z5⟩ := blk6 BA.out
          obtain ⟨y0, y1, y2, y3, y4, y5⟩ := blk6 BR.out
          clear hb1 HA BR0
          go_wp2_with fail
          refine bodyPost_ret (results_ct rfl _ _ (W.heap.size + 1) 25 #[.string n, .int .i64 v, .slice A L.length c, .int .i64 st, .int .i64 si, .int .i64 lv] (0, 0) _ rfl (six_K BR.out) Tryd.underlying25 rfl (by kernel_rfl)) rfl ?_
          exact ⟨A, c, rfl, six_R HR1.out BR.out, six_B HB1.out (Nat.le_succ _)⟩
end lk
end Go.Proofs.YtbbddeilbcpmiaaDoor.Q
