/- The walk of the law AlertStep. -/
import Derived.Test.YtbbddeilbcpmiaaDoorMLawKit
import Derived.Test.YtbbddeilbcpmiaaDoorQ17
import Derived.Test.YtbbddeilbcpmiaaDoorMRefStep
namespace Go.Proofs.YtbbddeilbcpmiaaDoor.Q
open Go.RowKit Go.Proofs.YtbbddeilbcpmiaaDoorW.PrintWords Go.Proofs.YtbbddeilbcpmiaaDoorW.PrintLast Go.Proofs.YtbbddeilbcpmiaaDoorW.PrintMore
namespace lk
theorem c18 {k : Nat} {n n' : ByteArray} {v v' : Int} {A : Option Addr} {c : Nat} {L L' : List S35} {st si lv st' si' lv' a1 a2 : Int} {r : Bool} (W : World) {base : Nat} (hLd : Allowed W) (hR : LR W base A c L) (h : alert_Step.f k n v L st si lv a1 a2 = some (n', v', L', st', si', lv', r)) :
    Calls Tryd.prog 18 #[.agg #[.string n, .int .i64 v, .slice A L.length c, .int .i64 st, .int .i64 si, .int .i64 lv], .int .i64 a1, .int .i64 a2] W fun e w' => ∃ A' c', e = .returned (.tuple #[.agg #[.string n', .int .i64 v', .slice A' L'.length c', .int .i64 st', .int .i64 si', .int .i64 lv'], .bool r]) ∧ LR w' W.heap.size A' c' L' ∧ Below W.heap.size W w' := by
  refine (alert_Step.calls k n v A c L st si lv a1 a2 n' v' L' st' si' lv' r W hLd (lr_C hR) (lr_le hR) h).mono ?_
  rintro e w' ⟨u, rfl, hR, hb⟩
  obtain ⟨A', c', rfl, hR2⟩ := lr_of hR
  exact ⟨A', c', rfl, hR2, hb⟩
end lk
open lk
/-- What the law asks of one alert. -/
structure StepGood (k : Nat) (n : ByteArray) (v : Int) (L : List S35) (st si lv a3 a4 : Int) : Prop where
  ex : ∃ (n1 : ByteArray) (v1 : Int) (st1 si1 lv1 : Int) (n2 : ByteArray) (v2 : Int) (L2 : List S35) (st2 si2 lv2 : Int) (r : Bool), alert_Step.f k n v L st si lv a3 a4 = some (n1, v1, L, st1, si1, lv1, r) ∧ intervalmonref28_Step.g k n v L st si lv a3 a4 = some (n2, v2, L2, st2, si2, lv2, r) ∧ intervalmonref28_Same.f k n1 v1 L st1 si1 lv1 n2 v2 L2 st2 si2 lv2 = some true
  vok : 0 < L.length → (rd_T35 L 0).f1.toList ≠ [115, 112, 111, 105, 108, 101, 100]
set_option maxHeartbeats 4000000 in
set_option maxRecDepth 100000 in
theorem intervalmonlaw28_AlertStep.calls (k : Nat) (A0 : Option Addr) (c0 : Nat) (l0 : List Int) (a1 a2 a3 a4 : Int) (n : ByteArray) (v : Int) (L : List S35) (st si lv : Int) (n' : ByteArray) (v' : Int) (L' : List S35) (st' si' lv' : Int) (w : World) (hLd : Allowed w) (hr : Kd.C (Kd.int .i64) w A0 l0.length l0) (hc : l0.length ≤ c0)
    (h13 : intervalmonref28_Alert.f k l0 = some (n, v, L, st, si, lv)) (h14 : intervalmonlaw28_bent.f k n v L st si lv a1 a2 l0 = some (n', v', L', st', si', lv')) (g : StepGood k n v L st si lv a3 a4) (g' : StepGood k n' v' L' st' si' lv' a3 a4) (h17 : intervalmonlaw28_lives.f = some true) :
    Calls Tryd.prog 4 #[.slice A0 l0.length c0, .int .i64 a1, .int .i64 a2, .int .i64 a3, .int .i64 a4] w fun e w' => e = .returned (.bool true) ∧ Below w.heap.size w w' := by
  have HLd := Lib.hid hLd
  have HR := Lib.hid hr
  have HC := Lib.hid hc
  have H13 := Lib.hid h13
  have H14 := Lib.hid h14
  have G := Lib.hid g
  have G' := Lib.hid g'
  have H17 := Lib.hid h17
  clear hLd hr hc h13 h14 g g' h17
  go_enter Tryd.func4, Tryd.ntmps4
  go_wp2
  go_loopw [11] (fun i W => ∃ j : Nat, j ≤ 2 ∧ i = .int .i64 j ∧ Below w.heap.size w W) (fun i _ => 2 - (intOf i).toNat)
  case atStart => exact ⟨0, by omega, rfl, Below.refl _ _⟩
  case round =>
    obtain ⟨j, hj, rfl, hB⟩ := hrel
    have HB := Lib.hid hB
    clear hB
    have hj3 : j = 0 ∨ j = 1 ∨ j = 2 := by omega
    clear hj
    rcases hj3 with rfl | rfl | rfl
    · go_wp2_with fail
      refine (c13 w _ HB.out HR.out HC.out H13.out).mono ?_
      rintro e w1 ⟨A, c, rfl, hR1, hb1⟩
      have HR1 := Lib.hid hR1
      have HB1 := Lib.hid (below_step HB.out hb1)
      clear hR1 hb1 HB
      obtain ⟨n1, v1, st1, si1, lv1, n2, v2, L2, st2, si2, lv2, r, g1, g2, g3⟩ := G.out.ex
      have G1 := Lib.hid g1
      have G2 := Lib.hid g2
      have G3 := Lib.hid g3
      have GV := Lib.hid G.out.vok
      clear g1 g2 g3 G G'
      go_wp2_with fail
      have SZ := Lib.hid (below_alloc HB1.out (.cells #[.string n, .int .i64 v, .slice A L.length c, .int .i64 st, .int .i64 si, .int .i64 lv] 25)).size
      refine (c18 _ (HLd.out.below (below_alloc HB1.out _)) (lr_below HR1.out (below_alloc (Below.refl _ _) _)) G1.out).mono ?_
      rintro e w2 ⟨A1, c1, rfl, hR2, hb2⟩
      have HR2 := Lib.hid hR2
      have HRa := Lib.hid (lr_below (lr_below HR1.out (below_alloc (Below.refl _ _) _)) hb2)
      have HB2 := Lib.hid (below_step (below_alloc HB1.out _) hb2)
      have BK := Lib.hid (blk_below (blk_new w1 _ 25) hb2)
      have HF := Lib.hid (fun h => lr_form (lr_below HR1.out (below_alloc (Below.refl _ _) (.cells #[.string n, .int .i64 v, .slice A L.length c, .int .i64 st, .int .i64 si, .int .i64 lv] 25))) h)
      have HQ := Lib.hid hb2
      clear hR2 hb2 HB1 HR1
      have zz := blk_lt BK.out
      obtain ⟨z0, z1, z2, z3, z4, z5⟩ := blk6 BK.out
      go_wp2_with fail
      refine (c19 w _ (below_alloc HB2.out _) (lr_below HRa.out (below_alloc (Below.refl _ _) _)) G2.out).mono ?_
      rintro e w3 ⟨A2, c2, rfl, hR3, hb3⟩
      have HR3 := Lib.hid hR3
      have HRb := Lib.hid (lr_below (lr_below HR2.out (below_alloc (Below.refl _ _) _)) hb3)
      have HB3 := Lib.hid (below_step (below_alloc HB2.out _) hb3)
      have BK2 := Lib.hid (blk_below (blk_new w2 _ 25) hb3)
      have BK1 := Lib.hid (blk_below (blk_old BK.out _) hb3)
      have HS := Lib.hid (below_step (below_alloc HQ.out _) hb3)
      clear z0 z1 z2 z3 z4 z5 zz
      have zz := blk_lt BK2.out
      obtain ⟨z0, z1, z2, z3, z4, z5⟩ := blk6 BK2.out
      clear hR3 hb3 HB2 HR2 BK HRa HQ
      go_wp2_with fail
      refine (c20 _ (lr_below HRb.out (below_alloc (Below.refl _ _) _)) (lr_below HR3.out (below_alloc (Below.refl _ _) _)) G3.out).mono ?_
      rintro e w4 ⟨rfl, hb4⟩
      have HB4 := Lib.hid (below_step (below_alloc HB3.out _) hb4)
      have HRc := Lib.hid (lr_below (lr_below HRb.out (below_alloc (Below.refl _ _) _)) hb4)
      have BK3 := Lib.hid (blk_below (blk_old BK2.out _) hb4)
      have BK4 := Lib.hid (blk_below (blk_old BK1.out _) hb4)
      have HT := Lib.hid (below_step (below_alloc HS.out _) hb4)
      clear hb4 HB3 HR3 HRb BK2 BK1 HS z0 z1 z2 z3 z4 z5 zz
      obtain ⟨x0, x1, x2, x3, x4, x5⟩ := blk6 BK3.out
      obtain ⟨y0, y1, y2, y3, y4, y5⟩ := blk6 BK4.out
      by_cases hl : L.length = 0
      · have hl2 : decide (0 < L.length) = false := by simp [hl]
        clear hl
        go_wp2_with fail
        go_roundw
        case rel => exact ⟨1, by omega, rfl, HB4.out⟩
        case measure => simp [intOf]
      · have hl0 : 0 < L.length := by omega
        obtain ⟨ga, cura, rfl, ga0, ga1, ga2⟩ := HF.out hl0
        obtain ⟨gx, curx, rfl, gx0, gx1, gx2⟩ := lr_form HRc.out hl0
        have ha := blk_lt ga1
        have hax : ga ≠ gx := by omega
        have hxf := blk_frozen gx1 1
        have hav : w4.cell? ⟨ga, 1, none⟩ = some (.string (rd_T35 L 0).f1) := (HT.out.cell ha).trans ga2
        have hsp : ((rd_T35 L 0).f1.toList == [115, 112, 111, 105, 108, 101, 100]) = false := beq_eq_false_iff_ne.mpr (GV.out hl0)
        have HBf := Lib.hid (below_set (j := 1) (v := .string ⟨#[115, 112, 111, 105, 108, 101, 100]⟩) HB4.out (Nat.le_trans SZ.out gx0))
        clear ga0 ga1 ga2 gx0 gx1 ha hl
        go_wp2_with fail
        go_roundw
        case rel => exact ⟨1, by omega, rfl, HBf.out⟩
        case measure => simp [intOf]
    · go_wp2_with fail
      refine (c13 w _ HB.out HR.out HC.out H13.out).mono ?_
      rintro e w1 ⟨A, c, rfl, hR1, hb1⟩
      have HR1 := Lib.hid hR1
      have HB1 := Lib.hid (below_step HB.out hb1)
      clear hR1 hb1 HB
      go_wp2_with fail
      refine (c14 w _ (below_alloc HB1.out _) (lr_below HR1.out (below_alloc (Below.refl _ _) _)) HR.out HC.out H14.out).mono ?_
      rintro e w5 ⟨A', c', rfl, hR1, hb1⟩
      have HR5 := Lib.hid hR1
      have HB5 := Lib.hid (below_step (below_alloc HB1.out _) hb1)
      have BK := Lib.hid (blk_below (blk_new w1 _ 25) hb1)
      have GE := Lib.hid HB1.out.size
      have zz := blk_lt BK.out
      have zf := fun j => blk_frozen BK.out j
      obtain ⟨z0, z1, z2, z3, z4, z5⟩ := blk6 BK.out
      clear hR1 hb1 HB1 HR1
      go_wp2_with fail
      have HB6 := Lib.hid (six_B (v0 := .string n') (v1 := .int .i64 v') (v2 := .slice A' L'.length c') (v3 := .int .i64 st') (v4 := .int .i64 si') (v5 := .int .i64 lv') HB5.out GE.out)
      have HR6 := Lib.hid (six_R (v0 := .string n') (v1 := .int .i64 v') (v2 := .slice A' L'.length c') (v3 := .int .i64 st') (v4 := .int .i64 si') (v5 := .int .i64 lv') HR5.out BK.out)
      have BK6 := Lib.hid (six_K (v0 := .string n') (v1 := .int .i64 v') (v2 := .slice A' L'.length c') (v3 := .int .i64 st') (v4 := .int .i64 si') (v5 := .int .i64 lv') BK.out)
      clear HB5 HR5 BK GE zf z0 z1 z2 z3 z4 z5 zz
      obtain ⟨n1, v1, st1, si1, lv1, n2, v2, L2, st2, si2, lv2, r, g1, g2, g3⟩ := G'.out.ex
      have G1 := Lib.hid g1
      have G2 := Lib.hid g2
      have G3 := Lib.hid g3
      have GV := Lib.hid G'.out.vok
      clear g1 g2 g3 G G'
      have SZ := Lib.hid HB6.out.size
      refine (c18 _ (HLd.out.below HB6.out) HR6.out G1.out).mono ?_
      rintro e w2 ⟨A1, c1, rfl, hR2, hb2⟩
      have HR2 := Lib.hid hR2
      have HRa := Lib.hid (lr_below HR6.out hb2)
      have HB2 := Lib.hid (below_step HB6.out hb2)
      have BK := Lib.hid (blk_below BK6.out hb2)
      have HF := Lib.hid (fun h => lr_form HR6.out h)
      have HQ := Lib.hid hb2
      clear hR2 hb2 HB6 HR6 BK6
      have zz := blk_lt BK.out
      obtain ⟨z0, z1, z2, z3, z4, z5⟩ := blk6 BK.out
      go_wp2_with fail
      refine (c19 w _ (below_alloc HB2.out _) (lr_below HRa.out (below_alloc (Below.refl _ _) _)) G2.out).mono ?_
      rintro e w3 ⟨A2, c2, rfl, hR3, hb3⟩
      have HR3 := Lib.hid hR3
      have HRb := Lib.hid (lr_below (lr_below HR2.out (below_alloc (Below.refl _ _) _)) hb3)
      have HB3 := Lib.hid (below_step (below_alloc HB2.out _) hb3)
      have BK2 := Lib.hid (blk_below (blk_new w2 _ 25) hb3)
      have BK1 := Lib.hid (blk_below (blk_old BK.out _) hb3)
      have HS := Lib.hid (below_step (below_alloc HQ.out _) hb3)
      clear z0 z1 z2 z3 z4 z5 zz
      have zz := blk_lt BK2.out
      obtain ⟨z0, z1, z2, z3, z4, z5⟩ := blk6 BK2.out
      clear hR3 hb3 HB2 HR2 BK HRa HQ
      go_wp2_with fail
      refine (c20 _ (lr_below HRb.out (below_alloc (Below.refl _ _) _)) (lr_below HR3.out (below_alloc (Below.refl _ _) _)) G3.out).mono ?_
      rintro e w4 ⟨rfl, hb4⟩
      have HB4 := Lib.hid (below_step (below_alloc HB3.out _) hb4)
      have HRc := Lib.hid (lr_below (lr_below HRb.out (below_alloc (Below.refl _ _) _)) hb4)
      have BK3 := Lib.hid (blk_below (blk_old BK2.out _) hb4)
      have BK4 := Lib.hid (blk_below (blk_old BK1.out _) hb4)
      have HT := Lib.hid (below_step (below_alloc HS.out _) hb4)
      clear hb4 HB3 HR3 HRb BK2 BK1 HS z0 z1 z2 z3 z4 z5 zz
      obtain ⟨x0, x1, x2, x3, x4, x5⟩ := blk6 BK3.out
      obtain ⟨y0, y1, y2, y3, y4, y5⟩ := blk6 BK4.out
      by_cases hl : L'.length = 0
      · have hl2 : decide (0 < L'.length) = false := by simp [hl]
        clear hl
        go_wp2_with fail
        go_roundw
        case rel => exact ⟨2, by omega, rfl, HB4.out⟩
        case measure => simp [intOf]
      · have hl0 : 0 < L'.length := by omega
        obtain ⟨ga, cura, rfl, ga0, ga1, ga2⟩ := HF.out hl0
        obtain ⟨gx, curx, rfl, gx0, gx1, gx2⟩ := lr_form HRc.out hl0
        have ha := blk_lt ga1
        have hax : ga ≠ gx := by omega
        have hxf := blk_frozen gx1 1
        have hav : w4.cell? ⟨ga, 1, none⟩ = some (.string (rd_T35 L' 0).f1) := (HT.out.cell ha).trans ga2
        have hsp : ((rd_T35 L' 0).f1.toList == [115, 112, 111, 105, 108, 101, 100]) = false := beq_eq_false_iff_ne.mpr (GV.out hl0)
        have HBf := Lib.hid (below_set (j := 1) (v := .string ⟨#[115, 112, 111, 105, 108, 101, 100]⟩) HB4.out (Nat.le_trans SZ.out gx0))
        clear ga0 ga1 ga2 gx0 gx1 ha hl
        go_wp2_with fail
        go_roundw
        case rel => exact ⟨2, by omega, rfl, HBf.out⟩
        case measure => simp [intOf]
    · go_wp2_with fail
      refine (c17 _ (HLd.out.below HB.out) H17.out).mono ?_
      rintro e w9 ⟨rfl, hb9⟩
      have HB9 := Lib.hid (below_step HB.out hb9)
      clear hb9 HB
      go_wp2_with fail
      go_ret
      exact ⟨rfl, HB9.out⟩

/-- The plain statement of intervalmonlaw28_AlertStep. -/
def intervalmonlaw28_AlertStep.Pure : Prop := ∀ (l0 : List Int) (a1 a2 a3 a4 : Int), l0.length ≤ maxLen → l0.length * 8 ≤ 140737488351232 → (∀ x ∈ l0, (Lit.int .i64 x).wf = true) → (Lit.int .i64 a1).wf = true → (Lit.int .i64 a2).wf = true → (Lit.int .i64 a3).wf = true → (Lit.int .i64 a4).wf = true → ∃ k n v L st si lv n' v' L' st' si' lv', intervalmonref28_Alert.f k l0 = some (n, v, L, st, si, lv) ∧ intervalmonlaw28_bent.f k n v L st si lv a1 a2 l0 = some (n', v', L', st', si', lv') ∧ StepGood k n v L st si lv a3 a4 ∧ StepGood k n' v' L' st' si' lv' a3 a4
theorem intervalmonlaw28_AlertStep.walk (P : intervalmonlaw28_AlertStep.Pure) (a0 : Option Addr) (len0 cap0 : Nat) (z0 : List Int) (a1 a2 a3 a4 : Int) (w : World) (hLd : Allowed w) (w0 : (a0 = none ∧ len0 = 0 ∧ cap0 = 0 ∧ z0 = []) ∨ ∃ x, a0 = some x ∧ len0 ≤ cap0 ∧ cap0 ≤ maxLen ∧ z0.length = cap0 ∧ (∀ i, i < z0.length → w.cell? (x.add i) = some (.int .i64 (z0.getD i 0))) ∧ ∀ n ∈ z0, (Lit.int .i64 n).wf = true) (y0 : len0 * 8 ≤ 140737488351232) (w1 : (Lit.int .i64 a1).wf = true) (w2 : (Lit.int .i64 a2).wf = true) (w3 : (Lit.int .i64 a3).wf = true) (w4 : (Lit.int .i64 a4).wf = true) :
    Calls Tryd.prog 4 #[.slice a0 len0 cap0, .int .i64 a1, .int .i64 a2, .int .i64 a3, .int .i64 a4] w fun e w' => e = .returned (.bool true) ∧ Below w.heap.size w w' := by
  obtain ⟨l0, rfl, hr0, hm0, hw0, hc0⟩ := ReadsInt.ofRowC w0
  obtain ⟨k, n, v, L, st, si, lv, n', v', L', st', si', lv', h13, h14, g, g'⟩ := P l0 a1 a2 a3 a4 hm0 y0 hw0 w1 w2 w3 w4
  exact intervalmonlaw28_AlertStep.calls k _ _ l0 a1 a2 a3 a4 n v L st si lv n' v' L' st' si' lv' w hLd (Kd.C_of_reads (d := (0 : Int)) (h1 := fun _ => rfl) hr0) hc0 h13 h14 g g' rfl
end Go.Proofs.YtbbddeilbcpmiaaDoor.Q
