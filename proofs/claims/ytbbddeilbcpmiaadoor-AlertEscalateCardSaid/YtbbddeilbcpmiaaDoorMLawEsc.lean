/- The walk of the law AlertEscalate. -/
import Derived.Test.YtbbddeilbcpmiaaDoorMLawKit
import Derived.Test.YtbbddeilbcpmiaaDoorQ21
import Derived.Test.YtbbddeilbcpmiaaDoorMRefEsc
namespace Go.Proofs.YtbbddeilbcpmiaaDoor.Q
open Go.RowKit Go.Proofs.YtbbddeilbcpmiaaDoorW.PrintWords Go.Proofs.YtbbddeilbcpmiaaDoorW.PrintLast Go.Proofs.YtbbddeilbcpmiaaDoorW.PrintMore
namespace lk
theorem c21 {k : Nat} {n n' : ByteArray} {v v' : Int} {A : Option Addr} {c : Nat} {L L' : List S35} {st si lv st' si' lv' a1 a2 a3 : Int} {r : Bool} (w0 W : World) (hB : Below w0.heap.size w0 W) (hLd : Allowed W) (hR : LR W w0.heap.size A c L) (h : alert_Escalate.f k n v L st si lv a1 a2 a3 = some (n', v', L', st', si', lv', r)) :
    Calls Tryd.prog 21 #[.agg #[.string n, .int .i64 v, .slice A L.length c, .int .i64 st, .int .i64 si, .int .i64 lv], .int .i64 a1, .int .i64 a2, .int .i64 a3] W fun e w' => ∃ A' c', e = .returned (.tuple #[.agg #[.string n', .int .i64 v', .slice A' L'.length c', .int .i64 st', .int .i64 si', .int .i64 lv'], .bool r]) ∧ LR w' w0.heap.size A' c' L' ∧ Below W.heap.size W w' := by
  refine (alert_Escalate.calls k n v A c L st si lv a1 a2 a3 n' v' L' st' si' lv' r W hLd (lr_C hR) (lr_le hR) h).mono ?_
  rintro e w' ⟨u, rfl, hR, hb⟩
  obtain ⟨A', c', rfl, hR2⟩ := lr_of hR
  exact ⟨A', c', rfl, Kd.R_lower hR2 hB.size, hb⟩
theorem blk3 {W : World} {g : Nat} {t : TypeId} {v0 v1 v2 : Value} (h : W.heap[g]? = some (.cells #[v0, v1, v2] t (0, 0))) : W.cell? ⟨g, 0, none⟩ = some v0 ∧ W.cell? ⟨g, 1, none⟩ = some v1 ∧ W.cell? ⟨g, 2, none⟩ = some v2 :=
  ⟨(blk_cell h 0).trans rfl, (blk_cell h 1).trans rfl, (blk_cell h 2).trans rfl⟩
end lk
open lk
/-- What the law asks of one alert. -/
structure EscGood (k : Nat) (n : ByteArray) (v : Int) (L : List S35) (st si lv m0 m1 m2 : Int) : Prop where
  ex : ∃ (n1 : ByteArray) (v1 : Int) (L1 : List S35) (st1 si1 lv1 : Int) (n2 : ByteArray) (v2 : Int) (L2 : List S35) (st2 si2 lv2 : Int) (r : Bool), alert_Escalate.f k n v L st si lv m0 m1 m2 = some (n1, v1, L1, st1, si1, lv1, r) ∧ intervalmonref28_Escalate.f k n v L st si lv m0 m1 m2 = some (n2, v2, L2, st2, si2, lv2, r) ∧ intervalmonref28_Same.f k n1 v1 L1 st1 si1 lv1 n2 v2 L2 st2 si2 lv2 = some true
set_option maxHeartbeats 4000000 in
set_option maxRecDepth 100000 in
theorem intervalmonlaw28_AlertEscalate.calls (k : Nat) (A0 : Option Addr) (c0 : Nat) (l0 : List Int) (a1 a2 m0 m1 m2 : Int) (n : ByteArray) (v : Int) (L : List S35) (st si lv : Int) (n' : ByteArray) (v' : Int) (L' : List S35) (st' si' lv' : Int) (w : World) (hLd : Allowed w) (hr : Kd.C (Kd.int .i64) w A0 l0.length l0) (hc : l0.length ≤ c0)
    (h13 : intervalmonref28_Alert.f k l0 = some (n, v, L, st, si, lv)) (h14 : intervalmonlaw28_bent.f k n v L st si lv a1 a2 l0 = some (n', v', L', st', si', lv')) (g : EscGood k n v L st si lv m0 m1 m2) (g' : EscGood k n' v' L' st' si' lv' m0 m1 m2) (h17 : intervalmonlaw28_lives.f = some true) :
    Calls Tryd.prog 5 #[.slice A0 l0.length c0, .int .i64 a1, .int .i64 a2, .agg #[.int .i64 m0, .int .i64 m1, .int .i64 m2]] w fun e w' => e = .returned (.bool true) ∧ Below w.heap.size w w' := by
  have HLd := Lib.hid hLd
  have HR := Lib.hid hr
  have HC := Lib.hid hc
  have H13 := Lib.hid h13
  have H14 := Lib.hid h14
  have G := Lib.hid g
  have G' := Lib.hid g'
  have H17 := Lib.hid h17
  clear hLd hr hc h13 h14 g g' h17
  go_enter Tryd.func5, Tryd.ntmps5
  go_wp2
  go_loopw [9] (fun i W => ∃ j : Nat, j ≤ 2 ∧ i = .int .i64 j ∧ Below w.heap.size w W ∧ W.heap[w.heap.size]? = some (.cells #[.int .i64 m0, .int .i64 m1, .int .i64 m2] 37 (0, 0))) (fun i _ => 2 - (intOf i).toNat)
  case atStart => exact ⟨0, by omega, rfl, below_alloc (Below.refl _ _) _, blk_new _ _ _⟩
  case round =>
    obtain ⟨j, hj, rfl, hB, hM⟩ := hrel
    have HB := Lib.hid hB
    have HM := Lib.hid hM
    clear hB hM
    have hj3 : j = 0 ∨ j = 1 ∨ j = 2 := by omega
    clear hj
    rcases hj3 with rfl | rfl | rfl
    · go_wp2_with fail
      refine (c13 w _ HB.out HR.out HC.out H13.out).mono ?_
      rintro e w1 ⟨A, c, rfl, hR1, hb1⟩
      have HR1 := Lib.hid hR1
      have HB1 := Lib.hid (below_step HB.out hb1)
      have HM1 := Lib.hid (blk_below HM.out hb1)
      have mz := blk_lt HM1.out
      obtain ⟨p0, p1, p2⟩ := blk3 HM1.out
      clear hR1 hb1 HB HM
      obtain ⟨n1, v1, L1, st1, si1, lv1, n2, v2, L2, st2, si2, lv2, r, g1, g2, g3⟩ := G.out.ex
      have G1 := Lib.hid g1
      have G2 := Lib.hid g2
      have G3 := Lib.hid g3
      clear g1 g2 g3 G G'
      go_wp2_with fail
      refine (c21 w _ (below_alloc HB1.out _) (HLd.out.below (below_alloc HB1.out _)) (lr_below HR1.out (below_alloc (Below.refl _ _) _)) G1.out).mono ?_
      rintro e w2 ⟨A1, c1, rfl, hR2, hb2⟩
      have HR2 := Lib.hid hR2
      have HRa := Lib.hid (lr_below (lr_below HR1.out (below_alloc (Below.refl _ _) _)) hb2)
      have HB2 := Lib.hid (below_step (below_alloc HB1.out _) hb2)
      have BK := Lib.hid (blk_below (blk_new w1 _ 25) hb2)
      have HM2 := Lib.hid (blk_below (blk_old HM1.out _) hb2)
      clear hR2 hb2 HB1 HR1 HM1 p0 p1 p2 mz
      have zz := blk_lt BK.out
      obtain ⟨z0, z1, z2, z3, z4, z5⟩ := blk6 BK.out
      have mz := blk_lt HM2.out
      obtain ⟨p0, p1, p2⟩ := blk3 HM2.out
      go_wp2_with fail
      refine (c22 w _ (below_alloc HB2.out _) (lr_below HRa.out (below_alloc (Below.refl _ _) _)) G2.out).mono ?_
      rintro e w3 ⟨A2, c2, rfl, hR3, hb3⟩
      have HR3 := Lib.hid hR3
      have HRb := Lib.hid (lr_below (lr_below HR2.out (below_alloc (Below.refl _ _) _)) hb3)
      have HB3 := Lib.hid (below_step (below_alloc HB2.out _) hb3)
      have BK2 := Lib.hid (blk_below (blk_new w2 _ 25) hb3)
      have HM3 := Lib.hid (blk_below (blk_old HM2.out _) hb3)
      clear z0 z1 z2 z3 z4 z5 zz p0 p1 p2 mz
      have zz := blk_lt BK2.out
      obtain ⟨z0, z1, z2, z3, z4, z5⟩ := blk6 BK2.out
      clear hR3 hb3 HB2 HR2 BK HRa HM2
      go_wp2_with fail
      refine (c20 _ (lr_below HRb.out (below_alloc (Below.refl _ _) _)) (lr_below HR3.out (below_alloc (Below.refl _ _) _)) G3.out).mono ?_
      rintro e w4 ⟨rfl, hb4⟩
      have HB4 := Lib.hid (below_step (below_alloc HB3.out _) hb4)
      have HM4 := Lib.hid (blk_below (blk_old HM3.out _) hb4)
      clear hb4 HB3 HR3 HRb BK2 HM3 z0 z1 z2 z3 z4 z5 zz
      go_wp2_with fail
      go_roundw
      case rel => exact ⟨1, by omega, rfl, HB4.out, HM4.out⟩
      case measure => simp [intOf]
    · go_wp2_with fail
      refine (c13 w _ HB.out HR.out HC.out H13.out).mono ?_
      rintro e w1 ⟨A, c, rfl, hR1, hb1⟩
      have HR1 := Lib.hid hR1
      have HB1 := Lib.hid (below_step HB.out hb1)
      have HM1 := Lib.hid (blk_below HM.out hb1)
      have mz := blk_lt HM1.out
      obtain ⟨p0, p1, p2⟩ := blk3 HM1.out
      clear hR1 hb1 HB HM
      go_wp2_with fail
      refine (c14 w _ (below_alloc HB1.out _) (lr_below HR1.out (below_alloc (Below.refl _ _) _)) HR.out HC.out H14.out).mono ?_
      rintro e w5 ⟨A', c', rfl, hR1, hb1⟩
      have HR5 := Lib.hid hR1
      have HB5 := Lib.hid (below_step (below_alloc HB1.out _) hb1)
      have HM5 := Lib.hid (blk_below (blk_old HM1.out _) hb1)
      have BK := Lib.hid (blk_below (blk_new w1 _ 25) hb1)
      have GE := Lib.hid HB1.out.size
      clear p0 p1 p2
      obtain ⟨p0, p1, p2⟩ := blk3 HM5.out
      have zz := blk_lt BK.out
      have zf := fun j => blk_frozen BK.out j
      obtain ⟨z0, z1, z2, z3, z4, z5⟩ := blk6 BK.out
      clear hR1 hb1 HB1 HR1
      go_wp2_with fail
      have HB6 := Lib.hid (six_B (v0 := .string n') (v1 := .int .i64 v') (v2 := .slice A' L'.length c') (v3 := .int .i64 st') (v4 := .int .i64 si') (v5 := .int .i64 lv') HB5.out GE.out)
      have HR6 := Lib.hid (six_R (v0 := .string n') (v1 := .int .i64 v') (v2 := .slice A' L'.length c') (v3 := .int .i64 st') (v4 := .int .i64 si') (v5 := .int .i64 lv') HR5.out BK.out)
      have BK6 := Lib.hid (six_K (v0 := .string n') (v1 := .int .i64 v') (v2 := .slice A' L'.length c') (v3 := .int .i64 st') (v4 := .int .i64 si') (v5 := .int .i64 lv') BK.out)
      have HM6 := Lib.hid (six_O (v0 := .string n') (v1 := .int .i64 v') (v2 := .slice A' L'.length c') (v3 := .int .i64 st') (v4 := .int .i64 si') (v5 := .int .i64 lv') HM5.out (Nat.ne_of_lt mz))
      clear HB5 HR5 BK GE HM5 HM1 zf z0 z1 z2 z3 z4 z5 zz p0 p1 p2 mz
      obtain ⟨n1, v1, L1, st1, si1, lv1, n2, v2, L2, st2, si2, lv2, r, g1, g2, g3⟩ := G'.out.ex
      have G1 := Lib.hid g1
      have G2 := Lib.hid g2
      have G3 := Lib.hid g3
      clear g1 g2 g3 G G'
      refine (c21 w _ HB6.out (HLd.out.below HB6.out) HR6.out G1.out).mono ?_
      rintro e w2 ⟨A1, c1, rfl, hR2, hb2⟩
      have HR2 := Lib.hid hR2
      have HRa := Lib.hid (lr_below HR6.out hb2)
      have HB2 := Lib.hid (below_step HB6.out hb2)
      have BK := Lib.hid (blk_below BK6.out hb2)
      have HM2 := Lib.hid (blk_below HM6.out hb2)
      clear hR2 hb2 HB6 HR6 BK6 HM6
      have zz := blk_lt BK.out
      obtain ⟨z0, z1, z2, z3, z4, z5⟩ := blk6 BK.out
      have mz := blk_lt HM2.out
      obtain ⟨p0, p1, p2⟩ := blk3 HM2.out
      go_wp2_with fail
      refine (c22 w _ (below_alloc HB2.out _) (lr_below HRa.out (below_alloc (Below.refl _ _) _)) G2.out).mono ?_
      rintro e w3 ⟨A2, c2, rfl, hR3, hb3⟩
      have HR3 := Lib.hid hR3
      have HRb := Lib.hid (lr_below (lr_below HR2.out (below_alloc (Below.refl _ _) _)) hb3)
      have HB3 := Lib.hid (below_step (below_alloc HB2.out _) hb3)
      have BK2 := Lib.hid (blk_below (blk_new w2 _ 25) hb3)
      have HM3 := Lib.hid (blk_below (blk_old HM2.out _) hb3)
      clear z0 z1 z2 z3 z4 z5 zz p0 p1 p2 mz
      have zz := blk_lt BK2.out
      obtain ⟨z0, z1, z2, z3, z4, z5⟩ := blk6 BK2.out
      clear hR3 hb3 HB2 HR2 BK HRa HM2
      go_wp2_with fail
      refine (c20 _ (lr_below HRb.out (below_alloc (Below.refl _ _) _)) (lr_below HR3.out (below_alloc (Below.refl _ _) _)) G3.out).mono ?_
      rintro e w4 ⟨rfl, hb4⟩
      have HB4 := Lib.hid (below_step (below_alloc HB3.out _) hb4)
      have HM4 := Lib.hid (blk_below (blk_old HM3.out _) hb4)
      clear hb4 HB3 HR3 HRb BK2 HM3 z0 z1 z2 z3 z4 z5 zz
      go_wp2_with fail
      go_roundw
      case rel => exact ⟨2, by omega, rfl, HB4.out, HM4.out⟩
      case measure => simp [intOf]
    · go_wp2_with fail
      refine (c17 _ (HLd.out.below HB.out) H17.out).mono ?_
      rintro e w9 ⟨rfl, hb9⟩
      have HB9 := Lib.hid (below_step HB.out hb9)
      clear hb9 HB
      go_wp2_with fail
      go_ret
      exact ⟨rfl, HB9.out⟩

/-- The plain statement of intervalmonlaw28_AlertEscalate. -/
def intervalmonlaw28_AlertEscalate.Pure : Prop := ∀ (l0 : List Int) (a1 a2 m0 m1 m2 : Int), l0.length ≤ maxLen → l0.length * 8 ≤ 140737488351232 → (∀ x ∈ l0, (Lit.int .i64 x).wf = true) → (Lit.int .i64 a1).wf = true → (Lit.int .i64 a2).wf = true → (Lit.int .i64 m0).wf = true → (Lit.int .i64 m1).wf = true → (Lit.int .i64 m2).wf = true → ∃ k n v L st si lv n' v' L' st' si' lv', intervalmonref28_Alert.f k l0 = some (n, v, L, st, si, lv) ∧ intervalmonlaw28_bent.f k n v L st si lv a1 a2 l0 = some (n', v', L', st', si', lv') ∧ EscGood k n v L st si lv m0 m1 m2 ∧ EscGood k n' v' L' st' si' lv' m0 m1 m2
theorem intervalmonlaw28_AlertEscalate.walk (P : intervalmonlaw28_AlertEscalate.Pure) (a0 : Option Addr) (len0 cap0 : Nat) (z0 : List Int) (a1 a2 a3x a3y a3z : Int) (w : World) (hLd : Allowed w) (w0 : (a0 = none ∧ len0 = 0 ∧ cap0 = 0 ∧ z0 = []) ∨ ∃ x, a0 = some x ∧ len0 ≤ cap0 ∧ cap0 ≤ maxLen ∧ z0.length = cap0 ∧ (∀ i, i < z0.length → w.cell? (x.add i) = some (.int .i64 (z0.getD i 0))) ∧ ∀ n ∈ z0, (Lit.int .i64 n).wf = true) (y0 : len0 * 8 ≤ 140737488351232) (w1 : (Lit.int .i64 a1).wf = true) (w2 : (Lit.int .i64 a2).wf = true) (w3 : (Lit.int .i64 a3x).wf = true ∧ (Lit.int .i64 a3y).wf = true ∧ (Lit.int .i64 a3z).wf = true) :
    Calls Tryd.prog 5 #[.slice a0 len0 cap0, .int .i64 a1, .int .i64 a2, .agg #[.int .i64 a3x, .int .i64 a3y, .int .i64 a3z]] w fun e w' => e = .returned (.bool true) ∧ Below w.heap.size w w' := by
  obtain ⟨l0, rfl, hr0, hm0, hw0, hc0⟩ := ReadsInt.ofRowC w0
  obtain ⟨k, n, v, L, st, si, lv, n', v', L', st', si', lv', h13, h14, g, g'⟩ := P l0 a1 a2 a3x a3y a3z hm0 y0 hw0 w1 w2 w3.1 w3.2.1 w3.2.2
  exact intervalmonlaw28_AlertEscalate.calls k _ _ l0 a1 a2 a3x a3y a3z n v L st si lv n' v' L' st' si' lv' w hLd (Kd.C_of_reads (d := (0 : Int)) (h1 := fun _ => rfl) hr0) hc0 h13 h14 g g' rfl
end Go.Proofs.YtbbddeilbcpmiaaDoor.Q
