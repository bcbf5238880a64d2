/- Texts of this seat, joined: PureNar1, PureNar2. -/
import Derived.Test.YtbbddeilbcpmiaaDoorPureFrA
import Derived.Test.YtbbddeilbcpmiaaDoorPurePick
import Derived.Test.YtbbddeilbcpmiaaDoorNA
import Derived.Test.YtbbddeilbcpmiaaDoorNB
/- What the printed functions on fractions and intervals compute: comparisons, verdicts, small intervals and their parts. -/
namespace Go.Proofs.YtbbddeilbcpmiaaDoor.Fr
open Go.RowKit Go.Proofs.YtbbddeilbcpmiaaDoor.Q Go.Proofs.YtbbddeilbcpmiaaDoor.Pure Go.Proofs.YtbbddeilbcpmiaaDoor.N8 Go.Proofs.YtbbddeilbcpmiaaDoorW.PrintWords Go.Proofs.YtbbddeilbcpmiaaDoorW.PrintLast Go.Proofs.YtbbddeilbcpmiaaDoorW.PrintMore
set_option linter.unusedVariables false
theorem words_of {X : Nat} : wordsN (hiN X : Int) (loN X : Int) = X := by unfold wordsN hiN loN; omega
theorem wordOk_of {X : Nat} (h : X < 340282366920938463463374607431768211456) : wordOk (hiN X : Int) (loN X : Int) := by unfold wordOk hiN loN; omega
theorem plus_same {s : Bool} {X Y : Nat} (h : X + Y < 340282366920938463463374607431768211456) : frac_long_plus.f s (hiN X : Int) (loN X : Int) s (hiN Y : Int) (loN Y : Int) = some (s, (hiN (X + Y) : Int), (loN (X + Y) : Int)) := by
 unfold frac_long_plus.f
 rw [words_of, words_of, if_pos ⟨wordOk_of (by omega), wordOk_of (by omega), h⟩, if_pos rfl]
theorem plus_lt {s : Bool} {X Y : Nat} (h : X + Y < 340282366920938463463374607431768211456) (hlt : X < Y) : frac_long_plus.f s (hiN X : Int) (loN X : Int) (!s) (hiN Y : Int) (loN Y : Int) = some (!s, (hiN (Y - X) : Int), (loN (Y - X) : Int)) := by
 unfold frac_long_plus.f
 rw [words_of, words_of, if_pos ⟨wordOk_of (by omega), wordOk_of (by omega), h⟩, if_neg (by cases s <;> decide), if_pos hlt]
theorem plus_gt {s : Bool} {X Y : Nat} (h : X + Y < 340282366920938463463374607431768211456) (hlt : Y < X) : frac_long_plus.f s (hiN X : Int) (loN X : Int) (!s) (hiN Y : Int) (loN Y : Int) = some (s, (hiN (X - Y) : Int), (loN (X - Y) : Int)) := by
 unfold frac_long_plus.f
 rw [words_of, words_of, if_pos ⟨wordOk_of (by omega), wordOk_of (by omega), h⟩, if_neg (by cases s <;> decide), if_neg (by omega), if_pos hlt]
/-- the difference's sign, out of the two products -/
theorem cmp_plus {n n' d d' : Int} (hv : validF n d = true) (hv' : validF n' d' = true) (hne : ¬ (n = n' ∧ d = d')) :
  ∃ z1 z2 : Int, frac_long_plus.f (decide (n < 0)) (hiN (n.natAbs * d'.toNat) : Int) (loN (n.natAbs * d'.toNat) : Int) (decide (-n' < 0)) (hiN ((-n').natAbs * d.toNat) : Int) (loN ((-n').natAbs * d.toNat) : Int) = some (decide (n * d' < n' * d), z1, z2) := by
 have p := valid_pos hv
 have p' := valid_pos hv'
 have e1 : ((n.natAbs * d'.toNat : Nat) : Int) = (if n < 0 then -(n * d') else n * d') := by
  rw [Int.natCast_mul, show (d'.toNat : Int) = d' from by omega]
  split
  · rw [show (n.natAbs : Int) = -n from by omega, Int.neg_mul]
  · rw [show (n.natAbs : Int) = n from by omega]
 have e2 : (((-n').natAbs * d.toNat : Nat) : Int) = (if n' < 0 then -(n' * d) else n' * d) := by
  rw [Int.natCast_mul, show (d.toNat : Int) = d from by omega]
  split
  · rw [show ((-n').natAbs : Int) = -n' from by omega, Int.neg_mul]
  · rw [show ((-n').natAbs : Int) = n' from by omega]
 have b1 : n.natAbs * d'.toNat ≤ 4611686018427387904 * 4611686018427387904 := Nat.mul_le_mul p.2.2 (by omega)
 have b2 : (-n').natAbs * d.toNat ≤ 4611686018427387904 * 4611686018427387904 := Nat.mul_le_mul (by omega) (by omega)
 have q1 : n < 0 → n * d' < 0 := fun h => Int.mul_neg_of_neg_of_pos h (by omega)
 have q2 : 0 ≤ n → 0 ≤ n * d' := fun h => Int.mul_nonneg h (by omega)
 have q3 : n' < 0 → n' * d < 0 := fun h => Int.mul_neg_of_neg_of_pos h (by omega)
 have q4 : 0 ≤ n' → 0 ≤ n' * d := fun h => Int.mul_nonneg h (by omega)
 have q5 : 0 < n' → 0 < n' * d := fun h => Int.mul_pos h (by omega)
 have q6 : n' = 0 → n' * d = 0 := fun h => by rw [h, Int.zero_mul]
 have hne2 : n * d' ≠ n' * d := fun e => hne (valid_eq hv hv' e)
 generalize hX : n.natAbs * d'.toNat = X at *
 generalize hY : (-n').natAbs * d.toNat = Y at *
 generalize n * d' = A at *
 generalize n' * d = B at *
 have hP : X + Y < 340282366920938463463374607431768211456 := by omega
 by_cases s1 : n < 0
 ·
  by_cases s2 : 0 < n'
  ·
   rw [decide_eq_true s1, decide_eq_true (show -n' < 0 by omega), decide_eq_true (show A < B by have := q1 s1; have := q5 s2; omega)]
   exact ⟨_, _, plus_same hP⟩
  ·
   rw [decide_eq_true s1, decide_eq_false (show ¬ -n' < 0 by omega)]
   rw [if_pos s1] at e1
   have e3 : (Y : Int) = -B := by
    rw [e2]
    split
    · rfl
    ·
     have := q6 (by omega)
     omega
   rcases Nat.lt_trichotomy X Y with h | h | h
   ·
    rw [decide_eq_false (show ¬ A < B by omega)]
    exact ⟨_, _, plus_lt (s := true) hP h⟩
   · exact absurd (show A = B by omega) hne2
   ·
    rw [decide_eq_true (show A < B by omega)]
    exact ⟨_, _, plus_gt (s := true) hP h⟩
 ·
  by_cases s2 : 0 < n'
  ·
   rw [decide_eq_false s1, decide_eq_true (show -n' < 0 by omega)]
   rw [if_neg s1] at e1
   rw [if_neg (by omega)] at e2
   rcases Nat.lt_trichotomy X Y with h | h | h
   ·
    rw [decide_eq_true (show A < B by omega)]
    exact ⟨_, _, plus_lt (s := false) hP h⟩
   · exact absurd (show A = B by omega) hne2
   ·
    rw [decide_eq_false (show ¬ A < B by omega)]
    exact ⟨_, _, plus_gt (s := false) hP h⟩
  ·
   rw [decide_eq_false s1, decide_eq_false (show ¬ -n' < 0 by omega), decide_eq_false (show ¬ A < B by
    have := q2 (by omega)
    by_cases s3 : n' < 0
    · have := q3 s3; omega
    ·
     have := q6 (by omega)
     omega)]
   exact ⟨_, _, plus_same hP⟩
def i64B (a : Int) : Prop := -9223372036854775808 ≤ a ∧ a ≤ 9223372036854775807
theorem i64B_valid {n d : Int} (h : validF n d = true) : i64B n ∧ i64B d := by have := valid_pos h; unfold i64B; omega
theorem cmp_prog {n d n' d' : Int} (hn : i64B n) (hd : i64B d) (hn' : i64B n') (hd' : i64B d') : Ev (fun k => frac_Compare.f k n d n' d') (cmpF n d n' d') := by
 obtain ⟨K1, h1⟩ := valid_prog hn.1 hn.2 hd.1 hd.2
 obtain ⟨K2, h2⟩ := valid_prog hn'.1 hn'.2 hd'.1 hd'.2
 refine ⟨K1 + K2 + 1, fun k hk => ?_⟩
 obtain ⟨k, rfl⟩ : ∃ j, k = j + 1 := ⟨k - 1, by omega⟩
 show frac_Compare.f (k + 1) n d n' d' = some (cmpF n d n' d')
 unfold frac_Compare.f
 rw [h1 _ (by omega), Option.bind_some]
 by_cases v1 : validF n d = true
 ·
  rw [if_pos v1, h2 _ (by omega), Option.bind_some]
  by_cases v2 : validF n' d' = true
  ·
   rw [if_pos v2, frac_Compare.j0]
   by_cases e : n = n' ∧ d = d'
   ·
    obtain ⟨rfl, rfl⟩ := e
    have c : cmpF n d n d = 0 := by unfold cmpF sgn; rw [if_pos ⟨v1, v1⟩, if_neg (by omega), if_neg (by omega)]
    rw [if_pos (by simp), c]
   ·
    have p := valid_pos v1
    have p' := valid_pos v2
    have hne2 : n * d' ≠ n' * d := fun h => e (valid_eq v1 v2 h)
    obtain ⟨z1, z2, hz⟩ := cmp_plus v1 v2 e
    have t1 : frac_times.f n (IntKind.u64.wrap d') = some (decide (n < 0), (hiN (n.natAbs * d'.toNat) : Int), (loN (n.natAbs * d'.toNat) : Int)) := by
     rw [uwrap_in (by omega) (by omega)]
     unfold frac_times.f
     rw [if_pos ⟨⟨by omega, by omega⟩, by omega, by omega⟩]
    have t2 : frac_times.f (wrap64 (-n')) (IntKind.u64.wrap d) = some (decide (-n' < 0), (hiN ((-n').natAbs * d.toNat) : Int), (loN ((-n').natAbs * d.toNat) : Int)) := by
     rw [uwrap_in (by omega) (by omega), w64 (by omega) (by omega)]
     unfold frac_times.f
     rw [if_pos ⟨⟨by omega, by omega⟩, by omega, by omega⟩]
    have ne : (n == n' && (d == d')) = false := by
     rw [Bool.and_eq_false_iff]
     by_cases q : n = n'
     · exact .inr (beq_eq_false_iff_ne.mpr fun h => e ⟨q, h⟩)
     · exact .inl (beq_eq_false_iff_ne.mpr q)
    rw [ne, if_neg (by decide), t1, Option.bind_some, t2, Option.bind_some, hz, Option.bind_some]
    have hc : cmpF n d n' d' = sgn (n * d' - n' * d) := by unfold cmpF; rw [if_pos ⟨v1, v2⟩]
    rw [hc]
    clear hc hz t1 t2
    generalize n * d' = A at *
    generalize n' * d = B at *
    unfold sgn
    by_cases c : A < B
    · rw [if_pos (decide_eq_true c), if_pos (by omega)]
    · rw [if_neg (by simpa using c), if_neg (by omega), if_pos (by omega)]
  ·
   rw [if_neg v2, frac_Compare.j0, if_pos rfl]
   unfold cmpF
   rw [if_neg (fun h => v2 h.2)]
 ·
  rw [if_neg v1, frac_Compare.j0, if_pos rfl]
  unfold cmpF
  rw [if_neg (fun h => v1 h.1)]
theorem cmp_ref {n d n' d' : Int} (h : validF n d = true) (h' : validF n' d' = true) : intervalmonref03_Compare.f n d n' d' = some (cmpF n d n' d') := by
 have p := valid_pos h
 have p' := valid_pos h'
 unfold intervalmonref03_Compare.f inI
 rw [if_pos ⟨⟨by omega, by omega⟩, ⟨by omega, by omega⟩, ⟨by omega, by omega⟩, ⟨by omega, by omega⟩⟩]
theorem ivalid_prog {ln ld hn hd : Int} (h1 : i64B ln) (h2 : i64B ld) (h3 : i64B hn) (h4 : i64B hd) : Ev (fun k => interval_Valid.f k ln ld hn hd) (decide (validF ln ld = true ∧ validF hn hd = true ∧ cmpF ln ld hn hd ≤ 0)) := by
 obtain ⟨K1, k1⟩ := valid_prog h1.1 h1.2 h2.1 h2.2
 obtain ⟨K2, k2⟩ := valid_prog h3.1 h3.2 h4.1 h4.2
 obtain ⟨K3, k3⟩ := cmp_prog h1 h2 h3 h4
 refine ⟨K1 + K2 + K3, fun k hk => ?_⟩
 show interval_Valid.f k ln ld hn hd = _
 have k3' : frac_Compare.f k ln ld hn hd = some (cmpF ln ld hn hd) := k3 k (by omega)
 unfold interval_Valid.f
 rw [k1 _ (by omega), Option.bind_some]
 by_cases v1 : validF ln ld = true
 ·
  rw [if_pos v1, k2 _ (by omega), Option.bind_some]
  by_cases v2 : validF hn hd = true
  ·
   rw [if_pos v2, k3', Option.bind_some]
   congr 1
   exact decide_eq_decide.mpr ⟨fun h => ⟨v1, v2, h⟩, fun h => h.2.2⟩
  · rw [if_neg v2, decide_eq_false (fun h => v2 h.2.1)]
 · rw [if_neg v1, decide_eq_false (fun h => v1 h.1)]
theorem atLeast_prog {ln ld hn hd cn cd : Int} (h1 : i64B ln) (h2 : i64B ld) (h3 : i64B hn) (h4 : i64B hd) (h5 : i64B cn) (h6 : i64B cd) : Ev (fun k => interval_AtLeast.f k ln ld hn hd cn cd) (atLeastF ln ld hn hd cn cd) := by
 obtain ⟨K1, k1⟩ := ivalid_prog h1 h2 h3 h4
 obtain ⟨K2, k2⟩ := valid_prog h5.1 h5.2 h6.1 h6.2
 obtain ⟨K3, k3⟩ := cmp_prog h1 h2 h5 h6
 obtain ⟨K4, k4⟩ := cmp_prog h3 h4 h5 h6
 refine ⟨K1 + K2 + K3 + K4 + 1, fun k hk => ?_⟩
 obtain ⟨k, rfl⟩ : ∃ j, k = j + 1 := ⟨k - 1, by omega⟩
 have k1' : interval_Valid.f (k + 1) ln ld hn hd = _ := k1 (k + 1) (by omega)
 have k3' : frac_Compare.f k ln ld cn cd = some (cmpF ln ld cn cd) := k3 k (by omega)
 have k4' : frac_Compare.f k hn hd cn cd = some (cmpF hn hd cn cd) := k4 k (by omega)
 show interval_AtLeast.f (k + 1) ln ld hn hd cn cd = _
 unfold interval_AtLeast.f
 rw [k1', Option.bind_some]
 by_cases v : validF ln ld = true ∧ validF hn hd = true ∧ cmpF ln ld hn hd ≤ 0
 ·
  rw [if_pos (decide_eq_true v), k2 _ (by omega), Option.bind_some]
  by_cases vc : validF cn cd = true
  ·
   rw [vc, atLeast_val v.1 v.2.1 v.2.2 vc, interval_AtLeast.j0, if_neg (by decide), k3', Option.bind_some]
   by_cases c1 : 0 ≤ cmpF ln ld cn cd
   · rw [if_pos c1, if_pos c1]
   ·
    rw [if_neg (by omega), if_neg c1, k4', Option.bind_some]
    by_cases c2 : cmpF hn hd cn cd < 0
    · rw [if_pos c2, if_pos c2]
    · rw [if_neg c2, if_neg c2]
  · rw [Bool.eq_false_iff.mpr vc, interval_AtLeast.j0, if_pos (by decide), atLeast_out vc]
 ·
  rw [if_neg (by simpa using v), interval_AtLeast.j0, if_pos rfl]
  unfold atLeastF
  rw [if_neg (fun h => v h.1)]
theorem atMost_prog {ln ld hn hd cn cd : Int} (h1 : i64B ln) (h2 : i64B ld) (h3 : i64B hn) (h4 : i64B hd) (h5 : i64B cn) (h6 : i64B cd) : Ev (fun k => interval_AtMost.f k ln ld hn hd cn cd) (atMostF ln ld hn hd cn cd) := by
 obtain ⟨K1, k1⟩ := ivalid_prog h1 h2 h3 h4
 obtain ⟨K2, k2⟩ := valid_prog h5.1 h5.2 h6.1 h6.2
 obtain ⟨K3, k3⟩ := cmp_prog h3 h4 h5 h6
 obtain ⟨K4, k4⟩ := cmp_prog h1 h2 h5 h6
 refine ⟨K1 + K2 + K3 + K4 + 1, fun k hk => ?_⟩
 obtain ⟨k, rfl⟩ : ∃ j, k = j + 1 := ⟨k - 1, by omega⟩
 have k1' : interval_Valid.f (k + 1) ln ld hn hd = _ := k1 (k + 1) (by omega)
 have k3' : frac_Compare.f k hn hd cn cd = some (cmpF hn hd cn cd) := k3 k (by omega)
 have k4' : frac_Compare.f k ln ld cn cd = some (cmpF ln ld cn cd) := k4 k (by omega)
 show interval_AtMost.f (k + 1) ln ld hn hd cn cd = _
 unfold interval_AtMost.f
 rw [k1', Option.bind_some]
 by_cases v : validF ln ld = true ∧ validF hn hd = true ∧ cmpF ln ld hn hd ≤ 0
 ·
  rw [if_pos (decide_eq_true v), k2 _ (by omega), Option.bind_some]
  by_cases vc : validF cn cd = true
  ·
   rw [vc, atMost_val v.1 v.2.1 v.2.2 vc, interval_AtMost.j0, if_neg (by decide), k3', Option.bind_some]
   by_cases c1 : cmpF hn hd cn cd ≤ 0
   · rw [if_pos c1, if_pos c1]
   ·
    rw [if_neg c1, if_neg c1, k4', Option.bind_some]
    by_cases c2 : 0 < cmpF ln ld cn cd
    · rw [if_pos c2, if_pos c2]
    · rw [if_neg (by omega), if_neg c2]
  · rw [Bool.eq_false_iff.mpr vc, interval_AtMost.j0, if_pos (by decide), atMost_out vc]
 ·
  rw [if_neg (by simpa using v), interval_AtMost.j0, if_pos rfl]
  unfold atMostF
  rw [if_neg (fun h => v h.1)]
end Go.Proofs.YtbbddeilbcpmiaaDoor.Fr

/- Small intervals and their parts, as the printed functions make them. -/
namespace Go.Proofs.YtbbddeilbcpmiaaDoor.Fr
open Go.RowKit Go.Proofs.YtbbddeilbcpmiaaDoor.Q Go.Proofs.YtbbddeilbcpmiaaDoor.Pure Go.Proofs.YtbbddeilbcpmiaaDoor.N8 Go.Proofs.YtbbddeilbcpmiaaDoorW.PrintWords Go.Proofs.YtbbddeilbcpmiaaDoorW.PrintLast Go.Proofs.YtbbddeilbcpmiaaDoorW.PrintMore
set_option linter.unusedVariables false
set_option linter.unusedSimpArgs false
/-- a fraction within bounds -/
def smallF (A D : Nat) (n d : Int) : Prop := validF n d = true ∧ n.natAbs ≤ A ∧ d ≤ D
theorem newF_small {n d : Int} {A D : Nat} (h0 : n.natAbs ≤ A) (h1 : 1 ≤ d) (h2 : d ≤ D) (hA : A ≤ 4611686018427387904) (hD : D ≤ 4611686018427387904) : newF n d = (redN n d, redD n d, 0) ∧ smallF A D (redN n d) (redD n d) := by
 have a1 := redN_le n d
 have a2 := redD_le (n := n) h1
 have a3 := redD_pos (n := n) h1
 refine ⟨?_, red_valid h1 (by omega) (by omega), by omega, by omega⟩
 unfold newF
 rw [if_pos ⟨by omega, by omega⟩]
theorem tmod_nn {a m : Int} (h : 0 ≤ a) (hm : 0 < m) : 0 ≤ Int.tmod a m ∧ Int.tmod a m < m := ⟨Int.tmod_nonneg m h, Int.tmod_lt_of_pos a hm⟩
theorem small_ref {a : Int} (h : (Lit.int .i64 a).wf = true) : ∃ n d, smallF 50 12 n d ∧ Ev (fun k => intervalmonref03_Small.f k a) (n, d) := by
 obtain ⟨t, ht, t0, t1⟩ := around_ok h (m := 1000000007) (by omega)
 have m1 := tmod_nn t0 (m := 101) (by omega)
 obtain ⟨Q, hQ⟩ : ∃ Q, Q = Int.tdiv t 101 := ⟨_, rfl⟩
 have q0 : 0 ≤ Q := by rw [hQ]; exact Int.tdiv_nonneg t0 (by omega)
 have q1 : Q ≤ t := by rw [hQ, Int.tdiv_eq_ediv_of_nonneg t0]; exact Int.ediv_le_self 101 t0
 have m2 := tmod_nn q0 (m := 12) (by omega)
 obtain ⟨N, hN⟩ : ∃ N, N = Int.tmod t 101 - 50 := ⟨_, rfl⟩
 obtain ⟨D, hD⟩ : ∃ D, D = 1 + Int.tmod Q 12 := ⟨_, rfl⟩
 have b1 : -50 ≤ N ∧ N ≤ 50 := by omega
 have b2 : 1 ≤ D ∧ D ≤ 12 := by omega
 obtain ⟨e, hs⟩ := newF_small (n := N) (d := D) (A := 50) (D := 12) (by omega) b2.1 (by omega) (by omega) (by omega)
 obtain ⟨K, hK⟩ := new_ref (n := N) (d := D) (by omega) (by omega) b2.1 (by omega)
 refine ⟨redN N D, redD N D, hs, K, fun k hk => ?_⟩
 show intervalmonref03_Small.f k a = _
 unfold intervalmonref03_Small.f
 rw [ht, Option.bind_some, ← hQ, w64 (a := Int.tmod t 101 - 50) (by omega) (by omega), w64 (a := Q) (by omega) (by omega), w64 (a := 1 + Int.tmod Q 12) (by omega) (by omega), ← hN, ← hD, hK k hk, e]
 rfl
theorem sorted_two {a b : S59} (ha : validF a.f0 a.f1 = true) (hb : validF b.f0 b.f1 = true) {k : Nat} (hk : 6 ≤ k) : intervalmonref04_Sorted.f k [a, b] = some (if cmpF b.f0 b.f1 a.f0 a.f1 < 0 then [b, a] else [a, b]) := by
 obtain ⟨k, rfl⟩ : ∃ j, k = j + 6 := ⟨k - 6, by omega⟩
 have r0 : rd_T59 [a, b] 0 = a := rfl
 have r1 : rd_T59 [a, b] 1 = b := rfl
 have r2 : rd_T59 [a] 0 = a := rfl
 have w0 : wrap64 (1 - 1) = 0 := w64 (by omega) (by omega)
 have w1 : wrap64 (0 + 1) = 1 := w64 (by omega) (by omega)
 have w2 : wrap64 (1 + 1) = 2 := w64 (by omega) (by omega)
 have w3 : wrap64 2 = 2 := w64 (by omega) (by omega)
 have l0 : intervalmonref04_Sorted.l0 (k + 2) [b, a] [b, a] 2 = some [b, a] := by rw [intervalmonref04_Sorted.l0, if_neg (by simp)]
 have hc := cmp_ref hb ha
 unfold intervalmonref04_Sorted.f
 rw [intervalmonref04_Sorted.l0, if_pos (by simp)]
 simp only [List.length_nil]
 rw [intervalmonref04_Sorted.l1, if_neg (by simp), if_pos (by simp), if_pos (by simp)]
 simp only [List.take_nil, Option.bind_some, List.length_nil, List.append_nil, List.drop_nil, Nat.add_zero]
 rw [if_pos (by decide)]
 simp only [Option.bind_some, List.nil_append]
 rw [if_pos (by decide), if_pos (by simp), if_pos (by simp)]
 simp only [Option.bind_some, List.nil_append, r0, w1, List.append_nil]
 rw [if_pos (by simp), intervalmonref04_Sorted.l0, if_pos (by simp)]
 simp only [List.length_cons, List.length_nil, List.length_append, Nat.zero_add]
 rw [show ((1 : Nat) : Int) = 1 from rfl, intervalmonref04_Sorted.l1, if_pos (by decide), if_pos (by decide), if_pos (by simp), w0, if_pos (by decide), if_pos (by simp)]
 rw [r1, r2, hc, Option.bind_some]
 by_cases c : cmpF b.f0 b.f1 a.f0 a.f1 < 0
 ·
  rw [if_pos c, if_pos c, intervalmonref04_Sorted.l1, if_neg (by decide), if_pos (by decide), if_pos (by simp)]
  simp [r1, w3, intervalmonref04_Sorted.l0]
 ·
  rw [if_neg c, if_neg c, if_pos (by decide), if_pos (by simp)]
  simp [r1, w3, intervalmonref04_Sorted.l0]
theorem from_val (x y : S59) : ((some [x, y]).bind fun t158 : List S59 => (if 0 < (t158.length : Int) then (if 0 ≤ (wrap64 ((t158.length : Int) - 1)) then (if (wrap64 ((t158.length : Int) - 1)) < (t158.length : Int) then (some ((rd_T59 t158 0).f0, (rd_T59 t158 0).f1, (rd_T59 t158 (wrap64 ((t158.length : Int) - 1))).f0, (rd_T59 t158 (wrap64 ((t158.length : Int) - 1))).f1)) else (none)) else (none)) else (none))) = some (x.f0, x.f1, y.f0, y.f1) := by
 have e : wrap64 ((([x, y] : List S59).length : Int) - 1) = 1 := w64 (by simp) (by simp)
 rw [Option.bind_some, e, if_pos (by simp), if_pos (by decide), if_pos (by simp)]
 rfl
/-- the least and the greatest of two fractions -/
theorem from_two {a b : S59} {A D : Nat} (ha : smallF A D a.f0 a.f1) (hb : smallF A D b.f0 b.f1) : ∃ ln ld hn hd, (∀ k, 6 ≤ k → intervalmonref04_from.f k [a, b] = some (ln, ld, hn, hd)) ∧ smallF A D ln ld ∧ smallF A D hn hd ∧ leF ln ld hn hd ∧ ((ln = a.f0 ∧ ld = a.f1 ∧ hn = b.f0 ∧ hd = b.f1) ∨ (ln = b.f0 ∧ ld = b.f1 ∧ hn = a.f0 ∧ hd = a.f1)) := by
 by_cases c : cmpF b.f0 b.f1 a.f0 a.f1 < 0
 ·
  refine ⟨b.f0, b.f1, a.f0, a.f1, fun k hk => ?_, hb, ha, (cmp_le hb.1 ha.1).mp (by omega), .inr ⟨rfl, rfl, rfl, rfl⟩⟩
  unfold intervalmonref04_from.f
  rw [sorted_two ha.1 hb.1 hk, if_pos c]
  exact from_val b a
 ·
  refine ⟨a.f0, a.f1, b.f0, b.f1, fun k hk => ?_, ha, hb, (cmp_ge hb.1 ha.1).mp (by omega), .inl ⟨rfl, rfl, rfl, rfl⟩⟩
  unfold intervalmonref04_from.f
  rw [sorted_two ha.1 hb.1 hk, if_neg c]
  exact from_val a b
/-- a small interval -/
def smallI (A D : Nat) (x : S61) : Prop := smallF A D x.f0.f0 x.f0.f1 ∧ smallF A D x.f1.f0 x.f1.f1 ∧ leF x.f0.f0 x.f0.f1 x.f1.f0 x.f1.f1
theorem small_ref04 {a b : Int} (h : (Lit.int .i64 a).wf = true) (h' : (Lit.int .i64 b).wf = true) : ∃ x : S61, smallI 50 12 x ∧ Ev (fun k => intervalmonref04_Small.f k a b) (x.f0.f0, x.f0.f1, x.f1.f0, x.f1.f1) := by
 obtain ⟨n, d, hs, K1, h1⟩ := small_ref h
 obtain ⟨n', d', hs', K2, h2⟩ := small_ref h'
 obtain ⟨ln, ld, hn, hd, hf, g1, g2, g3, _⟩ := from_two (a := ⟨n, d⟩) (b := ⟨n', d'⟩) hs hs'
 refine ⟨⟨⟨ln, ld⟩, ⟨hn, hd⟩⟩, ⟨g1, g2, g3⟩, K1 + K2 + 6, fun k hk => ?_⟩
 have h1' : intervalmonref03_Small.f k a = some (n, d) := h1 k (by omega)
 have h2' : intervalmonref03_Small.f k b = some (n', d') := h2 k (by omega)
 show intervalmonref04_Small.f k a b = _
 unfold intervalmonref04_Small.f
 rw [h1', Option.bind_some, h2', Option.bind_some, hf k (by omega)]
 rfl
theorem add_short {n d n' d' : Int} (h : shF n d) (h' : shF n' d') : intervalmonref03_Add.f n d n' d' = some (newF (n * d' + n' * d) (d * d')) := by
 unfold intervalmonref03_Add.f
 rw [if_pos ⟨h, h'⟩]
theorem mul_short {n d n' d' : Int} (h : shF n d) (h' : shF n' d') : intervalmonref03_Mul.f n d n' d' = some (newF (n * n') (d * d')) := by
 unfold intervalmonref03_Mul.f
 rw [if_pos ⟨h, h'⟩]
theorem sh_of {A D : Nat} {n d : Int} (h : smallF A D n d) (hA : A ≤ 1073741824) (hD : D ≤ 1073741824) : shF n d := ⟨h.1, by have := h.2.1; omega, by have := h.2.2; omega⟩
theorem mulN_le {a b : Int} {A C : Nat} (h1 : a.natAbs ≤ A) (h2 : b.natAbs ≤ C) : (a * b).natAbs ≤ A * C := by rw [Int.natAbs_mul]; exact Nat.mul_le_mul h1 h2
theorem mulD_le {a b : Int} {A C : Nat} (h0 : 1 ≤ a) (h0' : 1 ≤ b) (h1 : a ≤ A) (h2 : b ≤ C) : 1 ≤ a * b ∧ a * b ≤ ((A * C : Nat) : Int) := by
 constructor
 · have := Int.mul_pos (show 0 < a by omega) (show 0 < b by omega); omega
 · rw [Int.natCast_mul]; exact Int.mul_le_mul h1 h2 (by omega) (by omega)
theorem valid_neg {n d : Int} (h : validF n d = true) : validF (-n) d = true := by
 unfold validF at *
 rw [Int.natAbs_neg]
 exact h
set_option maxHeartbeats 4000000 in
/-- a point of a small interval -/
theorem inner_ref {x : S61} (hx : smallI 50 12 x) {a : Int} (hw : (Lit.int .i64 a).wf = true) : ∃ zn zd, smallF 172800 13824 zn zd ∧ leF x.f0.f0 x.f0.f1 zn zd ∧ leF zn zd x.f1.f0 x.f1.f1 ∧ Ev (fun k => intervalmonref04_Inner.f k x.f0.f0 x.f0.f1 x.f1.f0 x.f1.f1 a) (zn, zd) := by
 obtain ⟨⟨ln, ld⟩, ⟨hn, hd⟩⟩ := x
 obtain ⟨t, hta, t0, t1⟩ := around_ok hw (m := 9) (by omega)
 have t8 : t ≤ 8 := by omega
 obtain ⟨g1, g2, g3⟩ := hx
 dsimp only at g1 g2 g3 ⊢
 have p1 := valid_pos g1.1
 have p2 := valid_pos g2.1
 have l1 := g1.2; have l2 := g2.2
 -- the width
 have w1 := mulN_le l2.1 (show ld.natAbs ≤ 12 by omega)
 have w2 := mulN_le (show (-ln).natAbs ≤ 50 by omega) (show hd.natAbs ≤ 12 by omega)
 have w3 := mulD_le p2.1 p1.1 l2.2 l1.2
 obtain ⟨ew, hW⟩ := newF_small (n := hn * ld + -ln * hd) (d := hd * ld) (A := 1200) (D := 144) (by omega) w3.1 (by omega) (by omega) (by omega)
 obtain ⟨vw, aw, dw⟩ := hW
 have pw := valid_pos vw
 have vW := red_value (n := hn * ld + -ln * hd) (d := hd * ld)
 generalize redN (hn * ld + -ln * hd) (hd * ld) = wn at *
 generalize redD (hn * ld + -ln * hd) (hd * ld) = wd at *
 -- an eighth
 obtain ⟨ep, hP⟩ := newF_small (n := wn * 1) (d := wd * 8) (A := 1200) (D := 1152) (by omega) (by omega) (by omega) (by omega) (by omega)
 obtain ⟨vp, ap, dp⟩ := hP
 have pp := valid_pos vp
 have vP := red_value (n := wn * 1) (d := wd * 8)
 generalize redN (wn * 1) (wd * 8) = pn at *
 generalize redD (wn * 1) (wd * 8) = pd at *
 -- t eighths
 have u1 := mulN_le ap (show t.natAbs ≤ 8 by omega)
 obtain ⟨eq, hQ⟩ := newF_small (n := pn * t) (d := pd * 1) (A := 9600) (D := 1152) (by omega) (by omega) (by omega) (by omega) (by omega)
 obtain ⟨vq, aq, dq⟩ := hQ
 have pq := valid_pos vq
 have vQ := red_value (n := pn * t) (d := pd * 1)
 generalize redN (pn * t) (pd * 1) = qn at *
 generalize redD (pn * t) (pd * 1) = qd at *
 -- the point
 have z1 := mulN_le l1.1 (show qd.natAbs ≤ 1152 by omega)
 have z2 := mulN_le aq (show ld.natAbs ≤ 12 by omega)
 have z3 := mulD_le p1.1 pq.1 l1.2 (show qd ≤ ((1152 : Nat) : Int) by omega)
 obtain ⟨ez, hZ⟩ := newF_small (n := ln * qd + qn * ld) (d := ld * qd) (A := 172800) (D := 13824) (by omega) z3.1 (by omega) (by omega) (by omega)
 have vZ := red_value (n := ln * qd + qn * ld) (d := ld * qd)
 generalize redN (ln * qd + qn * ld) (ld * qd) = zn at *
 generalize redD (ln * qd + qn * ld) (ld * qd) = zd at *
 have pz := valid_pos hZ.1
 have vt : validF t 1 = true := by
  unfold validF
  rw [Bool.and_eq_true, decide_eq_true_eq, decide_eq_true_eq]
  exact ⟨by omega, Nat.gcd_one_right _⟩
 have v8 : validF 1 8 = true := by decide +kernel
 have hb := inner_between (t := t) (show 0 < ld by omega) (show 0 < hd by omega) (show 0 < wd by omega) (show 0 < pd by omega) (show 0 < qd by omega) (show 0 < zd by omega) t0 t8 g3
  (by rw [vW]; congr 1; rw [Int.neg_mul]; omega) (by rw [vP]; congr 1; omega) (by rw [show qn * pd = qn * (pd * 1) from by rw [Int.mul_one]]; exact vQ) vZ
 obtain ⟨K1, hK1⟩ := valid_ref (n := ln) (d := ld) (by omega) (by omega) (by omega)
 refine ⟨zn, zd, hZ, hb.1, hb.2, K1, fun k hk => ?_⟩
 show intervalmonref04_Inner.f k ln ld hn hd a = _
 have s1 : shF hn hd := sh_of g2 (by omega) (by omega)
 have s2 : shF (-ln) ld := ⟨valid_neg g1.1, by omega, by omega⟩
 have s3 : shF wn wd := ⟨vw, by omega, by omega⟩
 have s4 : shF 1 8 := ⟨v8, by omega, by omega⟩
 have s5 : shF pn pd := ⟨vp, by omega, by omega⟩
 have s6 : shF t 1 := ⟨vt, by omega, by omega⟩
 have s7 : shF ln ld := sh_of g1 (by omega) (by omega)
 have s8 : shF qn qd := ⟨vq, by omega, by omega⟩
 unfold intervalmonref04_Inner.f intervalmonref03_Sub.f
 rw [hK1 k hk, Option.bind_some, if_pos g1.1, w64 (a := -ln) (by omega) (by omega), add_short s1 s2, ew]
 simp only [Option.bind_some]
 rw [mul_short s3 s4, ep]
 simp only [Option.bind_some]
 rw [hta, Option.bind_some, mul_short s5 s6, eq]
 simp only [Option.bind_some]
 rw [add_short s7 s8, ez]
 rfl
end Go.Proofs.YtbbddeilbcpmiaaDoor.Fr
