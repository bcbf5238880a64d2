/- Texts of this seat, joined: PureFr0, PureFr1, PureNat8. -/
/- Plain facts on fractions: lowest terms, order. No program. -/
namespace Go.Proofs.YtbbddeilbcpmiaaDoor.Fr
/-- a fraction in lowest terms within the limits -/
def validF (n d : Int) : Bool := decide (1 ≤ d ∧ d ≤ 4611686018427387904 ∧ n.natAbs ≤ 4611686018427387904) && decide (Nat.gcd n.natAbs d.natAbs = 1)
/-- lowest terms of n / d -/
def redN (n d : Int) : Int := n / (Int.gcd n d : Int)
def redD (n d : Int) : Int := d / (Int.gcd n d : Int)
theorem gcd_pos {n d : Int} (hd : 1 ≤ d) : 0 < Int.gcd n d := by
  unfold Int.gcd
  exact Nat.gcd_pos_of_pos_right _ (by omega)
theorem redN_mul (n d : Int) : redN n d * (Int.gcd n d : Int) = n := Int.ediv_mul_cancel (Int.gcd_dvd_left _ _)
theorem redD_mul (n d : Int) : redD n d * (Int.gcd n d : Int) = d := Int.ediv_mul_cancel (Int.gcd_dvd_right _ _)
/-- the value stays -/
theorem red_value {n d : Int} : redN n d * d = n * redD n d := by
  have h1 := redN_mul n d
  have h2 := redD_mul n d
  calc redN n d * d = redN n d * (redD n d * (Int.gcd n d : Int)) := by rw [h2]
    _ = (redN n d * (Int.gcd n d : Int)) * redD n d := by rw [Int.mul_assoc, Int.mul_comm (redD n d), ← Int.mul_assoc]
    _ = n * redD n d := by rw [h1]
theorem redD_pos {n d : Int} (hd : 1 ≤ d) : 1 ≤ redD n d := by
  have h := redD_mul n d
  have g := gcd_pos (n := n) hd
  refine Int.not_lt.mp fun h0 => ?_
  have h1 : redD n d ≤ 0 := by omega
  have := Int.mul_le_mul_of_nonneg_right h1 (show (0 : Int) ≤ (Int.gcd n d : Int) by omega)
  omega
theorem redD_le {n d : Int} (hd : 1 ≤ d) : redD n d ≤ d := by
  have h := redD_mul n d
  have g := gcd_pos (n := n) hd
  have p := redD_pos (n := n) hd
  have := Int.mul_le_mul_of_nonneg_left (show (1 : Int) ≤ (Int.gcd n d : Int) by omega) (show 0 ≤ redD n d by omega)
  omega
theorem redN_abs {n d : Int} : (redN n d).natAbs = n.natAbs / Int.gcd n d := by
  unfold redN
  rw [Int.natAbs_ediv_of_dvd (Int.gcd_dvd_left _ _)]
  rfl
theorem redN_le (n d : Int) : (redN n d).natAbs ≤ n.natAbs := by rw [redN_abs]; exact Nat.div_le_self _ _
theorem redD_abs {n d : Int} : (redD n d).natAbs = d.natAbs / Int.gcd n d := by
  unfold redD
  rw [Int.natAbs_ediv_of_dvd (Int.gcd_dvd_right _ _)]
  rfl
theorem red_valid {n d : Int} (hd : 1 ≤ d) (hd2 : d ≤ 4611686018427387904) (hn : n.natAbs ≤ 4611686018427387904) : validF (redN n d) (redD n d) = true := by
  unfold validF
  rw [Bool.and_eq_true, decide_eq_true_eq, decide_eq_true_eq]
  refine ⟨⟨redD_pos hd, Int.le_trans (redD_le hd) hd2, Nat.le_trans (redN_le n d) hn⟩, ?_⟩
  rw [redN_abs, redD_abs]
  exact Nat.coprime_div_gcd_div_gcd (gcd_pos (n := n) hd)
theorem valid_pos {n d : Int} (h : validF n d = true) : 1 ≤ d ∧ d ≤ 4611686018427387904 ∧ n.natAbs ≤ 4611686018427387904 := by
  unfold validF at h
  rw [Bool.and_eq_true, decide_eq_true_eq] at h
  exact h.1
theorem valid_gcd {n d : Int} (h : validF n d = true) : Int.gcd n d = 1 := by
  unfold validF at h
  rw [Bool.and_eq_true, decide_eq_true_eq, decide_eq_true_eq] at h
  exact h.2
theorem red_of_valid {n d : Int} (h : validF n d = true) : redN n d = n ∧ redD n d = d := by
  unfold redN redD
  rw [valid_gcd h]
  exact ⟨Int.ediv_one _, Int.ediv_one _⟩
/-- the sign of a comparison -/
def sgn (x : Int) : Int := if x < 0 then -1 else if 0 < x then 1 else 0
/-- how two fractions compare -/
def cmpF (n d n' d' : Int) : Int := if validF n d = true ∧ validF n' d' = true then sgn (n * d' - n' * d) else 0
/-- fractions in lowest terms with one value are one -/
theorem valid_eq {n d n' d' : Int} (h : validF n d = true) (h' : validF n' d' = true) (e : n * d' = n' * d) : n = n' ∧ d = d' := by
  have p := valid_pos h
  have p' := valid_pos h'
  have g := valid_gcd h
  have g' := valid_gcd h'
  have e1 : (n.natAbs * d'.natAbs) = (n'.natAbs * d.natAbs) := by rw [← Int.natAbs_mul, ← Int.natAbs_mul, e]
  have c : Nat.Coprime n.natAbs d.natAbs := g
  have c' : Nat.Coprime n'.natAbs d'.natAbs := g'
  have a1 : d.natAbs ∣ d'.natAbs := (c.symm).dvd_of_dvd_mul_left ⟨n'.natAbs, by rw [e1, Nat.mul_comm]⟩
  have a2 : d'.natAbs ∣ d.natAbs := (c'.symm).dvd_of_dvd_mul_left ⟨n.natAbs, by rw [← e1, Nat.mul_comm]⟩
  have hd : d = d' := by have := Nat.dvd_antisymm a1 a2; omega
  subst hd
  refine ⟨?_, rfl⟩
  exact Int.eq_of_mul_eq_mul_right (by omega) e
end Go.Proofs.YtbbddeilbcpmiaaDoor.Fr

/- Plain facts on the order of fractions, and on a point inside a small interval. No program. -/
namespace Go.Proofs.YtbbddeilbcpmiaaDoor.Fr
/-- n / d is at most n' / d' -/
def leF (n d n' d' : Int) : Prop := n * d' ≤ n' * d
theorem leF_trans {a b c d e f : Int} (hb : 0 < b) (hd : 0 < d) (hf : 0 < f) (h1 : leF a b c d) (h2 : leF c d e f) : leF a b e f := by
  unfold leF at *
  have p1 := Int.mul_le_mul_of_nonneg_right h1 (Int.le_of_lt hf)
  have p2 := Int.mul_le_mul_of_nonneg_right h2 (Int.le_of_lt hb)
  have : a * f * d ≤ e * b * d := by grind
  exact Int.le_of_mul_le_mul_right this hd
theorem cmp_le {n d n' d' : Int} (h : validF n d = true) (h' : validF n' d' = true) : cmpF n d n' d' ≤ 0 ↔ leF n d n' d' := by
  unfold cmpF sgn leF
  rw [if_pos ⟨h, h'⟩]
  generalize n * d' = A
  generalize n' * d = C
  split
  · omega
  · split <;> omega
theorem cmp_ge {n d n' d' : Int} (h : validF n d = true) (h' : validF n' d' = true) : 0 ≤ cmpF n d n' d' ↔ leF n' d' n d := by
  unfold cmpF sgn leF
  rw [if_pos ⟨h, h'⟩]
  generalize n * d' = A
  generalize n' * d = C
  split
  · omega
  · split <;> omega
/-- the verdicts -/
def atLeastF (ln ld hn hd cn cd : Int) : Int := if (validF ln ld = true ∧ validF hn hd = true ∧ cmpF ln ld hn hd ≤ 0) ∧ validF cn cd = true then (if 0 ≤ cmpF ln ld cn cd then 2 else if cmpF hn hd cn cd < 0 then 0 else 1) else 1
def atMostF (ln ld hn hd cn cd : Int) : Int := if (validF ln ld = true ∧ validF hn hd = true ∧ cmpF ln ld hn hd ≤ 0) ∧ validF cn cd = true then (if cmpF hn hd cn cd ≤ 0 then 2 else if 0 < cmpF ln ld cn cd then 0 else 1) else 1
theorem atLeast_val {ln ld hn hd cn cd : Int} (h1 : validF ln ld = true) (h2 : validF hn hd = true) (h3 : cmpF ln ld hn hd ≤ 0) (h4 : validF cn cd = true) : atLeastF ln ld hn hd cn cd = if 0 ≤ cmpF ln ld cn cd then 2 else if cmpF hn hd cn cd < 0 then 0 else 1 := by
  unfold atLeastF
  exact if_pos ⟨⟨h1, h2, h3⟩, h4⟩
theorem atMost_val {ln ld hn hd cn cd : Int} (h1 : validF ln ld = true) (h2 : validF hn hd = true) (h3 : cmpF ln ld hn hd ≤ 0) (h4 : validF cn cd = true) : atMostF ln ld hn hd cn cd = if cmpF hn hd cn cd ≤ 0 then 2 else if 0 < cmpF ln ld cn cd then 0 else 1 := by
  unfold atMostF
  exact if_pos ⟨⟨h1, h2, h3⟩, h4⟩
theorem atLeast_out {ln ld hn hd cn cd : Int} (h4 : ¬ validF cn cd = true) : atLeastF ln ld hn hd cn cd = 1 := by
  unfold atLeastF
  exact if_neg (fun k => h4 k.2)
theorem atMost_out {ln ld hn hd cn cd : Int} (h4 : ¬ validF cn cd = true) : atMostF ln ld hn hd cn cd = 1 := by
  unfold atMostF
  exact if_neg (fun k => h4 k.2)
/-- an interval within another one -/
structure InF (a b c d ln ld hn hd : Int) : Prop where
  v1 : validF a b = true
  v2 : validF c d = true
  v3 : validF ln ld = true
  v4 : validF hn hd = true
  l1 : leF ln ld a b
  l2 : leF a b c d
  l3 : leF c d hn hd
theorem atLeast_narrow {a b c d ln ld hn hd cn cd : Int} (h : InF a b c d ln ld hn hd) : atLeastF ln ld hn hd cn cd = 1 ∨ atLeastF a b c d cn cd = atLeastF ln ld hn hd cn cd := by
  obtain ⟨v1, v2, v3, v4, l1, l2, l3⟩ := h
  have p1 := valid_pos v1; have p2 := valid_pos v2; have p3 := valid_pos v3; have p4 := valid_pos v4
  by_cases vc : validF cn cd = true
  · have pc := valid_pos vc
    have l4 := leF_trans (by omega) (by omega) (by omega) (leF_trans (by omega) (by omega) (by omega) l1 l2) l3
    rw [atLeast_val v3 v4 ((cmp_le v3 v4).mpr l4) vc, atLeast_val v1 v2 ((cmp_le v1 v2).mpr l2) vc]
    by_cases c1 : 0 ≤ cmpF ln ld cn cd
    · have := (cmp_ge v1 vc).mpr (leF_trans (by omega) (by omega) (by omega) ((cmp_ge v3 vc).mp c1) l1)
      rw [if_pos c1, if_pos this]; exact .inr rfl
    · rw [if_neg c1]
      by_cases c2 : cmpF hn hd cn cd < 0
      · have e1 : ¬ 0 ≤ cmpF c d cn cd := fun k => absurd ((cmp_ge v4 vc).mpr (leF_trans (by omega) (by omega) (by omega) ((cmp_ge v2 vc).mp k) l3)) (by omega)
        have e2 : ¬ 0 ≤ cmpF a b cn cd := fun k => e1 ((cmp_ge v2 vc).mpr (leF_trans (by omega) (by omega) (by omega) ((cmp_ge v1 vc).mp k) l2))
        rw [if_pos c2, if_neg e2, if_pos (by omega)]; exact .inr rfl
      · rw [if_neg c2]; exact .inl rfl
  · exact .inl (atLeast_out vc)
theorem atMost_narrow {a b c d ln ld hn hd cn cd : Int} (h : InF a b c d ln ld hn hd) : atMostF ln ld hn hd cn cd = 1 ∨ atMostF a b c d cn cd = atMostF ln ld hn hd cn cd := by
  obtain ⟨v1, v2, v3, v4, l1, l2, l3⟩ := h
  have p1 := valid_pos v1; have p2 := valid_pos v2; have p3 := valid_pos v3; have p4 := valid_pos v4
  by_cases vc : validF cn cd = true
  · have pc := valid_pos vc
    have l4 := leF_trans (by omega) (by omega) (by omega) (leF_trans (by omega) (by omega) (by omega) l1 l2) l3
    rw [atMost_val v3 v4 ((cmp_le v3 v4).mpr l4) vc, atMost_val v1 v2 ((cmp_le v1 v2).mpr l2) vc]
    by_cases c1 : cmpF hn hd cn cd ≤ 0
    · have := (cmp_le v2 vc).mpr (leF_trans (by omega) (by omega) (by omega) l3 ((cmp_le v4 vc).mp c1))
      rw [if_pos c1, if_pos this]; exact .inr rfl
    · rw [if_neg c1]
      by_cases c2 : 0 < cmpF ln ld cn cd
      · have e1 : ¬ cmpF a b cn cd ≤ 0 := fun k => absurd ((cmp_le v3 vc).mpr (leF_trans (by omega) (by omega) (by omega) l1 ((cmp_le v1 vc).mp k))) (by omega)
        have e2 : ¬ cmpF c d cn cd ≤ 0 := fun k => e1 ((cmp_le v1 vc).mpr (leF_trans (by omega) (by omega) (by omega) l2 ((cmp_le v2 vc).mp k)))
        rw [if_pos c2, if_neg e2, if_pos (by omega)]; exact .inr rfl
      · rw [if_neg c2]; exact .inl rfl
  · exact .inl (atMost_out vc)
theorem verdict_range (ln ld hn hd cn cd : Int) : (atLeastF ln ld hn hd cn cd = 0 ∨ atLeastF ln ld hn hd cn cd = 1 ∨ atLeastF ln ld hn hd cn cd = 2) ∧ (atMostF ln ld hn hd cn cd = 0 ∨ atMostF ln ld hn hd cn cd = 1 ∨ atMostF ln ld hn hd cn cd = 2) := by
  unfold atLeastF atMostF
  constructor <;> (split <;> try split <;> try split) <;> omega
/-- a point inside: the four steps -/
theorem inner_between {ln ld hn hd wn wd pn pd qn qd zn zd t : Int} (hld : 0 < ld) (hhd : 0 < hd) (hwd : 0 < wd) (hpd : 0 < pd) (hqd : 0 < qd) (hzd : 0 < zd) (t0 : 0 ≤ t) (t8 : t ≤ 8) (hle : ln * hd ≤ hn * ld)
    (ew : wn * (hd * ld) = (hn * ld - ln * hd) * wd) (ep : pn * (wd * 8) = wn * pd) (eq : qn * pd = (pn * t) * qd) (ez : zn * (ld * qd) = (ln * qd + qn * ld) * zd) :
    ln * zd ≤ zn * ld ∧ zn * hd ≤ hn * zd := by
  have hw : 0 ≤ wn := by
    refine Int.not_lt.mp fun h => ?_
    have a := Int.mul_neg_of_neg_of_pos h (Int.mul_pos hhd hld)
    have b := Int.mul_nonneg (show 0 ≤ hn * ld - ln * hd by omega) (Int.le_of_lt hwd)
    omega
  have hp : 0 ≤ pn := by
    refine Int.not_lt.mp fun h => ?_
    have a := Int.mul_neg_of_neg_of_pos h (show 0 < wd * 8 by omega)
    have b := Int.mul_nonneg hw (Int.le_of_lt hpd)
    omega
  have hq : 0 ≤ qn := by
    refine Int.not_lt.mp fun h => ?_
    have a := Int.mul_neg_of_neg_of_pos h hpd
    have b := Int.mul_nonneg (Int.mul_nonneg hp t0) (Int.le_of_lt hqd)
    omega
  constructor
  · have a : 0 ≤ qn * (ld * zd) := Int.mul_nonneg hq (Int.le_of_lt (Int.mul_pos hld hzd))
    have b : ln * zd * qd ≤ zn * ld * qd := by grind
    exact Int.le_of_mul_le_mul_right b hqd
  · have e1 : qn * 8 * wd * pd = t * qd * wn * pd := by grind
    have e2 : qn * 8 * wd = t * qd * wn := Int.eq_of_mul_eq_mul_right (by omega) e1
    have e3 : t * (qd * wn) ≤ 8 * (qd * wn) := Int.mul_le_mul_of_nonneg_right t8 (Int.mul_nonneg (Int.le_of_lt hqd) hw)
    have e4 : qn * wd ≤ qd * wn := by grind
    have e5 : qn * wd * (ld * hd) ≤ qd * wn * (ld * hd) := Int.mul_le_mul_of_nonneg_right e4 (Int.le_of_lt (Int.mul_pos hld hhd))
    have q1 : qn * wd * (ld * hd) = qn * ld * hd * wd := by ac_rfl
    have q2 : qd * wn * (ld * hd) = (hn * ld - ln * hd) * qd * wd := by
      have : qd * wn * (ld * hd) = qd * (wn * (hd * ld)) := by ac_rfl
      rw [this, ew]
      ac_rfl
    have e6 : qn * ld * hd * wd ≤ (hn * ld - ln * hd) * qd * wd := by rw [← q1, ← q2]; exact e5
    clear q1 q2 e5 e4 e3 e2 e1
    have e7 : qn * ld * hd ≤ (hn * ld - ln * hd) * qd := Int.le_of_mul_le_mul_right e6 hwd
    have e8 : qn * ld * hd * zd ≤ (hn * ld - ln * hd) * qd * zd := Int.mul_le_mul_of_nonneg_right e7 (Int.le_of_lt hzd)
    clear e6 e7 ew ep eq hw hp
    have e9 : zn * hd * (ld * qd) ≤ hn * zd * (ld * qd) := by
      have q3 : zn * hd * (ld * qd) = (ln * qd + qn * ld) * zd * hd := by
        have : zn * hd * (ld * qd) = zn * (ld * qd) * hd := by ac_rfl
        rw [this, ez]
      have q4 : (ln * qd + qn * ld) * zd * hd = ln * qd * zd * hd + qn * ld * hd * zd := by grind
      have q5 : hn * zd * (ld * qd) = ln * qd * zd * hd + (hn * ld - ln * hd) * qd * zd := by grind
      rw [q3, q4, q5]
      omega
    exact Int.le_of_mul_le_mul_right e9 (Int.mul_pos hld hqd)
end Go.Proofs.YtbbddeilbcpmiaaDoor.Fr

/- Plain facts on numbers of eight digits of 32 bits. No program. -/
namespace Go.Proofs.YtbbddeilbcpmiaaDoor.N8
def B : Nat := 4294967296
/-- the value of the first n digits -/
def V (o : Nat → Nat) : Nat → Nat
  | 0 => 0
  | n + 1 => V o n + o n * B ^ n
theorem V_succ (o : Nat → Nat) (n : Nat) : V o (n + 1) = V o n + o n * B ^ n := rfl
def upd (o : Nat → Nat) (j v : Nat) : Nat → Nat := fun i => if i = j then v else o i
theorem upd_same (o : Nat → Nat) (j v : Nat) : upd o j v j = v := by simp [upd]
theorem upd_other (o : Nat → Nat) {j i : Nat} (v : Nat) (h : i ≠ j) : upd o j v i = o i := by simp [upd, h]
theorem V_far (o : Nat → Nat) {j : Nat} (v : Nat) : ∀ n, n ≤ j → V (upd o j v) n = V o n
  | 0, _ => rfl
  | n + 1, h => by rw [V, V, V_far o v n (by omega), upd_other o v (by omega)]
theorem V_upd (o : Nat → Nat) {j : Nat} (v : Nat) : ∀ n, j < n → V (upd o j v) n + o j * B ^ j = V o n + v * B ^ j
  | 0, h => by omega
  | n + 1, h => by
    by_cases e : j = n
    · subst e
      rw [V, V, V_far o v j (Nat.le_refl _), upd_same]
      omega
    · have := V_upd o (j := j) v n (by omega)
      rw [V, V, upd_other o v (by omega)]
      omega
theorem V_lt {o : Nat → Nat} : ∀ n, (∀ i, i < n → o i < B) → V o n < B ^ n
  | 0, _ => by simp [V]
  | n + 1, h => by
    have h1 := V_lt n (fun i hi => h i (by omega))
    have h2 := h n (by omega)
    rw [V, Nat.pow_succ]
    have : o n * B ^ n ≤ (B - 1) * B ^ n := Nat.mul_le_mul_right _ (by omega)
    have e : B ^ n * B = (B - 1) * B ^ n + B ^ n := by
      rw [Nat.mul_comm, ← Nat.succ_mul]
      rfl
    omega
theorem V_split (b : Nat → Nat) (m : Nat) : ∀ r, ∃ R, V b (m + r) = V b m + R * B ^ m
  | 0 => ⟨0, by simp⟩
  | r + 1 => by
    obtain ⟨R, h⟩ := V_split b m r
    refine ⟨R + b (m + r) * B ^ r, ?_⟩
    rw [← Nat.add_assoc, V, h, Nat.pow_add, Nat.add_mul, Nat.mul_assoc (b (m + r)), Nat.mul_comm (B ^ r)]
    omega
/-- one step of the schoolbook's row -/
def step (x : Nat) (o : Nat → Nat) (c j : Nat) : (Nat → Nat) × Nat := (upd o j ((c + o j + x) % B), (c + o j + x) / B)
theorem step_V (x : Nat) (o : Nat → Nat) (c : Nat) {j n : Nat} (h : j < n) : V (step x o c j).1 n + (step x o c j).2 * B ^ (j + 1) = V o n + (c + x) * B ^ j := by
  have h1 := V_upd o ((c + o j + x) % B) n h
  unfold step
  dsimp only
  have h2 : ((c + o j + x) % B) * B ^ j + ((c + o j + x) / B) * B ^ (j + 1) = (c + o j + x) * B ^ j := by
    rw [Nat.pow_succ, Nat.mul_comm (B ^ j) B, ← Nat.mul_assoc, ← Nat.add_mul, Nat.mul_comm _ B, Nat.mod_add_div]
  have h3 : (c + o j + x) * B ^ j = (c + x) * B ^ j + o j * B ^ j := by rw [← Nat.add_mul]; congr 1; omega
  omega
/-- a row: k steps -/
def row (a : Nat) (b : Nat → Nat) (i : Nat) (o : Nat → Nat) : Nat → (Nat → Nat) × Nat
  | 0 => (o, 0)
  | k + 1 => step (a * b k) (row a b i o k).1 (row a b i o k).2 (i + k)
theorem row_V (a : Nat) (b : Nat → Nat) (i : Nat) (o : Nat → Nat) (n : Nat) : ∀ k, i + k ≤ n → V (row a b i o k).1 n + (row a b i o k).2 * B ^ (i + k) = V o n + a * V b k * B ^ i
  | 0, _ => by simp [row, V]
  | k + 1, h => by
    have h1 := row_V a b i o n k (by omega)
    have h2 := step_V (a * b k) (row a b i o k).1 (row a b i o k).2 (j := i + k) (n := n) (by omega)
    have e1 : a * V b (k + 1) * B ^ i = a * V b k * B ^ i + a * b k * B ^ (i + k) := by
      rw [V_succ, Nat.mul_add, Nat.add_mul, Nat.pow_add, Nat.mul_comm (B ^ i) (B ^ k)]
      simp only [Nat.mul_assoc]
    have e2 : ((row a b i o k).2 + a * b k) * B ^ (i + k) = (row a b i o k).2 * B ^ (i + k) + a * b k * B ^ (i + k) := Nat.add_mul _ _ _
    rw [e1]
    rw [e2] at h2
    show V (step (a * b k) (row a b i o k).1 (row a b i o k).2 (i + k)).1 n + (step (a * b k) (row a b i o k).1 (row a b i o k).2 (i + k)).2 * B ^ (i + k + 1) = _
    rw [h2, ← Nat.add_assoc, h1, Nat.add_assoc]
theorem row_lt {a : Nat} {b : Nat → Nat} {i : Nat} {o : Nat → Nat} (ha : a < B) (hb : ∀ k, k < 8 → b k < B) (ho : ∀ k, k < 8 → o k < B) : ∀ k, i + k ≤ 8 → (∀ j, j < 8 → (row a b i o k).1 j < B) ∧ (row a b i o k).2 < B
  | 0, _ => ⟨ho, show 0 < B by decide⟩
  | k + 1, h => by
    obtain ⟨h1, h2⟩ := row_lt (i := i) ha hb ho k (by omega)
    have h3 := hb k (by omega)
    have h4 := h1 (i + k) (by omega)
    have h5 : a * b k ≤ 4294967295 * 4294967295 := Nat.mul_le_mul (by unfold B at ha; omega) (by unfold B at h3; omega)
    refine ⟨fun j hj => ?_, ?_⟩
    · unfold row step
      dsimp only
      by_cases e : j = i + k
      · rw [e, upd_same]; exact Nat.mod_lt _ (by decide)
      · rw [upd_other _ _ e]; exact h1 j hj
    · unfold row step
      dsimp only
      unfold B at *
      omega
/-- all rows -/
def rows (a b : Nat → Nat) : Nat → (Nat → Nat)
  | 0 => fun _ => 0
  | i + 1 => (row (a i) b i (rows a b i) (8 - i)).1
theorem rows_lt {a b : Nat → Nat} (ha : ∀ k, k < 8 → a k < B) (hb : ∀ k, k < 8 → b k < B) : ∀ i, i ≤ 8 → ∀ j, j < 8 → rows a b i j < B
  | 0, _, _, _ => by simp only [rows]; decide
  | i + 1, h, j, hj => (row_lt (ha i (by omega)) hb (rows_lt ha hb i (by omega)) (8 - i) (by omega)).1 j hj
theorem rows_V {a b : Nat → Nat} : ∀ i, i ≤ 8 → V (rows a b i) 8 % B ^ 8 = (V a i * V b 8) % B ^ 8
  | 0, _ => by simp [rows, V]
  | i + 1, h => by
    have ih := rows_V (a := a) (b := b) i (by omega)
    have h1 := row_V (a i) b i (rows a b i) 8 (8 - i) (by omega)
    rw [show i + (8 - i) = 8 from by omega] at h1
    obtain ⟨R, hR⟩ := V_split b (8 - i) i
    rw [show 8 - i + i = 8 from by omega] at hR
    have e1 : V (rows a b (i + 1)) 8 % B ^ 8 = (V (rows a b i) 8 + a i * V b (8 - i) * B ^ i) % B ^ 8 := by
      rw [← h1, Nat.add_mul_mod_self_right]
      rfl
    have e2 : B ^ (8 - i) * B ^ i = B ^ 8 := by rw [← Nat.pow_add]; congr 1; omega
    have e3 : V a (i + 1) * V b 8 = (V a i * V b 8 + a i * V b (8 - i) * B ^ i) + (a i * R) * B ^ 8 := by
      rw [V_succ, Nat.add_mul, Nat.mul_assoc (a i) (B ^ i), Nat.add_assoc]
      congr 1
      rw [Nat.mul_comm (B ^ i), hR, Nat.add_mul, Nat.mul_add, ← e2]
      simp only [Nat.mul_assoc]
    rw [e1, e3, Nat.add_mul_mod_self_right, Nat.add_mod, ih, ← Nat.add_mod]
theorem times_V {a b : Nat → Nat} (ha : ∀ k, k < 8 → a k < B) (hb : ∀ k, k < 8 → b k < B) (h : V a 8 * V b 8 < B ^ 8) : V (rows a b 8) 8 = V a 8 * V b 8 := by
  have h1 := rows_V (a := a) (b := b) 8 (Nat.le_refl _)
  rw [Nat.mod_eq_of_lt (V_lt 8 (rows_lt ha hb 8 (Nat.le_refl _))), Nat.mod_eq_of_lt h] at h1
  exact h1
/-- the comparison from the top digit on -/
def cmpD (f g : Nat → Nat) : Nat → Int
  | 0 => 0
  | k + 1 => if f k < g k then -1 else if f k > g k then 1 else cmpD f g k
theorem cmpD_V {f g : Nat → Nat} : ∀ n, (∀ i, i < n → f i < B) → (∀ i, i < n → g i < B) → cmpD f g n = if V f n < V g n then -1 else if V g n < V f n then 1 else 0
  | 0, _, _ => by simp [cmpD, V]
  | n + 1, hf, hg => by
    have h1 := V_lt n (fun i hi => hf i (by omega))
    have h2 := V_lt n (fun i hi => hg i (by omega))
    have ih := cmpD_V (f := f) (g := g) n (fun i hi => hf i (by omega)) (fun i hi => hg i (by omega))
    rw [cmpD, V_succ, V_succ]
    by_cases c1 : f n < g n
    · have : (f n + 1) * B ^ n ≤ g n * B ^ n := Nat.mul_le_mul_right _ c1
      rw [Nat.add_mul, Nat.one_mul] at this
      rw [if_pos c1, if_pos (by omega)]
    · rw [if_neg c1]
      by_cases c2 : f n > g n
      · have : (g n + 1) * B ^ n ≤ f n * B ^ n := Nat.mul_le_mul_right _ c2
        rw [Nat.add_mul, Nat.one_mul] at this
        rw [if_pos c2, if_neg (by omega), if_pos (by omega)]
      · have e : f n = g n := by omega
        rw [if_neg c2, ih, e]
        by_cases c3 : V f n < V g n
        · rw [if_pos c3, if_pos (by omega)]
        · by_cases c4 : V g n < V f n
          · rw [if_neg c3, if_pos c4, if_neg (by omega), if_pos (by omega)]
          · rw [if_neg c3, if_neg c4, if_neg (by omega), if_neg (by omega)]
/-- From -/
def fromD (n : Nat) : Nat → Nat := fun i => if i = 0 then n % B else if i = 1 then n / B else 0
theorem fromD_lt {n : Nat} (h : n < 18446744073709551616) (i : Nat) : fromD n i < B := by
  unfold fromD B
  split
  · omega
  · split <;> omega
theorem fromD_V2 (n : Nat) : ∀ k, V (fromD n) (k + 2) = n
  | 0 => by
    have e0 : fromD n 0 = n % B := by unfold fromD; rw [if_pos rfl]
    have e1 : fromD n 1 = n / B := by unfold fromD; rw [if_neg (by omega), if_pos rfl]
    show 0 + fromD n 0 * B ^ 0 + fromD n 1 * B ^ 1 = n
    rw [e0, e1, Nat.pow_zero, Nat.pow_one, Nat.mul_one, Nat.zero_add, Nat.mul_comm]
    exact Nat.mod_add_div n B
  | k + 1 => by
    have e : fromD n (k + 2) = 0 := by unfold fromD; rw [if_neg (by omega), if_neg (by omega)]
    show V (fromD n) (k + 2) + fromD n (k + 2) * B ^ (k + 2) = n
    rw [fromD_V2 n k, e, Nat.zero_mul, Nat.add_zero]
theorem fromD_V (n : Nat) : V (fromD n) 8 = n := fromD_V2 n 6
end Go.Proofs.YtbbddeilbcpmiaaDoor.N8
