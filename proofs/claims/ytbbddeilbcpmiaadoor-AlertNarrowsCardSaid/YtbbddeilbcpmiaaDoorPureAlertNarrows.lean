/- The plain law of AlertNarrows. -/
import Derived.Test.YtbbddeilbcpmiaaDoorPureNar
import Derived.Test.YtbbddeilbcpmiaaDoorN18
namespace Go.Proofs.YtbbddeilbcpmiaaDoor.Pure
open Go.RowKit Go.Proofs.YtbbddeilbcpmiaaDoor.Q Go.Proofs.YtbbddeilbcpmiaaDoor.Fr Go.Proofs.YtbbddeilbcpmiaaDoorW.PrintWords Go.Proofs.YtbbddeilbcpmiaaDoorW.PrintLast Go.Proofs.YtbbddeilbcpmiaaDoorW.PrintMore
set_option linter.unusedVariables false
set_option linter.unusedSimpArgs false
theorem stepN {α : Type} {g f : Nat → Option α} {r : α} (K : Nat) (h : ∀ k, K ≤ k → g (k + 1) = f k) (e : Ev f r) : Ev g r := by
  obtain ⟨K2, h2⟩ := e
  refine ⟨K + K2 + 1, fun k hk => ?_⟩
  obtain ⟨k, rfl⟩ : ∃ j, k = j + 1 := ⟨k - 1, by omega⟩
  rw [h k (by omega)]
  exact h2 k (by omega)
theorem part_ok {x : S61} (hx : smallI 50 12 x) {a b : Int} (h : (Lit.int .i64 a).wf = true) (h' : (Lit.int .i64 b).wf = true) : ∃ p q r s, InF p q r s x.f0.f0 x.f0.f1 x.f1.f0 x.f1.f1 ∧ Ev (fun k => intervalmonref04_Part.f k x.f0.f0 x.f0.f1 x.f1.f0 x.f1.f1 a b) (p, q, r, s) := by
  obtain ⟨n, d, hs, l1, l2, K1, h1⟩ := inner_ref hx h
  obtain ⟨n', d', hs', l1', l2', K2, h2⟩ := inner_ref hx h'
  obtain ⟨p, q, r, s, hf, g1, g2, g3, hc⟩ := from_two (a := ⟨n, d⟩) (b := ⟨n', d'⟩) hs hs'
  have hin : InF p q r s x.f0.f0 x.f0.f1 x.f1.f0 x.f1.f1 := by
    refine ⟨g1.1, g2.1, hx.1.1, hx.2.1.1, ?_, g3, ?_⟩
    · rcases hc with ⟨rfl, rfl, rfl, rfl⟩ | ⟨rfl, rfl, rfl, rfl⟩
      · exact l1
      · exact l1'
    · rcases hc with ⟨rfl, rfl, rfl, rfl⟩ | ⟨rfl, rfl, rfl, rfl⟩
      · exact l2'
      · exact l2
  refine ⟨p, q, r, s, hin, K1 + K2 + 6, fun k hk => ?_⟩
  have h1' : intervalmonref04_Inner.f k x.f0.f0 x.f0.f1 x.f1.f0 x.f1.f1 a = some (n, d) := h1 k (by omega)
  have h2' : intervalmonref04_Inner.f k x.f0.f0 x.f0.f1 x.f1.f0 x.f1.f1 b = some (n', d') := h2 k (by omega)
  show intervalmonref04_Part.f k x.f0.f0 x.f0.f1 x.f1.f0 x.f1.f1 a b = _
  unfold intervalmonref04_Part.f
  rw [h1', Option.bind_some, h2', Option.bind_some, hf k (by omega)]
  rfl
theorem list_l0 {l : List Int} (hw : ∀ x ∈ l, (Lit.int .i64 x).wf = true) (hl : l.length ≤ 17592186044416) : ∀ (d : Nat) (i : Nat) (acc : List S61), acc.length + d = 10 → i = 2 * acc.length → (∀ x ∈ acc, smallI 50 12 x) →
    ∃ r : List S61, (∀ x ∈ r, smallI 50 12 x) ∧ r.length ≤ 10 ∧ Ev (fun k => intervalmonref04_List.l0 k l 10 acc (i : Int)) r := by
  intro d
  induction d with
  | zero =>
    intro i acc hd hi ha
    refine ⟨acc, ha, by omega, 1, fun k hk => ?_⟩
    obtain ⟨k, rfl⟩ : ∃ j, k = j + 1 := ⟨k - 1, by omega⟩
    show intervalmonref04_List.l0 (k + 1) l 10 acc (i : Int) = some acc
    rw [intervalmonref04_List.l0, if_neg (show ¬ (acc.length : Int) < 10 by omega)]
    simp
  | succ d ih =>
    intro i acc hd hi ha
    have e1 : wrap64 ((i : Int) + 1) = ((i + 1 : Nat) : Int) := w1 (by omega)
    have e2 : wrap64 ((i : Int) + 2) = ((i + 2 : Nat) : Int) := by rw [w64 (by omega) (by omega)]; rfl
    by_cases c : ((i + 1 : Nat) : Int) < (l.length : Int)
    · have m1 : (Lit.int .i64 (rd l (i : Int))).wf = true := hw _ (by rw [rdN]; exact getD_mem (by omega))
      have m2 : (Lit.int .i64 (rd l ((i + 1 : Nat) : Int))).wf = true := hw _ (by rw [rdN]; exact getD_mem (by omega))
      obtain ⟨x, hx, K, hK⟩ := small_ref04 m1 m2
      obtain ⟨r, g1, g2, g3⟩ := ih (i + 2) (acc ++ [x]) (by simp; omega) (by simp; omega) (fun y hy => by
        rcases List.mem_append.mp hy with h | h
        · exact ha y h
        · rw [List.mem_singleton.mp h]; exact hx)
      refine ⟨r, g1, g2, stepN K (fun k hk => ?_) g3⟩
      have hK' : intervalmonref04_Small.f k (rd l (i : Int)) (rd l ((i + 1 : Nat) : Int)) = some (x.f0.f0, x.f0.f1, x.f1.f0, x.f1.f1) := hK k hk
      show intervalmonref04_List.l0 (k + 1) l 10 acc (i : Int) = _
      rw [intervalmonref04_List.l0, e1, if_pos c, if_pos (by omega), if_pos (by omega), if_pos (by omega), if_pos (by omega), hK', Option.bind_some, if_pos (by omega), e2]
    · refine ⟨acc, ha, by omega, 1, fun k hk => ?_⟩
      obtain ⟨k, rfl⟩ : ∃ j, k = j + 1 := ⟨k - 1, by omega⟩
      show intervalmonref04_List.l0 (k + 1) l 10 acc (i : Int) = some acc
      rw [intervalmonref04_List.l0, e1, if_neg c]
/-- the narrower verdicts are the wider ones, wherever these are no May -/
def NarF (n : Nat) (s s' : List Int) : Prop := s.length = n ∧ s'.length = n ∧ ∀ j, j < n → (0 ≤ s.getD j 0 ∧ s.getD j 0 ≤ 2) ∧ (0 ≤ s'.getD j 0 ∧ s'.getD j 0 ≤ 2) ∧ (s.getD j 0 = 1 ∨ s'.getD j 0 = s.getD j 0)
theorem NarF.snoc {n : Nat} {s s' : List Int} (h : NarF n s s') {x y : Int} (hx : x = 0 ∨ x = 1 ∨ x = 2) (hy : y = 0 ∨ y = 1 ∨ y = 2) (hxy : x = 1 ∨ y = x) : NarF (n + 1) (s ++ [x]) (s' ++ [y]) := by
  obtain ⟨h1, h2, h3⟩ := h
  refine ⟨by simp [h1], by simp [h2], fun j hj => ?_⟩
  by_cases c : j < n
  · rw [snoc_ltN s x 0 (by omega), snoc_ltN s' y 0 (by omega)]
    exact h3 j c
  · rw [snoc_eqN s x 0 (by omega), snoc_eqN s' y 0 (by omega)]
    exact ⟨by omega, by omega, hxy⟩
theorem hy_step {x y u v : Int} (hx : 0 ≤ x ∧ x ≤ 2) (hx' : 0 ≤ y ∧ y ≤ 2) (hu : 0 ≤ u ∧ u ≤ 2) (hu' : 0 ≤ v ∧ v ≤ 2) (hxy : x = 1 ∨ y = x) (huv : u = 1 ∨ v = u) : ∀ l g l' g' : Bool, (l = true → l' = true) → (g' = true → g = true) → (l' = true → g' = true) →
    (((x == 2) || (l && !(u != 0))) = true → ((y == 2) || (l' && !(v != 0))) = true) ∧ (((y != 0) || (g' && !(v == 2))) = true → ((x != 0) || (g && !(u == 2))) = true) ∧ (((y == 2) || (l' && !(v != 0))) = true → ((y != 0) || (g' && !(v == 2))) = true) := by
  have h1 : x = 0 ∨ x = 1 ∨ x = 2 := by omega
  have h2 : y = 0 ∨ y = 1 ∨ y = 2 := by omega
  have h3 : u = 0 ∨ u = 1 ∨ u = 2 := by omega
  have h4 : v = 0 ∨ v = 1 ∨ v = 2 := by omega
  clear hx hx' hu hu'
  rcases h1 with rfl | rfl | rfl <;> rcases h2 with rfl | rfl | rfl <;> first | (exfalso; omega) | skip
  all_goals rcases h3 with rfl | rfl | rfl <;> rcases h4 with rfl | rfl | rfl <;> first | (exfalso; omega) | decide
theorem hyout_nar : ∀ l g l' g' : Bool, (l = true → l' = true) → (g' = true → g = true) → (l' = true → g' = true) → hyOut l g = 1 ∨ hyOut l' g' = hyOut l g := by decide
theorem hygo_nar {n : Nat} {s s' c c' : List Int} (hs : NarF n s s') (hc : NarF n c c') : ∀ (d i : Nat) (l g l' g' : Bool) (acc acc' : List Int), i + d = n → acc.length = i → acc'.length = i → (∀ j, j < i → acc.getD j 0 = 1 ∨ acc'.getD j 0 = acc.getD j 0) → (l = true → l' = true) → (g' = true → g = true) → (l' = true → g' = true) →
    (hyGo s c d (i : Int) l g acc).length = n ∧ (hyGo s' c' d (i : Int) l' g' acc').length = n ∧ ∀ j, j < n → (hyGo s c d (i : Int) l g acc).getD j 0 = 1 ∨ (hyGo s' c' d (i : Int) l' g' acc').getD j 0 = (hyGo s c d (i : Int) l g acc).getD j 0 := by
  intro d
  induction d with
  | zero =>
    intro i l g l' g' acc acc' hi ha ha' hr _ _ _
    exact ⟨by rw [hyGo]; omega, by rw [hyGo]; omega, fun j hj => by rw [hyGo, hyGo]; exact hr j (by omega)⟩
  | succ d ih =>
    intro i l g l' g' acc acc' hi ha ha' hr q1 q2 q3
    obtain ⟨a1, a2, a3⟩ := hs.2.2 i (by omega)
    obtain ⟨b1, b2, b3⟩ := hc.2.2 i (by omega)
    have r1 : rd s (i : Int) = s.getD i 0 := rdN s i
    have r2 : rd s' (i : Int) = s'.getD i 0 := rdN s' i
    have r3 : rd c (i : Int) = c.getD i 0 := rdN c i
    have r4 : rd c' (i : Int) = c'.getD i 0 := rdN c' i
    obtain ⟨k1, k2, k3⟩ := hy_step a1 a2 b1 b2 a3 b3 l g l' g' q1 q2 q3
    have hn := hyout_nar _ _ _ _ k1 k2 k3
    rw [hyGo, hyGo, r1, r2, r3, r4, if_neg (by omega), if_neg (by omega), show (i : Int) + 1 = ((i + 1 : Nat) : Int) from rfl]
    refine ih (i + 1) _ _ _ _ _ _ (by omega) (by simp [ha]) (by simp [ha']) (fun j hj => ?_) k1 k2 k3
    by_cases c : j < i
    · rw [snoc_ltN acc _ 0 (by omega), snoc_ltN acc' _ 0 (by omega)]
      exact hr j c
    · rw [snoc_eqN acc _ 0 (by omega), snoc_eqN acc' _ 0 (by omega)]
      exact hn
theorem narrow_l1 {x y : List Int} {n : Nat} (hn : n ≤ 10) (hx : x.length = n) (hy : y.length = n) (h : ∀ j, j < n → x.getD j 0 = 1 ∨ y.getD j 0 = x.getD j 0) : ∀ (d i : Nat), i + d = n → Ev (fun k => intervalmonlaw28_AlertNarrows.l1 k x y (i : Int)) true := by
  intro d
  induction d with
  | zero =>
    intro i hi
    refine ⟨1, fun k hk => ?_⟩
    obtain ⟨k, rfl⟩ : ∃ j, k = j + 1 := ⟨k - 1, by omega⟩
    show intervalmonlaw28_AlertNarrows.l1 (k + 1) x y (i : Int) = some true
    rw [intervalmonlaw28_AlertNarrows.l1, if_neg (by omega)]
    rfl
  | succ d ih =>
    intro i hi
    refine stepN 0 (fun k _ => ?_) (ih (i + 1) (by omega))
    show intervalmonlaw28_AlertNarrows.l1 (k + 1) x y (i : Int) = _
    rw [intervalmonlaw28_AlertNarrows.l1, if_pos (by omega), if_pos (by omega), rdN, rdN, w1 (by omega)]
    by_cases c : x.getD i 0 = 1
    · rw [if_pos c]
    · rw [if_neg c, if_pos (by omega), if_pos ((h i (by omega)).resolve_left c)]
theorem narrow_l0 {m : List Int} {p q : Int} (hm : ∀ x ∈ m, (Lit.int .i64 x).wf = true) (hp : (Lit.int .i64 p).wf = true) (hq : (Lit.int .i64 q).wf = true) {W : List S61} (hW : ∀ x ∈ W, smallI 50 12 x) (hl : W.length ≤ 10) :
    ∀ (d i : Nat) (s c s' c' : List Int), i + d = W.length → NarF i s s' → NarF i c c' → Ev (fun k => intervalmonlaw28_AlertNarrows.l0 k m p q W s c s' c' (i : Int)) true := by
  obtain ⟨pn, pd, hps, KP, hP⟩ := small_ref hp
  obtain ⟨qn, qd, hqs, KQ, hQ⟩ := small_ref hq
  obtain ⟨bp1, bp2⟩ := i64B_valid hps.1
  obtain ⟨bq1, bq2⟩ := i64B_valid hqs.1
  intro d
  induction d with
  | zero =>
    intro i s c s' c' hi hs hc
    have hg := hygo_nar hs hc i 0 false false false false [] [] (by omega) rfl rfl (fun j hj => by omega) (fun h => h) (fun h => h) (fun h => h)
    obtain ⟨g1, g2, g3⟩ := hg
    have e1 : alert_Hysteresis.f s c = some (hyGo s c i 0 false false []) := by
      unfold alert_Hysteresis.f
      rw [if_pos (by have := hs.1; omega), hs.1, hc.1, Nat.min_self]
    have e2 : alert_Hysteresis.f s' c' = some (hyGo s' c' i 0 false false []) := by
      unfold alert_Hysteresis.f
      rw [if_pos (by have := hs.2.1; omega), hs.2.1, hc.2.1, Nat.min_self]
    have hL := narrow_l1 (by omega) g1 g2 g3 i 0 (by omega)
    refine stepN 0 (fun k _ => ?_) (f := fun k => intervalmonlaw28_AlertNarrows.j1 k (hyGo s c i 0 false false []) (hyGo s' c' i 0 false false []) false) ?_
    · show intervalmonlaw28_AlertNarrows.l0 (k + 1) m p q W s c s' c' (i : Int) = _
      have g1' : (hyGo s c i 0 false false []).length = i := g1
      have g2' : (hyGo s' c' i 0 false false []).length = i := g2
      rw [intervalmonlaw28_AlertNarrows.l0, if_neg (by omega), e1, Option.bind_some, e2, Option.bind_some, if_pos (by omega), g2', show ((i : Int) != (W.length : Int)) = false from by simp; omega]
    · refine stepN 0 (fun k _ => ?_) hL
      show intervalmonlaw28_AlertNarrows.j1 (k + 1) _ _ false = _
      rw [intervalmonlaw28_AlertNarrows.j1, if_neg (by decide)]
      rfl
  | succ d ih =>
    intro i s c s' c' hi hs hc
    have hx : smallI 50 12 (rd_T61 W (i : Int)) := by
      refine hW _ ?_
      unfold rd_T61
      rw [List.getD_eq_getElem?_getD, List.getElem?_eq_getElem (by omega)]
      exact List.getElem_mem _
    generalize hX : rd_T61 W (i : Int) = X at hx
    obtain ⟨t, ht, t0, t1⟩ := pick_okN hm (wrap64 (2 * (i : Int))) (m := 9) (by omega)
    obtain ⟨u, hu, u0, u1⟩ := pick_okN hm (wrap64 (wrap64 (2 * (i : Int)) + 1)) (m := 9) (by omega)
    have wt : (Lit.int .i64 t).wf = true := WalkArith.wf_i64 (by omega)
    have wu : (Lit.int .i64 u).wf = true := WalkArith.wf_i64 (by omega)
    obtain ⟨a, b, e, f, hin, K1, h1⟩ := part_ok hx wt wu
    obtain ⟨x1, x2⟩ := i64B_valid hx.1.1
    obtain ⟨x3, x4⟩ := i64B_valid hx.2.1.1
    obtain ⟨y1, y2⟩ := i64B_valid hin.v1
    obtain ⟨y3, y4⟩ := i64B_valid hin.v2
    obtain ⟨K2, h2⟩ := atLeast_prog x1 x2 x3 x4 bp1 bp2
    obtain ⟨K3, h3⟩ := atMost_prog x1 x2 x3 x4 bq1 bq2
    obtain ⟨K4, h4⟩ := atLeast_prog y1 y2 y3 y4 bp1 bp2
    obtain ⟨K5, h5⟩ := atMost_prog y1 y2 y3 y4 bq1 bq2
    have v1 := (verdict_range X.f0.f0 X.f0.f1 X.f1.f0 X.f1.f1 pn pd).1
    have v2 := (verdict_range X.f0.f0 X.f0.f1 X.f1.f0 X.f1.f1 qn qd).2
    have v3 := (verdict_range a b e f pn pd).1
    have v4 := (verdict_range a b e f qn qd).2
    have n1 := atLeast_narrow (cn := pn) (cd := pd) hin
    have n2 := atMost_narrow (cn := qn) (cd := qd) hin
    have l1 := hs.1; have l2 := hs.2.1; have l3 := hc.1; have l4 := hc.2.1
    refine stepN (K1 + K2 + K3 + K4 + K5 + KP + KQ) (fun k hk => ?_) (ih (i + 1) _ _ _ _ (by omega) (hs.snoc v1 v3 n1) (hc.snoc v2 v4 n2))
    have h1' : intervalmonref04_Part.f k X.f0.f0 X.f0.f1 X.f1.f0 X.f1.f1 t u = some (a, b, e, f) := h1 k (by omega)
    have h2' : interval_AtLeast.f k X.f0.f0 X.f0.f1 X.f1.f0 X.f1.f1 pn pd = _ := h2 k (by omega)
    have h3' : interval_AtMost.f k X.f0.f0 X.f0.f1 X.f1.f0 X.f1.f1 qn qd = _ := h3 k (by omega)
    have h4' : interval_AtLeast.f k a b e f pn pd = _ := h4 k (by omega)
    have h5' : interval_AtMost.f k a b e f qn qd = _ := h5 k (by omega)
    have hP' : intervalmonref03_Small.f k p = some (pn, pd) := hP k (by omega)
    have hQ' : intervalmonref03_Small.f k q = some (qn, qd) := hQ k (by omega)
    show intervalmonlaw28_AlertNarrows.l0 (k + 1) m p q W s c s' c' (i : Int) = _
    rw [intervalmonlaw28_AlertNarrows.l0, if_pos (by omega), if_pos (by omega), ht, Option.bind_some, hu, Option.bind_some, hX, h1', Option.bind_some, hP', Option.bind_some]
    simp only [hQ', h2', h3', h4', h5', Option.bind_some]
    rw [if_pos (by omega), if_pos (by omega), if_pos (by omega), if_pos (by omega), w1 (by omega)]
theorem AlertNarrows : intervalmonlaw28_AlertNarrows.Pure := by
  intro l m p q _ hl8 hl _ _ hm hp hq
  obtain ⟨W, hW, hlen, K1, h1⟩ := list_l0 hl (by omega) 10 0 [] rfl rfl (fun x hx => by cases hx)
  obtain ⟨K2, h2⟩ := narrow_l0 hm hp hq hW hlen W.length 0 [] [] [] [] (by omega) ⟨rfl, rfl, fun j hj => by omega⟩ ⟨rfl, rfl, fun j hj => by omega⟩
  refine ⟨K1 + K2, ?_⟩
  have h1' : intervalmonref04_List.f (K1 + K2) l 10 = some W := h1 (K1 + K2) (by omega)
  have h2' : intervalmonlaw28_AlertNarrows.l0 (K1 + K2) m p q W [] [] [] [] 0 = some true := h2 (K1 + K2) (by omega)
  unfold intervalmonlaw28_AlertNarrows.f
  rw [h1', Option.bind_some, h2']
end Go.Proofs.YtbbddeilbcpmiaaDoor.Pure
