/- Plain facts for the laws of chapter 28: the alerts with one field replaced. -/
import Derived.Test.YtbbddeilbcpmiaaDoorPureGen
namespace Go.Proofs.YtbbddeilbcpmiaaDoor.Pure
open Go.RowKit Go.Proofs.YtbbddeilbcpmiaaDoor.Q Go.Proofs.YtbbddeilbcpmiaaDoorW.PrintWords Go.Proofs.YtbbddeilbcpmiaaDoorW.PrintLast Go.Proofs.YtbbddeilbcpmiaaDoorW.PrintMore
set_option linter.unusedVariables false
set_option linter.unusedSimpArgs false

theorem mod6 {t n : Int} (h0 : 0 ≤ t) (hn : 6 ≤ n) : 0 ≤ Int.tmod t 6 ∧ Int.tmod t 6 < n := by
  have h1 := Int.tmod_nonneg 6 h0
  have h2 := Int.tmod_lt_of_pos t (show (0 : Int) < 6 by omega)
  omega

theorem dirty_l0 {l : List Int} (hw : ∀ x ∈ l, (Lit.int .i64 x).wf = true) {ns vs : List ByteArray} (hn : 6 ≤ ns.length) (hn2 : ns.length ≤ 100) (hv : 6 ≤ vs.length) (hv2 : vs.length ≤ 100) {c : Int} (hc : intervalmonref01_Pick.f l 0 11 = some c) (hc0 : 0 ≤ c) (hc1 : c < 11) : ∀ (d i : Nat) (acc : List S35), i + d = 11 → acc.length ≤ i →
    ∃ r : List S35, ∀ k, d < k → intervalmonref05_Dirty.l0 k l ns vs acc (i : Int) = some r := by
  intro d
  induction d with
  | zero =>
    intro i acc hi ha
    refine ⟨acc, fun k hk => ?_⟩
    obtain ⟨k, rfl⟩ : ∃ j, k = j + 1 := ⟨k - 1, by omega⟩
    rw [intervalmonref05_Dirty.l0, hc, Option.bind_some, if_neg (by omega)]
  | succ d ih =>
    intro i acc hi ha
    by_cases cc : (i : Int) < c
    · obtain ⟨t, ht, t0, t1⟩ := pick_ok hw (wrap64 ((wrap64 (2 * (i : Int))) + 1)) (m := 4 * (ns.length : Int)) (by omega)
      obtain ⟨u, hu, u0, u1⟩ := pick_ok hw (wrap64 ((wrap64 (2 * (i : Int))) + 2)) (m := 4 * (vs.length : Int)) (by omega)
      have e1 : wrap64 (4 * (ns.length : Int)) = 4 * (ns.length : Int) := w64 (by omega) (by omega)
      have e2 : wrap64 (4 * (vs.length : Int)) = 4 * (vs.length : Int) := w64 (by omega) (by omega)
      have mt := mod6 t0 (n := ns.length) (by omega)
      have mu := mod6 u0 (n := vs.length) (by omega)
      by_cases ct : t ≥ (ns.length : Int)
      · by_cases cu : u ≥ (vs.length : Int)
        · obtain ⟨r, hr⟩ := ih (i + 1) (acc ++ [⟨rdOf ByteArray.empty ns (Int.tmod t 6), rdOf ByteArray.empty vs (Int.tmod u 6)⟩]) (by omega) (by simp; omega)
          refine ⟨r, fun k hk => ?_⟩
          obtain ⟨k, rfl⟩ : ∃ j, k = j + 1 := ⟨k - 1, by omega⟩
          rw [intervalmonref05_Dirty.l0, hc, Option.bind_some, if_pos cc, e1, ht, Option.bind_some, if_pos ct, e2, hu, Option.bind_some, if_pos cu, if_pos mt.1, if_pos mt.2, if_pos mu.1, if_pos mu.2, if_pos (by omega), w1 (by omega)]
          exact hr k (by omega)
        · obtain ⟨r, hr⟩ := ih (i + 1) (acc ++ [⟨rdOf ByteArray.empty ns (Int.tmod t 6), rdOf ByteArray.empty vs u⟩]) (by omega) (by simp; omega)
          refine ⟨r, fun k hk => ?_⟩
          obtain ⟨k, rfl⟩ : ∃ j, k = j + 1 := ⟨k - 1, by omega⟩
          rw [intervalmonref05_Dirty.l0, hc, Option.bind_some, if_pos cc, e1, ht, Option.bind_some, if_pos ct, e2, hu, Option.bind_some, if_neg cu, if_pos mt.1, if_pos mt.2, if_pos u0, if_pos (by omega), if_pos (by omega), w1 (by omega)]
          exact hr k (by omega)
      · by_cases cu : u ≥ (vs.length : Int)
        · obtain ⟨r, hr⟩ := ih (i + 1) (acc ++ [⟨rdOf ByteArray.empty ns t, rdOf ByteArray.empty vs (Int.tmod u 6)⟩]) (by omega) (by simp; omega)
          refine ⟨r, fun k hk => ?_⟩
          obtain ⟨k, rfl⟩ : ∃ j, k = j + 1 := ⟨k - 1, by omega⟩
          rw [intervalmonref05_Dirty.l0, hc, Option.bind_some, if_pos cc, e1, ht, Option.bind_some, if_neg ct, e2, hu, Option.bind_some, if_pos cu, if_pos t0, if_pos (by omega), if_pos mu.1, if_pos mu.2, if_pos (by omega), w1 (by omega)]
          exact hr k (by omega)
        · obtain ⟨r, hr⟩ := ih (i + 1) (acc ++ [⟨rdOf ByteArray.empty ns t, rdOf ByteArray.empty vs u⟩]) (by omega) (by simp; omega)
          refine ⟨r, fun k hk => ?_⟩
          obtain ⟨k, rfl⟩ : ∃ j, k = j + 1 := ⟨k - 1, by omega⟩
          rw [intervalmonref05_Dirty.l0, hc, Option.bind_some, if_pos cc, e1, ht, Option.bind_some, if_neg ct, e2, hu, Option.bind_some, if_neg cu, if_pos t0, if_pos (by omega), if_pos u0, if_pos (by omega), if_pos (by omega), w1 (by omega)]
          exact hr k (by omega)
    · refine ⟨acc, fun k hk => ?_⟩
      obtain ⟨k, rfl⟩ : ∃ j, k = j + 1 := ⟨k - 1, by omega⟩
      rw [intervalmonref05_Dirty.l0, hc, Option.bind_some, if_neg cc]

theorem dirty_ok {l : List Int} (hw : ∀ x ∈ l, (Lit.int .i64 x).wf = true) : ∃ r : List S35, ∀ k, 12 ≤ k → intervalmonref05_Dirty.f k l = some r := by
  obtain ⟨c, hc, c0, c1⟩ := pick_ok hw 0 (m := 11) (by omega)
  have hN : intervalmonref05_Names.f = some names := rfl
  have hV : intervalmonref05_values.f = some vals := rfl
  have key : ∀ (xs ys : List ByteArray), xs.length = 10 → ys.length = 8 → ∃ r : List S35, ∀ k, 12 ≤ k → intervalmonref05_Dirty.l0 k l (names ++ xs) (vals ++ ys) [] 0 = some r := by
    intro xs ys hx hy
    obtain ⟨r, hr⟩ := dirty_l0 hw (ns := names ++ xs) (vs := vals ++ ys) (by simp [hx]) (by simp [hx]; decide) (by simp [hy]) (by simp [hy]; decide) hc c0 c1 11 0 [] (by omega) (Nat.le_refl _)
    exact ⟨r, fun k hk => hr k (by omega)⟩
  obtain ⟨r, hr⟩ := key [(⟨#[]⟩ : ByteArray), (⟨#[65]⟩ : ByteArray), (⟨#[49, 97]⟩ : ByteArray), (⟨#[97, 45, 98]⟩ : ByteArray), (⟨#[97, 98, 99, 100, 101, 102, 103, 104, 105, 106, 107, 108, 109, 110, 111, 112]⟩ : ByteArray), (⟨#[97, 98, 99, 100, 101, 102, 103, 104, 105, 106, 107, 108, 109, 110, 111, 112, 113]⟩ : ByteArray), (⟨#[99]⟩ : ByteArray), (⟨#[100]⟩ : ByteArray), (⟨#[101]⟩ : ByteArray), (⟨#[95, 97]⟩ : ByteArray)] [(⟨#[]⟩ : ByteArray), (⟨#[32]⟩ : ByteArray), (⟨#[97, 44]⟩ : ByteArray), (⟨#[97, 98, 99, 100, 101, 102, 103, 104, 105, 106, 107, 108, 109, 110, 111, 112]⟩ : ByteArray), (⟨#[97, 98, 99, 100, 101, 102, 103, 104, 105, 106, 107, 108, 109, 110, 111, 112, 113]⟩ : ByteArray), (⟨#[127]⟩ : ByteArray), (⟨#[123]⟩ : ByteArray), (⟨#[92]⟩ : ByteArray)] rfl rfl
  refine ⟨r, fun k hk => ?_⟩
  unfold intervalmonref05_Dirty.f
  rw [hN, Option.bind_some, Option.bind_some, if_pos (by decide), hV, Option.bind_some, Option.bind_some, if_pos (by decide)]
  exact hr k hk

theorem bent_ok {l : List Int} (hw : ∀ x ∈ l, (Lit.int .i64 x).wf = true) {a1 a2 : Int} (h1 : (Lit.int .i64 a1).wf = true) (h2 : (Lit.int .i64 a2).wf = true) (n : ByteArray) (v : Int) (L : List S35) (st si lv : Int) :
    ∃ r, ∀ k, 12 ≤ k → intervalmonlaw28_bent.f k n v L st si lv a1 a2 l = some r := by
  obtain ⟨t, ht, t0, t1⟩ := around_ok h1 (m := 6) (by omega)
  obtain ⟨u, hu, u0, u1⟩ := around_ok h2 (m := 4) (by omega)
  obtain ⟨D, hD⟩ := dirty_ok hw
  unfold intervalmonlaw28_bent.f
  rw [ht]
  simp only [Option.bind_some]
  by_cases c0 : t = 0
  · refine ⟨(rdOf ByteArray.empty [(⟨#[]⟩ : ByteArray), (⟨#[72, 111, 116]⟩ : ByteArray), (⟨#[97, 32, 98]⟩ : ByteArray), (⟨#[97, 98, 99, 100, 101, 102, 103, 104, 105, 106, 107, 108, 109, 110, 111, 112, 113]⟩ : ByteArray)] u, v, L, st, si, lv), fun k hk => ?_⟩
    rw [if_pos c0, hu, Option.bind_some, if_pos u0, if_pos (by simp; omega)]
  · by_cases c1 : t = 1
    · exact ⟨_, fun k hk => by rw [if_neg c0, if_pos c1]⟩
    · by_cases c2 : t = 2
      · exact ⟨_, fun k hk => by rw [if_neg c0, if_neg c1, if_pos c2, hD k hk, Option.bind_some]⟩
      · by_cases c3 : t = 3
        · exact ⟨_, fun k hk => by rw [if_neg c0, if_neg c1, if_neg c2, if_pos c3]⟩
        · by_cases c4 : t = 4
          · exact ⟨_, fun k hk => by rw [if_neg c0, if_neg c1, if_neg c2, if_neg c3, if_pos c4]⟩
          · exact ⟨_, fun k hk => by rw [if_neg c0, if_neg c1, if_neg c2, if_neg c3, if_neg c4]⟩

end Go.Proofs.YtbbddeilbcpmiaaDoor.Pure
