/- The ledger when all entries have one rule, version and label set: what the map says; and the examples of lives(), in plain lists. -/
import Derived.Test.YtgdojonkkfcaeaaMAm
import Derived.Test.YtgdojonkkfcaeaaQ17
namespace Go.Proofs.Ytgdojonkkfcaeaa.Q
open Go.RowKit Go.Maps Go.Proofs.YtgdojonkkfcaeaaW.PrintWords Go.Proofs.YtgdojonkkfcaeaaW.PrintLast Go.Proofs.YtgdojonkkfcaeaaW.PrintMore
set_option linter.unusedVariables false
set_option linter.unusedSimpArgs false
namespace led
attribute [local instance] Classical.propDecidable
/-- What the entries say of a start, if all are of one rule, version and label set. -/
def lastS (es : List S31) (t : Int) : Option Bool := es.foldl (fun a x => if x.f4 == t then some (x.f0 != 1) else a) none
theorem lastS_snoc (es : List S31) (x : S31) (t : Int) : lastS (es ++ [x]) t = if x.f4 == t then some (x.f0 != 1) else lastS es t := by
  unfold lastS
  rw [List.foldl_append]
  rfl
/-- All entries are of this rule, version and label set. -/
def AllOf (r : ByteArray) (v : Int) (l : List S54) (es : List S31) : Prop := ∀ x ∈ es, x.f1 = r ∧ x.f2 = v ∧ x.f3 = l ∧ (Lit.int .i64 x.f4).wf = true
theorem lastB_same {r : ByteArray} {v : Int} {l : List S54} {es : List S31} (h : AllOf r v l es) (hrs : r.size ≤ maxLen) (hv : (Lit.int .i64 v).wf = true) (ht : (tx.textB l).size ≤ maxLen) {t : Int} (hwt : (Lit.int .i64 t).wf = true) : lastB es (keyL r v (tx.textB l) t) = lastS es t := by
  induction es using snoc_ind with
  | h0 => rfl
  | h1 es x ih =>
    obtain ⟨h1, h2, h3, h4⟩ := h x (by simp)
    rw [lastB_snoc, lastS_snoc, ih (fun y hy => h y (by simp [hy]))]
    by_cases hx : x.f4 = t
    · have e : keyP x = keyL r v (tx.textB l) t := by unfold keyP; rw [h1, h2, h3, hx]
      rw [if_pos e, if_pos (by simpa using hx)]
    · have e : ¬ keyP x = keyL r v (tx.textB l) t := fun e => by
        unfold keyP at e
        rw [h1, h2, h3] at e
        exact hx (keyL_inj hrs hv ht h4 hrs hv ht hwt e).2.2.2
      rw [if_neg e, if_neg (by simpa using hx)]
theorem pagedB_same {r : ByteArray} {v : Int} {l : List S54} {es : List S31} (h : AllOf r v l es) (hrs : r.size ≤ maxLen) (hv : (Lit.int .i64 v).wf = true) (ht : (tx.textB l).size ≤ maxLen) {t : Int} (hwt : (Lit.int .i64 t).wf = true) : pagedB es r v l t = (lastS es t).getD false := by
  unfold pagedB
  rw [lastB_same h hrs hv ht hwt]
theorem vals_same {r : ByteArray} {v : Int} {l : List S54} {es : List S31} {zs : List Int} (h : AllOf r v l es) (hrs : r.size ≤ maxLen) (hv : (Lit.int .i64 v).wf = true) (ht : (tx.textB l).size ≤ maxLen) (hz : zs.Pairwise (· < ·)) (hm : ∀ s, s ∈ zs ↔ ((Lit.int .i64 s).wf = true ∧ lastS es s = some true)) : Vals es r v (tx.textB l) zs :=
  ⟨hz, fun s => (hm s).trans ⟨fun ⟨a, b⟩ => ⟨a, (lastB_same h hrs hv ht a).trans b⟩, fun ⟨a, b⟩ => ⟨a, (lastB_same h hrs hv ht a).symm.trans b⟩⟩⟩
theorem amTs_eq {zs ss ts : List Int} (h : ts.Pairwise (· < ·)) (hm : ∀ s, s ∈ ts ↔ (s ∈ zs ∨ s ∈ ss)) : amTs zs ss = ts :=
  inc_unique (si.inc_compact _ (si.sorted_sortI _)) h (fun s => by unfold amTs; rw [si.mem_compact, si.mem_sortI, List.mem_append, hm])
theorem wf_small {t : Int} (h0 : -1000000000 ≤ t) (h1 : t ≤ 1000000000) : (Lit.int .i64 t).wf = true := by
  have e1 : IntKind.i64.min = -9223372036854775808 := rfl
  have e2 : IntKind.i64.max = 9223372036854775807 := rfl
  simp [Lit.wf, e1, e2]
  omega
def hot : ByteArray := ⟨#[104, 111, 116]⟩
/-- A page of rule hot, version 1, no labels. -/
def one (kd t sent : Int) : S31 := ⟨kd, hot, 1, [], t, sent, ⟨#[]⟩⟩
theorem hot_size : hot.size ≤ maxLen := by decide
theorem wf1 : (Lit.int .i64 1).wf = true := by decide
theorem text0 : (tx.textB []).size ≤ maxLen := by decide
theorem hot_name : nameB hot = true := by decide
theorem all_one : ∀ {es : List S31}, (∀ x ∈ es, ∃ kd t sent, x = one kd t sent ∧ -1000000000 ≤ t ∧ t ≤ 1000000000) → AllOf hot 1 [] es := fun h x hx => by
  obtain ⟨kd, t, sent, rfl, h0, h1⟩ := h x hx
  exact ⟨rfl, rfl, rfl, wf_small h0 h1⟩
theorem keyP_one (kd t sent : Int) : keyP (one kd t sent) = keyL hot 1 (tx.textB []) t := rfl
theorem valid_nil : ∃ k, labels_Valid.f k [] = some true := by
  have e : sortLab [] = [] := List.eq_nil_of_length_eq_zero (by unfold sortLab; rw [Array.length_toList, sortLab_size]; rfl)
  have e2 : labels_New.f [] = some ([], 0) := by
    unfold labels_New.f
    rw [e]
    rfl
  refine ⟨1, ?_⟩
  unfold labels_Valid.f
  rw [e2]
  rfl
/-! The examples. -/
theorem one_inv {es : List S31} {kd t sent : Int} : one kd t sent ∈ es → ∃ a b c, one kd t sent = one a b c := fun _ => ⟨_, _, _, rfl⟩
def L1 : List S31 := [one 0 5 6]
def LO : List S31 := [one 2 3 9, one 1 5 9, one 2 8 9]
def L4 : List S31 := L1 ++ LO
theorem all1 : AllOf hot 1 [] L1 := all_one (fun x hx => by simp [L1] at hx; subst hx; exact ⟨_, _, _, rfl, by omega, by omega⟩)
theorem all4 : AllOf hot 1 [] L4 := all_one (fun x hx => by
  simp [L4, L1, LO] at hx
  rcases hx with rfl | rfl | rfl | rfl
  · exact ⟨_, _, _, rfl, by omega, by omega⟩
  · exact ⟨_, _, _, rfl, by omega, by omega⟩
  · exact ⟨_, _, _, rfl, by omega, by omega⟩
  · exact ⟨_, _, _, rfl, by omega, by omega⟩)
theorem wf5 : (Lit.int .i64 5).wf = true := by decide
theorem lb_one {es : List S31} (h : AllOf hot 1 [] es) (kd t sent : Int) (hwt : (Lit.int .i64 t).wf = true) : lastB es (keyP (one kd t sent)) = lastS es t := lastB_same h hot_size wf1 text0 hwt
theorem fire1 : fireE [] true (one 0 5 6) = 0 ∧ fireL [] true (one 0 5 6) = L1 := by
  have h : lastB [] (keyP (one 0 5 6)) = none := rfl
  unfold fireE fireL
  rw [if_pos ⟨rfl, rfl⟩, h, if_pos ⟨rfl, rfl, rfl⟩]
  exact ⟨rfl, rfl⟩
theorem fire2 : fireE L1 true (one 0 5 6) = 10 ∧ fireL L1 true (one 0 5 6) = L1 := by
  have h : lastB L1 (keyP (one 0 5 6)) = some true := (lb_one all1 0 5 6 wf5).trans (by decide)
  unfold fireE fireL
  rw [if_pos ⟨rfl, rfl⟩, h, if_neg (by simp)]
  exact ⟨rfl, rfl⟩
theorem fire4 : fireE L4 true (one 0 5 6) = 20 ∧ fireL L4 true (one 0 5 6) = L4 := by
  have h : lastB L4 (keyP (one 0 5 6)) = some false := (lb_one all4 0 5 6 wf5).trans (by decide)
  unfold fireE fireL
  rw [if_pos ⟨rfl, rfl⟩, h, if_neg (by simp)]
  exact ⟨rfl, rfl⟩
theorem vals1 : Vals L1 hot 1 (tx.textB []) [5] := vals_same all1 hot_size wf1 text0 (by decide) (fun s => by
  have e : lastS L1 s = if (5 : Int) == s then some true else none := rfl
  rw [e]
  by_cases h : s = 5
  · subst h; simp; decide
  · have h2 : ¬ (5 : Int) = s := fun e => h e.symm
    simp [h, h2])
theorem vals4 : Vals L4 hot 1 (tx.textB []) [3, 8] := vals_same all4 hot_size wf1 text0 (by decide) (fun s => by
  have e : lastS L4 s = if (8 : Int) == s then some true else if (5 : Int) == s then some false else if (3 : Int) == s then some true else if (5 : Int) == s then some true else none := rfl
  rw [e]
  by_cases h8 : s = 8
  · subst h8; simp; decide
  · have h82 : ¬ (8 : Int) = s := fun e => h8 e.symm
    by_cases h3 : s = 3
    · subst h3; simp; decide
    · have h32 : ¬ (3 : Int) = s := fun e => h3 e.symm
      by_cases h5 : (5 : Int) = s
      · subst h5; simp
      · simp [h8, h3, h82, h32, h5])
theorem ts1 : amTs [5] [8, 8, 3] = [3, 5, 8] := amTs_eq (by decide) (fun s => by simp; omega)
theorem ok1 : amOK true hot 1 9 [8, 8, 3] = true := by decide
theorem am1 : amRun L1 hot 1 [] 9 [8, 8, 3] [3, 5, 8] = (L4, LO) := by
  have p1 : pagedB L1 hot 1 [] 3 = false := (pagedB_same all1 hot_size wf1 text0 (by decide)).trans (by decide)
  have a2 : AllOf hot 1 [] (L1 ++ [one 2 3 9]) := fun x hx => all4 x (by simp [L4, L1, LO] at hx ⊢; rcases hx with h | h <;> simp [h])
  have p2 : pagedB (L1 ++ [one 2 3 9]) hot 1 [] 5 = true := (pagedB_same a2 hot_size wf1 text0 (by decide)).trans (by decide)
  have a3 : AllOf hot 1 [] (L1 ++ [one 2 3 9] ++ [one 1 5 9]) := fun x hx => all4 x (by simp [L4, L1, LO] at hx ⊢; rcases hx with h | h | h <;> simp [h])
  have p3 : pagedB (L1 ++ [one 2 3 9] ++ [one 1 5 9]) hot 1 [] 8 = false := (pagedB_same a3 hot_size wf1 text0 (by decide)).trans (by decide)
  have e1 : amStep hot 1 [] 9 [8, 8, 3] (L1, []) 3 = (L1 ++ [one 2 3 9], [one 2 3 9]) := by unfold amStep; rw [p1]; rfl
  have e2 : amStep hot 1 [] 9 [8, 8, 3] (L1 ++ [one 2 3 9], [one 2 3 9]) 5 = (L1 ++ [one 2 3 9] ++ [one 1 5 9], [one 2 3 9, one 1 5 9]) := by unfold amStep; rw [p2]; rfl
  have e3 : amStep hot 1 [] 9 [8, 8, 3] (L1 ++ [one 2 3 9] ++ [one 1 5 9], [one 2 3 9, one 1 5 9]) 8 = (L4, LO) := by unfold amStep; rw [p3]; rfl
  unfold amRun
  rw [List.foldl_cons, e1, List.foldl_cons, e2, List.foldl_cons, e3, List.foldl_nil]
theorem out1 : amOut L1 true hot 1 [] 9 [8, 8, 3] [5] = LO ∧ amEs L1 true hot 1 [] 9 [8, 8, 3] [5] = L4 := by
  unfold amOut amEs
  rw [if_pos ok1, if_pos ok1, ts1, am1]
  exact ⟨rfl, rfl⟩
theorem same_l0 (a b : List Int) (hlen : a.length = b.length) (hl : a.length ≤ 4611686018427387904) : ∀ d i : Nat, i + d = a.length → ∀ k, d < k → intervalmonref01_SameInts.l0 k a b (i : Int) = some (a.drop i == b.drop i)
  | 0, i, hi, k, hk => by
    obtain ⟨k, rfl⟩ : ∃ m, k = m + 1 := ⟨k - 1, by omega⟩
    simp only [intervalmonref01_SameInts.l0]
    rw [if_neg (by omega), List.drop_of_length_le (by omega), List.drop_of_length_le (by omega)]
    rfl
  | d + 1, i, hi, k, hk => by
    obtain ⟨k, rfl⟩ : ∃ m, k = m + 1 := ⟨k - 1, by omega⟩
    have hia : i < a.length := by omega
    have hib : i < b.length := by omega
    have ha : YtgdojonkkfcaeaaW.PrintWords.rd a (i : Int) = a[i] := by
      unfold YtgdojonkkfcaeaaW.PrintWords.rd
      rw [Int.toNat_natCast, List.getD_eq_getElem?_getD, List.getElem?_eq_getElem hia]; rfl
    have hb : YtgdojonkkfcaeaaW.PrintWords.rd b (i : Int) = b[i] := by
      unfold YtgdojonkkfcaeaaW.PrintWords.rd
      rw [Int.toNat_natCast, List.getD_eq_getElem?_getD, List.getElem?_eq_getElem hib]; rfl
    simp only [intervalmonref01_SameInts.l0]
    rw [if_pos (by omega), if_pos (by omega), if_pos (by omega), ha, hb, List.drop_eq_getElem_cons hia, List.drop_eq_getElem_cons hib, List.cons_beq_cons]
    by_cases h : a[i] = b[i]
    · have e : wrap64 ((i : Int) + 1) = ((i + 1 : Nat) : Int) := by unfold wrap64; omega
      rw [if_pos h, e, same_l0 a b hlen hl d (i + 1) (by omega) k (by omega), show (a[i] == b[i]) = true from by simp [h], Bool.true_and]
    · rw [if_neg h, show (a[i] == b[i]) = false from by simp [h], Bool.false_and]
/-- intervalmonref01.SameInts. -/
theorem same_f (a b : List Int) (hl : a.length ≤ 4611686018427387904) : intervalmonref01_SameInts.f (a.length + 1) a b = some (a == b) := by
  unfold intervalmonref01_SameInts.f
  by_cases h : a.length = b.length
  · rw [if_pos (by omega)]
    exact same_l0 a b h hl a.length 0 (by omega) (a.length + 1) (by omega)
  · rw [if_neg (by omega), show (a == b) = false from by simp; exact fun e => h (by rw [e])]
end led
end Go.Proofs.Ytgdojonkkfcaeaa.Q
