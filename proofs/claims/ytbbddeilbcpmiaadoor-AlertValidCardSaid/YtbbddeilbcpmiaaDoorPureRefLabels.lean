/- Plain facts for AlertValid: the reference's lists of labels. -/
import Derived.Test.YtbbddeilbcpmiaaDoorPureLabels
namespace Go.Proofs.YtbbddeilbcpmiaaDoor.Pure
open Go.RowKit Go.Proofs.YtbbddeilbcpmiaaDoor.Q Go.Proofs.YtbbddeilbcpmiaaDoorW.PrintWords Go.Proofs.YtbbddeilbcpmiaaDoorW.PrintLast Go.Proofs.YtbbddeilbcpmiaaDoorW.PrintMore
set_option linter.unusedVariables false
set_option linter.unusedSimpArgs false

theorem same_l0 {L S : List S35} (hS : S.length = L.length) (hl : L.length ≤ 100) : ∀ (d i : Nat), i + d = L.length → ∃ b : Bool, (b = true ↔ ∀ j, i ≤ j → j < L.length → (S.getD j z35).f0.toList = (L.getD j z35).f0.toList ∧ (S.getD j z35).f1.toList = (L.getD j z35).f1.toList) ∧ ∀ k, d < k → intervalmonref05_Same.l0 k S L (i : Int) = some b := by
  intro d
  induction d with
  | zero =>
    intro i hi
    refine ⟨true, ⟨fun _ j h1 h2 => by omega, fun _ => rfl⟩, ?_⟩
    intro k hk
    obtain ⟨k, rfl⟩ : ∃ j, k = j + 1 := ⟨k - 1, by omega⟩
    rw [intervalmonref05_Same.l0, if_neg (by omega)]
  | succ d ih =>
    intro i hi
    obtain ⟨b, hb, hk⟩ := ih (i + 1) (by omega)
    by_cases c : (S.getD i z35).f0.toList = (L.getD i z35).f0.toList ∧ (S.getD i z35).f1.toList = (L.getD i z35).f1.toList
    · refine ⟨b, ?_, ?_⟩
      · rw [hb]
        constructor
        · intro h j h1 h2
          by_cases e : j = i
          · subst e; exact c
          · exact h j (by omega) h2
        · intro h j h1 h2; exact h j (by omega) h2
      · intro k hkk
        obtain ⟨k, rfl⟩ : ∃ j, k = j + 1 := ⟨k - 1, by omega⟩
        rw [intervalmonref05_Same.l0, if_pos (by omega), if_pos (by omega), if_pos (by omega), rdL, rdL, c.1, c.2, w1 (by omega), if_neg (by simp)]
        exact hk k (by omega)
    · refine ⟨false, ⟨fun h => (by cases h), fun h => absurd (h i (Nat.le_refl _) (by omega)) c⟩, ?_⟩
      intro k hkk
      obtain ⟨k, rfl⟩ : ∃ j, k = j + 1 := ⟨k - 1, by omega⟩
      rw [intervalmonref05_Same.l0, if_pos (by omega), if_pos (by omega), if_pos (by omega), rdL, rdL, if_pos]
      exact differ _ _ _ _ c

theorem same_ok {L S : List S35} (hS : S.length = L.length) (hl : L.length ≤ 100) : ∃ b : Bool, (b = true ↔ ∀ j, j < L.length → (S.getD j z35).f0.toList = (L.getD j z35).f0.toList ∧ (S.getD j z35).f1.toList = (L.getD j z35).f1.toList) ∧ ∀ k, 101 ≤ k → intervalmonref05_Same.f k S L = some b := by
  obtain ⟨b, hb, hk⟩ := same_l0 hS hl L.length 0 (by omega)
  refine ⟨b, ⟨fun h j hj => hb.mp h j (Nat.zero_le _) hj, fun h => hb.mpr fun j _ hj => h j hj⟩, fun k hkk => ?_⟩
  unfold intervalmonref05_Same.f
  rw [if_pos (by omega)]
  exact hk k (by omega)

theorem take_snocS {H : List S35} {i : Nat} (h : i < H.length) : H.take (i + 1) = H.take i ++ [H.getD i z35] := by
  rw [List.take_add_one, List.getD_eq_getElem?_getD, List.getElem?_eq_getElem h]
  rfl
theorem drop_consS {H : List S35} {i : Nat} (h : i < H.length) : H.drop i = H.getD i z35 :: H.drop (i + 1) := by
  rw [List.getD_eq_getElem?_getD, List.getElem?_eq_getElem h]
  exact List.drop_eq_getElem_cons h

theorem ins_pair {x4 : List S35} {v : S35} {j : Nat} (hp : x4.Pairwise lessN) (h1 : ∀ x ∈ x4.take j, lessN x v) (h2 : ∀ x ∈ x4.drop j, lessN v x) : (x4.take j ++ [v] ++ x4.drop j).Pairwise lessN := by
  have hp' := hp
  rw [← List.take_append_drop j x4] at hp'
  obtain ⟨pa, pb, pc⟩ := List.pairwise_append.mp hp'
  rw [List.append_assoc]
  refine List.pairwise_append.mpr ⟨pa, ?_, ?_⟩
  · exact List.pairwise_cons.mpr ⟨h2, pb⟩
  · intro a ha b hb
    rcases List.mem_cons.mp hb with rfl | hb
    · exact h1 a ha
    · exact pc a ha b hb

def ResL (L out : List S35) (e : Int) : Prop := (e = 0 → out.Pairwise lessN ∧ out.length = L.length ∧ ∀ j, j < L.length → okL (L.getD j z35)) ∧ (goodL L → out = L ∧ e = 0)

theorem size_nil (s : ByteArray) : s.toList = [] ↔ s.size = 0 := by
  rw [Lib.toList_data]
  constructor
  · intro h
    have : s.data.toList.length = 0 := by rw [h]; rfl
    rw [Array.length_toList] at this
    exact this
  · intro h
    apply List.eq_nil_of_length_eq_zero
    rw [Array.length_toList]
    exact h

theorem good_take {L : List S35} (h : goodL L) {i j : Nat} (hij : j < i) (hi : i < L.length) : lessN ((L.take i).getD j z35) (L.getD i z35) := by
  have e : (L.take i).getD j z35 = L.getD j z35 := by
    rw [List.getD_eq_getElem?_getD, List.getD_eq_getElem?_getD, List.getElem?_take_of_lt hij]
  rw [e]
  exact asc_lt h.2.2 hij hi

theorem new_l1 {L : List S35} (h8 : L.length ≤ 8) {i : Nat} (hi : i < L.length) {x4 : List S35} (hp : x4.Pairwise lessN) (hx : x4.length = i) (hg : goodL L → x4 = L.take i)
    (hcont : ∀ y : List S35, y.Pairwise lessN → y.length = i + 1 → (goodL L → y = L.take (i + 1)) → ∃ out e, Ev (fun k => intervalmonref05_New.l0 k L y ((i + 1 : Nat) : Int)) (out, e) ∧ ResL L out e) :
    ∀ (d j : Nat), j + d = i → (∀ x ∈ x4.take j, lessN x (L.getD i z35)) → ∃ out e, Ev (fun k => intervalmonref05_New.l1 k L x4 (i : Int) (x4.take j) (j : Int)) (out, e) ∧ ResL L out e := by
  intro d
  induction d with
  | zero =>
    intro j hj hlt
    obtain rfl : j = i := by omega
    have et : x4.take j = x4 := List.take_of_length_le (by omega)
    have ed : x4.drop j = [] := List.drop_eq_nil_of_le (by omega)
    obtain ⟨out, e, hE, hR⟩ := hcont (x4.take j ++ [L.getD j z35] ++ x4.drop j) (ins_pair hp hlt (by rw [ed]; intro x hx; cases hx)) (by rw [et, ed]; simp [hx]) (fun h => by rw [ed, List.append_nil, et, take_snocS hi]; rw [← hg h])
    refine ⟨out, e, stepE 0 (fun k _ => ?_) hE, hR⟩
    rw [intervalmonref05_New.l1, if_neg (by omega), if_pos (by omega), if_pos (by omega), if_pos (by rw [et]; omega), Option.bind_some, if_pos (by omega), if_pos (by omega), Int.toNat_natCast, Option.bind_some, if_pos (by rw [ed, et]; simp; omega), w1 (by omega)]
    rfl
  | succ d ih =>
    intro j hj hlt
    have hjl : j < x4.length := by omega
    by_cases c1 : lessN (x4.getD j z35) (L.getD i z35)
    · have hlt' : ∀ x ∈ x4.take (j + 1), lessN x (L.getD i z35) := by
        intro x hx'
        rw [take_snocS hjl] at hx'
        rcases List.mem_append.mp hx' with h | h
        · exact hlt x h
        · rw [List.mem_singleton.mp h]; exact c1
      obtain ⟨out, e, hE, hR⟩ := ih (j + 1) (by omega) hlt'
      refine ⟨out, e, stepE 0 (fun k _ => ?_) hE, hR⟩
      rw [intervalmonref05_New.l1, if_pos (by omega), if_pos (by omega), if_pos (by omega), if_pos (by omega), rdL, rdL, if_pos ((less_iff _ _).mpr c1), if_pos (by rw [List.length_take]; omega), w1 (by omega), take_snocS hjl]
    · have hng : ¬ goodL L := by
        intro h
        apply c1
        rw [hg h]
        exact good_take h (by omega) hi
      have hb : ¬ Op.bytesLess (x4.getD j z35).f0.toList (L.getD i z35).f0.toList = true := fun h => c1 ((less_iff _ _).mp h)
      by_cases c2 : (x4.getD j z35).f0.toList = (L.getD i z35).f0.toList
      · refine ⟨[], 10, stepE 0 (f := fun _ => some ([], 10)) (fun k _ => ?_) (Ev.now _), ⟨fun h => absurd h (by decide), fun h => absurd h hng⟩⟩
        rw [intervalmonref05_New.l1, if_pos (by omega), if_pos (by omega), if_pos (by omega), if_pos (by omega), rdL, rdL, if_neg hb, if_pos c2]
      · have c3 : lessN (L.getD i z35) (x4.getD j z35) := by
          by_cases h : lessN (L.getD i z35) (x4.getD j z35)
          · exact h
          · exact absurd (name_tri c1 h) c2
        have hdrop : ∀ x ∈ x4.drop j, lessN (L.getD i z35) x := by
          have hp' := hp
          rw [← List.take_append_drop j x4] at hp'
          have pb := (List.pairwise_append.mp hp').2.1
          rw [drop_consS hjl] at pb ⊢
          intro x hx'
          rcases List.mem_cons.mp hx' with rfl | h
          · exact c3
          · exact lessN_trans c3 ((List.pairwise_cons.mp pb).1 x h)
        obtain ⟨out, e, hE, hR⟩ := hcont (x4.take j ++ [L.getD i z35] ++ x4.drop j) (ins_pair hp hlt hdrop) (by simp; omega) (fun h => absurd h hng)
        refine ⟨out, e, stepE 0 (fun k _ => ?_) hE, hR⟩
        rw [intervalmonref05_New.l1, if_pos (by omega), if_pos (by omega), if_pos (by omega), if_pos (by omega), rdL, rdL, if_neg hb, if_neg c2, if_pos (by rw [List.length_take]; omega), Option.bind_some, if_pos (by omega), Int.toNat_natCast, Option.bind_some, if_pos (by simp; omega), w1 (by omega)]

theorem new_l0 {L : List S35} (h8 : L.length ≤ 8) : ∀ (d i : Nat) (x4 : List S35), i + d = L.length → x4.Pairwise lessN → x4.length = i → (goodL L → x4 = L.take i) → (∀ j, j < i → okL (L.getD j z35)) →
    ∃ out e, Ev (fun k => intervalmonref05_New.l0 k L x4 (i : Int)) (out, e) ∧ ResL L out e := by
  intro d
  induction d with
  | zero =>
    intro i x4 hi hp hx hg hok
    obtain rfl : i = L.length := by omega
    refine ⟨x4, 0, stepE 0 (f := fun _ => some (x4, 0)) (fun k _ => ?_) (Ev.now _), ⟨fun _ => ⟨hp, hx, hok⟩, fun h => ⟨by rw [hg h, List.take_length], rfl⟩⟩⟩
    rw [intervalmonref05_New.l0, if_neg (by omega)]
  | succ d ih =>
    intro i x4 hi hp hx hg hok
    have hil : i < L.length := by omega
    by_cases cn : nameB (L.getD i z35).f0 = true
    · by_cases cs : (L.getD i z35).f1.size = 0
      · have hng : ¬ goodL L := fun h => (h.2.1 i hil).2.1 cs
        refine ⟨[], 1, stepE 30 (f := fun _ => some ([], 1)) (fun k hk => ?_) (Ev.now _), ⟨fun h => absurd h (by decide), fun h => absurd h hng⟩⟩
        obtain ⟨k, rfl⟩ : ∃ j, k = j + 1 := ⟨k - 1, by omega⟩
        rw [intervalmonref05_New.l0, if_pos (by omega), if_pos (by omega), rdL, name_ref _ (by omega), Option.bind_some, if_pos cn, if_pos ((size_nil _).mpr cs), intervalmonref05_New.j1, if_pos rfl]
      · have cs' : ¬ (L.getD i z35).f1.toList = [] := fun h => cs ((size_nil _).mp h)
        by_cases cv : valueB (L.getD i z35).f1 = true
        · have hok' : ∀ j, j < i + 1 → okL (L.getD j z35) := by
            intro j hj
            by_cases e : j = i
            · subst e; exact ⟨cn, cs, cv⟩
            · exact hok j (by omega)
          obtain ⟨out, e, hE, hR⟩ := new_l1 h8 hil hp hx hg (fun y y1 y2 y3 => ih (i + 1) y (by omega) y1 y2 y3 hok') i 0 (by omega) (by intro x hx'; cases hx')
          refine ⟨out, e, stepE 30 (f := fun k => intervalmonref05_New.j1 k L x4 (i : Int) false) (fun k hk => ?_) (stepE 0 (fun k _ => ?_) hE), hR⟩
          · rw [intervalmonref05_New.l0, if_pos (by omega), if_pos (by omega), rdL, name_ref _ (by omega), Option.bind_some, if_pos cn, if_neg cs', value_ref _ (by omega), Option.bind_some, cv]
            rfl
          · rw [intervalmonref05_New.j1, if_neg (by decide)]
            rfl
        · have hng : ¬ goodL L := fun h => cv (h.2.1 i hil).2.2
          have cv' : valueB (L.getD i z35).f1 = false := Bool.eq_false_iff.mpr cv
          refine ⟨[], 1, stepE 30 (f := fun _ => some ([], 1)) (fun k hk => ?_) (Ev.now _), ⟨fun h => absurd h (by decide), fun h => absurd h hng⟩⟩
          obtain ⟨k, rfl⟩ : ∃ j, k = j + 1 := ⟨k - 1, by omega⟩
          rw [intervalmonref05_New.l0, if_pos (by omega), if_pos (by omega), rdL, name_ref _ (by omega), Option.bind_some, if_pos cn, if_neg cs', value_ref _ (by omega), Option.bind_some, cv', intervalmonref05_New.j1, if_pos (show (!false) = true from rfl)]
    · have hng : ¬ goodL L := fun h => cn (h.2.1 i hil).1
      refine ⟨[], 8, stepE 30 (f := fun _ => some ([], 8)) (fun k hk => ?_) (Ev.now _), ⟨fun h => absurd h (by decide), fun h => absurd h hng⟩⟩
      rw [intervalmonref05_New.l0, if_pos (by omega), if_pos (by omega), rdL, name_ref _ (by omega), Option.bind_some, if_neg cn]

theorem pair_asc {out : List S35} (h : out.Pairwise lessN) {i : Nat} (hi : i + 1 < out.length) : lessN (out.getD i z35) (out.getD (i + 1) z35) := by
  have := List.pairwise_iff_getElem.mp h i (i + 1) (by omega) hi (by omega)
  rw [List.getD_eq_getElem?_getD, List.getD_eq_getElem?_getD, List.getElem?_eq_getElem (by omega), List.getElem?_eq_getElem hi]
  exact this

theorem ref_valid_ok (L : List S35) : ∃ b : Bool, (b = true ↔ goodL L) ∧ Ev (fun k => intervalmonref05_Valid.f k L) b := by
  by_cases c8 : (L.length : Int) > 8
  · refine ⟨false, ⟨fun h => (by cases h), fun h => by have := h.1; omega⟩, 0, fun k _ => ?_⟩
    show intervalmonref05_Valid.f k L = some false
    unfold intervalmonref05_Valid.f intervalmonref05_New.f
    rw [if_pos c8]
    rfl
  · obtain ⟨out, e, ⟨K, hK⟩, hR⟩ := new_l0 (L := L) (by omega) L.length 0 [] (by omega) List.Pairwise.nil rfl (fun _ => rfl) (fun j hj => by omega)
    by_cases ce : e = 0
    · obtain ⟨hp, hlen, hok⟩ := hR.1 ce
      obtain ⟨b, hb, hk⟩ := same_ok (L := L) (S := out) hlen (by omega)
      refine ⟨b, ?_, K + 101, fun k hkk => ?_⟩
      · rw [hb]
        constructor
        · intro h
          refine ⟨by omega, hok, fun i hi => ?_⟩
          have h1 := (h i (by omega)).1
          have h2 := (h (i + 1) hi).1
          rw [← lessN_congr h1 h2]
          exact pair_asc hp (by omega)
        · intro h j hj
          rw [(hR.2 h).1]
          exact ⟨rfl, rfl⟩
      · show intervalmonref05_Valid.f k L = some b
        have hn : intervalmonref05_New.f k L = some (out, e) := by
          unfold intervalmonref05_New.f
          rw [if_neg c8]
          exact hK k (by omega)
        unfold intervalmonref05_Valid.f
        rw [hn, Option.bind_some, if_pos ce, hk k (by omega)]
        rfl
    · refine ⟨false, ⟨fun h => (by cases h), fun h => absurd (hR.2 h).2 ce⟩, K, fun k hkk => ?_⟩
      show intervalmonref05_Valid.f k L = some false
      have hn : intervalmonref05_New.f k L = some (out, e) := by
        unfold intervalmonref05_New.f
        rw [if_neg c8]
        exact hK k (by omega)
      unfold intervalmonref05_Valid.f
      rw [hn, Option.bind_some, if_neg ce]

/-- On labels both sides agree, whatever they are. -/
theorem labels_both (L : List S35) : ∃ b : Bool, (b = true ↔ goodL L) ∧ Ev (fun k => labels_Valid.f k L) b ∧ Ev (fun k => intervalmonref05_Valid.f k L) b := by
  obtain ⟨b, hb, h1⟩ := labels_valid_ok L
  obtain ⟨c, hc, h2⟩ := ref_valid_ok L
  obtain rfl : b = c := by rw [Bool.eq_iff_iff, hb, hc]
  exact ⟨b, hb, ⟨10, h1⟩, h2⟩

end Go.Proofs.YtbbddeilbcpmiaaDoor.Pure
