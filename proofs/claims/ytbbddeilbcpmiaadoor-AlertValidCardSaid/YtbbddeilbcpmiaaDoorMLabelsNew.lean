/- labels.New: what it computes, and that the code computes it. -/
import Derived.Test.YtbbddeilbcpmiaaDoorQ0
import Derived.Test.YtbbddeilbcpmiaaDoorMLabelsName
import Derived.Test.YtbbddeilbcpmiaaDoorMLabelsValue
import Derived.Test.YtbbddeilbcpmiaaDoorMLabelsHas
import Derived.Test.YtbbddeilbcpmiaaDoorMCloneLab
import Derived.Test.YtbbddeilbcpmiaaDoorMSortLab
import Derived.Outline
namespace Go.Proofs.YtbbddeilbcpmiaaDoor.Q
open Go.RowKit Go.Proofs.YtbbddeilbcpmiaaDoorW.PrintWords Go.Proofs.YtbbddeilbcpmiaaDoorW.PrintLast Go.Proofs.YtbbddeilbcpmiaaDoorW.PrintMore
set_option linter.unusedVariables false
set_option linter.unusedSimpArgs false
/-- What is wrong with label i: 8, 1, 10 or 0: nothing. -/
def newErrAt (l : List S35) (i : Int) : Int :=
  if nameB (rd_T35 l i).f0 = false then 8 else if (rd_T35 l i).f1.size = 0 then 1 else if valueB (rd_T35 l i).f1 = false then 1 else if hasN (l.take i.toNat) (rd_T35 l i) = true then 10 else 0
/-- The first thing that is wrong from label i on. -/
def newErr (l : List S35) : Nat → Int → Int
  | 0, _ => 0
  | d + 1, i => if newErrAt l i = 0 then newErr l d (i + 1) else newErrAt l i
def labels_New.f (l0 : List S35) : Option (List S35 × Int) :=
  if 8 < l0.length then some ([], 4) else if newErr l0 l0.length 0 = 0 then some (sortLab l0, 0) else some ([], newErr l0 l0.length 0)
theorem newErrAt_eq (l : List S35) (i : Int) (x : S35) (hx : rd_T35 l i = x) : newErrAt l i = if nameB x.f0 = false then 8 else if x.f1.size = 0 then 1 else if valueB x.f1 = false then 1 else if hasN (l.take i.toNat) x = true then 10 else 0 := by
  subst hx
  rfl
theorem newErr_here {l : List S35} {i : Int} (h0 : 0 ≤ i) (h : i < l.length) : newErr l (l.length - i.toNat) i = if newErrAt l i = 0 then newErr l (l.length - (i + 1).toNat) (i + 1) else newErrAt l i := by
  have e : l.length - i.toNat = (l.length - (i + 1).toNat) + 1 := by omega
  rw [e]
  rfl
theorem fin_err {l r1 : List S35} {r2 e i : Int} (h0 : 0 ≤ i) (h : i < l.length) (HN : newErr l l.length 0 = newErr l (l.length - i.toNat) i) (hE : newErrAt l i = e) (he : e ≠ 0)
    (HH : (if newErr l l.length 0 = 0 then some (sortLab l, (0 : Int)) else some ([], newErr l l.length 0)) = some (r1, r2)) : r1 = [] ∧ r2 = e := by
  rw [HN, newErr_here h0 h, hE, if_neg he, if_neg he] at HH
  obtain ⟨rfl, rfl⟩ := Prod.mk.inj (Option.some.inj HH)
  exact ⟨rfl, rfl⟩
theorem step_err {l : List S35} {i : Int} (h0 : 0 ≤ i) (h : i < l.length) (HN : newErr l l.length 0 = newErr l (l.length - i.toNat) i) (hE : newErrAt l i = 0) : newErr l l.length 0 = newErr l (l.length - (i + 1).toNat) (i + 1) := by
  rw [HN, newErr_here h0 h, if_pos hE]
theorem fin_ok {l r1 : List S35} {r2 i : Int} (h0 : 0 ≤ i) (h : ¬ i < l.length) (HN : newErr l l.length 0 = newErr l (l.length - i.toNat) i)
    (HH : (if newErr l l.length 0 = 0 then some (sortLab l, (0 : Int)) else some ([], newErr l l.length 0)) = some (r1, r2)) : r1 = sortLab l ∧ r2 = 0 := by
  have e : l.length - i.toNat = 0 := by omega
  have e2 : newErr l l.length 0 = 0 := by rw [HN, e]; rfl
  rw [if_pos e2] at HH
  obtain ⟨rfl, rfl⟩ := Prod.mk.inj (Option.some.inj HH)
  exact ⟨rfl, rfl⟩
theorem C_take {w : World} {A : Option Addr} {xs : List S35} (h : Kd.C k35 w A xs.length xs) (i : Nat) (hi : i ≤ xs.length) : Kd.C k35 w A (xs.take i).length (xs.take i) := by
  have hl : (xs.take i).length = i := by rw [List.length_take]; omega
  refine ⟨rfl, by have := h.2.1; omega, fun hp => ?_⟩
  obtain ⟨ad, e, hc⟩ := h.2.2 (by omega)
  refine ⟨ad, e, fun j p hj => hc j p ?_⟩
  rw [List.getElem?_take] at hj
  split at hj
  · exact hj
  · cases hj
set_option maxHeartbeats 16000000 in
set_option maxRecDepth 100000 in
theorem labels_New.calls (A0 : Option Addr) (c0 : Nat) (l0 : List S35) (r1 : List S35) (r2 : Int) (w : World) (hr0 : Kd.C k35 w A0 l0.length l0) (hc0 : l0.length ≤ c0) (h : labels_New.f l0 = some (r1, r2)) :
    Calls Tryd.prog 65 #[.slice A0 l0.length c0] w fun e w' => ∃ v0_ : Value, e = .returned (.tuple #[v0_, .int .i64 r2]) ∧ Kd.R k35 35 w' w.heap.size (fun _ => True) v0_ r1 ∧ Below w.heap.size w w' := by
  have hu := Tryd.underlying35
  unfold labels_New.f at h
  by_cases h8 : 8 < l0.length
  · rw [if_pos h8] at h
    obtain ⟨rfl, rfl⟩ := Prod.mk.inj (Option.some.inj h)
    have hb : decide ((8 : Int) < (l0.length : Int)) = true := decide_eq_true (by omega)
    clear h h8 hr0 hc0
    go_enter Tryd.func65, Tryd.ntmps65
    go_wp2
    go_ret2
    exact ⟨_, rfl, Kd.R_nil _ _ _ _ _, Below.refl _ _⟩
  rw [if_neg h8] at h
  have HR := Aside0.mk hr0
  have HC := Aside0.mk hc0
  have H8 := Aside0.mk h8
  have hb8 : decide ((8 : Int) < (l0.length : Int)) = false := decide_eq_false (by omega)
  have HH := Aside0.mk h
  clear h h8 hr0 hc0
  go_enter Tryd.func65, Tryd.ntmps65
  go_wp2
  go_loopw [12] (fun v12 w' => ∃ i : Int, v12 = .int .i64 i ∧ 0 ≤ i ∧ i ≤ l0.length ∧ Aside0 (newErr l0 l0.length 0 = newErr l0 (l0.length - i.toNat) i) ∧ Aside0 (Below w.heap.size w w')) (fun v12 _ => l0.length - (intOf v12).toNat)
  case atStart => exact ⟨0, rfl, Int.le_refl _, by omega, ⟨rfl⟩, ⟨Below.refl _ _⟩⟩
  case round =>
    obtain ⟨i, rfl, hi0, hi, HN, HB⟩ := hrel
    have HI := Aside0.mk hi
    have hi1 : i ≤ 8 := by have := H8.out; omega
    by_cases hlt : i < l0.length
    · have hltb : decide (i < (l0.length : Int)) = true := decide_eq_true hlt
      have HRr := Kd.C_below HR.out HB.out
      obtain ⟨ad, e0, hx0, hx1⟩ := at_T35 HRr i hi0 hlt
      subst e0
      clear HRr
      have HLT := Aside0.mk hlt
      have p0 := eq_true hi0
      have q0 := eq_true hlt
      clear hlt hi
      generalize hx : rd_T35 l0 i = x at hx0 hx1
      have HE := Aside0.mk (newErrAt_eq l0 i x hx)
      clear hx
      have HB1 : ∀ {w1 : World}, Below (wr.alloc (.cells #[.string x.f0, .string x.f1] 35)).heap.size (wr.alloc (.cells #[.string x.f0, .string x.f1] 35)) w1 → Below w.heap.size w w1 := fun hb => below_then (below_alloc HB.out _) (below_alloc HB.out _).size hb
      have HK1 : ∀ {w1 : World}, Below (wr.alloc (.cells #[.string x.f0, .string x.f1] 35)).heap.size (wr.alloc (.cells #[.string x.f0, .string x.f1] 35)) w1 → w1.heap[wr.heap.size]? = some (.cells #[.string x.f0, .string x.f1] 35 (0, 0)) := fun hb => blk_below (blk_new _ _) hb
      have HB1 := Aside0.mk @HB1
      have HK1 := Aside0.mk @HK1
      cases hn : nameB x.f0 with
      | false =>
        have C1 := fun W => labels_Name.calls x.f0 false W (by unfold labels_Name.f; rw [hn])
        have HF := Aside0.mk (fin_err hi0 HLT.out HN.out (show newErrAt l0 i = 8 by rw [HE.out, if_pos hn]) (by decide) HH.out)
        clear HE hn
        go_wp2_with (go_at_call 44; refine (C1 _).mono ?_; rintro e w1 ⟨rfl, hb⟩; have HB2 := Aside0.mk (HB1.out hb); clear hb)
        go_ret2
        obtain ⟨rfl, rfl⟩ := HF.out
        exact ⟨_, rfl, Kd.R_nil _ _ _ _ _, HB2.out⟩
      | true =>
        have C1 := fun W => labels_Name.calls x.f0 true W (by unfold labels_Name.f; rw [hn])
        have hnn : ¬ nameB x.f0 = false := by rw [hn]; decide
        by_cases hz : x.f1.size = 0
        · have e0 : x.f1.toList = [] := by
            rw [Lib.toList_data]
            exact List.eq_nil_of_length_eq_zero (by simpa using hz)
          have HF := Aside0.mk (fin_err hi0 HLT.out HN.out (show newErrAt l0 i = 1 by rw [HE.out, if_neg hnn, if_pos hz]) (by decide) HH.out)
          clear HE hn hnn hz
          go_wp2_with (go_at_call 44; refine (C1 _).mono ?_; rintro e w1 ⟨rfl, hb⟩; have HB2 := Aside0.mk (HB1.out hb); have hz1 := (blk_cell (HK1.out hb) 1).trans rfl; clear hb)
          go_ret2
          obtain ⟨rfl, rfl⟩ := HF.out
          exact ⟨_, rfl, Kd.R_nil _ _ _ _ _, HB2.out⟩
        · have hne : x.f1.toList.isEmpty = false := by
            rw [Lib.toList_data]
            cases hd : x.f1.data.toList with
            | nil => exact absurd (by simpa using congrArg List.length hd) hz
            | cons => rfl
          cases hv : valueB x.f1 with
          | false =>
            have C2 := fun W => labels_Value.calls x.f1 false W (by unfold labels_Value.f; rw [hv])
            have HF := Aside0.mk (fin_err hi0 HLT.out HN.out (show newErrAt l0 i = 1 by rw [HE.out, if_neg hnn, if_neg hz, if_pos hv]) (by decide) HH.out)
            clear HE hn hnn hz hv
            go_wp2_with (first | (go_at_call 44; refine (C1 _).mono ?_; rintro e w1 ⟨rfl, hb⟩; have HB2 := Aside0.mk (HB1.out hb); have hz1 := (blk_cell (HK1.out hb) 1).trans rfl; clear hb) | (go_at_call 78; refine (C2 _).mono ?_; rintro e w2 ⟨rfl, hb⟩; have HB3 := Aside0.mk (below_then HB2.out HB2.out.size hb); clear hb hz1))
            go_ret2
            obtain ⟨rfl, rfl⟩ := HF.out
            exact ⟨_, rfl, Kd.R_nil _ _ _ _ _, HB3.out⟩
          | true =>
            have C2 := fun W => labels_Value.calls x.f1 true W (by unfold labels_Value.f; rw [hv])
            have hvv : ¬ valueB x.f1 = false := by rw [hv]; decide
            have C3 := fun W h1 h2 => new_has (some ad) c0 (l0.take i.toNat) x wr.heap.size W h1 (by rw [List.length_take]; have := H8.out; omega) h2
            have hl : (l0.take i.toNat).length = i.toNat := by rw [List.length_take]; have := HLT.out; omega
            rw [hl] at C3
            have HT0 := C_take HR.out i.toNat (by have := HLT.out; omega)
            rw [hl] at HT0
            have HT := Aside0.mk HT0
            clear HT0
            clear hl
            have hic1 : i ≤ (c0 : Int) := by have := HLT.out; have := HC.out; omega
            have hic2 : i.toNat ≤ c0 := by omega
            cases hh : hasN (l0.take i.toNat) x with
            | true =>
              have HF := Aside0.mk (fin_err hi0 HLT.out HN.out (show newErrAt l0 i = 10 by rw [HE.out, if_neg hnn, if_neg hz, if_neg hvv, if_pos hh]) (by decide) HH.out)
              rw [hh] at C3
              clear HE hn hnn hz hv hvv hh
              go_wp2_with (first | (go_at_call 44; refine (C1 _).mono ?_; rintro e w1 ⟨rfl, hb⟩; have HB2 := Aside0.mk (HB1.out hb); have HK2 := Aside0.mk (HK1.out hb); have hz1 := (blk_cell HK2.out 1).trans rfl; clear hb) | (go_at_call 78; refine (C2 _).mono ?_; rintro e w2 ⟨rfl, hb⟩; have HB3 := Aside0.mk (below_then HB2.out HB2.out.size hb); have HK3 := Aside0.mk (blk_below HK2.out hb); clear hb hz1) | (go_at_call 79; refine (C3 _ (Kd.C_below HT.out HB3.out) HK3.out).mono ?_; rintro e w3 ⟨rfl, hb⟩; have HB4 := Aside0.mk (below_then HB3.out HB3.out.size hb); clear hb))
              go_ret2
              obtain ⟨rfl, rfl⟩ := HF.out
              exact ⟨_, rfl, Kd.R_nil _ _ _ _ _, HB4.out⟩
            | false =>
              have HS := Aside0.mk (step_err hi0 HLT.out HN.out (show newErrAt l0 i = 0 by rw [HE.out, if_neg hnn, if_neg hz, if_neg hvv, if_neg (by rw [hh]; decide)]))
              rw [hh] at C3
              clear HE hn hnn hz hv hvv hh
              go_wp2_with (first | (go_at_call 44; refine (C1 _).mono ?_; rintro e w1 ⟨rfl, hb⟩; have HB2 := Aside0.mk (HB1.out hb); have HK2 := Aside0.mk (HK1.out hb); have hz1 := (blk_cell HK2.out 1).trans rfl; clear hb) | (go_at_call 78; refine (C2 _).mono ?_; rintro e w2 ⟨rfl, hb⟩; have HB3 := Aside0.mk (below_then HB2.out HB2.out.size hb); have HK3 := Aside0.mk (blk_below HK2.out hb); clear hb hz1) | (go_at_call 79; refine (C3 _ (Kd.C_below HT.out HB3.out) HK3.out).mono ?_; rintro e w3 ⟨rfl, hb⟩; have HB4 := Aside0.mk (below_then HB3.out HB3.out.size hb); clear hb))
              go_roundw
              case rel => exact ⟨i + 1, rfl, by omega, by have := HLT.out; omega, HS, HB4⟩
              case measure => have := HLT.out; simp [intOf]; omega
    · have hltb : decide (i < (l0.length : Int)) = false := decide_eq_false hlt
      obtain ⟨rfl, rfl⟩ := fin_ok hi0 hlt HN.out HH.out
      have CC := fun W h => clone_lab A0 c0 l0 W h (by have := H8.out; omega)
      clear hlt hi
      go_wp2_with (first | (go_at_call 81; refine (CC _ (Kd.C_below HR.out HB.out)).mono ?_; rintro e w1 ⟨v, rfl, ho, hb⟩; have HO1 := Aside0.mk (Kd.R_lower ho HB.out.size); have HB2 := Aside0.mk (below_then HB.out HB.out.size hb); clear ho hb) | (go_at_call 82; refine (sort_lab _ l0 w _ w.heap.size (fun _ => True) HO1.out HB2.out (by have := H8.out; omega)).mono ?_; rintro e w2 ⟨rfl, ho, hb⟩; have HO2 := Aside0.mk ho; have HB3 := Aside0.mk hb; clear ho hb))
      go_ret2
      exact ⟨_, rfl, HO2.out, HB3.out⟩
end Go.Proofs.YtbbddeilbcpmiaaDoor.Q
