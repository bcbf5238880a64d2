/- slices.ContainsFunc of labels, at the closure of labels.New that asks for the name of one label: what the code computes. -/
import Derived.Test.YtbbddeilbcpmiaaDoorQ0
import Derived.Outline
namespace Go.Proofs.YtbbddeilbcpmiaaDoor.Q
open Go.RowKit Go.Proofs.YtbbddeilbcpmiaaDoorW.PrintWords Go.Proofs.YtbbddeilbcpmiaaDoorW.PrintLast Go.Proofs.YtbbddeilbcpmiaaDoorW.PrintMore
set_option linter.unusedVariables false
set_option linter.unusedSimpArgs false
abbrev Lab := S35
theorem bcellH {W w1 : World} (hb : Below W.heap.size W w1) : (∀ b o, b < W.heap.size → w1.cell? ⟨b, o, none⟩ = W.cell? ⟨b, o, none⟩) :=
  fun b o h => hb.cell (p := ⟨b, o, none⟩) h
set_option maxHeartbeats 4000000 in
set_option maxRecDepth 100000 in
theorem new_same (y x : Lab) (g : Nat) (W : World) (hx : W.heap[g]? = some (.cells #[.string x.f0, .string x.f1] 35 (0, 0))) :
    Calls Tryd.prog 80 #[.agg #[.string y.f0, .string y.f1], .pointer (some ⟨g, 0, none⟩)] W fun e w' => e = .returned (.bool (y.f0.toList == x.f0.toList)) ∧ Below W.heap.size W w' := by
  have hu := Tryd.underlying35
  have hc0 : W.cell? ⟨g, 0, none⟩ = some (.string x.f0) := (blk_cell hx 0).trans rfl
  have hlt : g < W.heap.size := blk_lt hx
  clear hx
  go_enter Tryd.func80, Tryd.ntmps80
  go_wp2
  go_ret
  exact ⟨rfl, (Below.refl _ _).alloc (Nat.le_refl _) _⟩
def hasN (xs : List Lab) (x : Lab) : Bool := xs.any fun y => y.f0.toList == x.f0.toList
theorem rd_lab (xs : List Lab) (i : Int) (h0 : 0 ≤ i) (h : i < xs.length) : ∃ h' : i.toNat < xs.length, rd_T35 xs i = xs[i.toNat] := by
  have h' : i.toNat < xs.length := by omega
  refine ⟨h', ?_⟩
  show xs.getD i.toNat _ = _
  simp [h']
theorem hasN_step (xs : List Lab) (x : Lab) (i : Int) (h0 : 0 ≤ i) (h : i < xs.length) : hasN (xs.take (i + 1).toNat) x = (hasN (xs.take i.toNat) x || ((rd_T35 xs i).f0.toList == x.f0.toList)) := by
  obtain ⟨h', e⟩ := rd_lab xs i h0 h
  rw [e]
  have e2 : (i + 1).toNat = i.toNat + 1 := by omega
  rw [e2]
  unfold hasN
  rw [List.take_succ_eq_append_getElem h', List.any_append]
  simp
theorem hasN_true (xs : List Lab) (x : Lab) (i : Int) (h0 : 0 ≤ i) (h : i < xs.length) (hy : ((rd_T35 xs i).f0.toList == x.f0.toList) = true) : hasN xs x = true := by
  obtain ⟨h', e⟩ := rd_lab xs i h0 h
  rw [e] at hy
  unfold hasN
  rw [List.any_eq_true]
  exact ⟨_, List.getElem_mem h', hy⟩
set_option maxHeartbeats 4000000 in
set_option maxRecDepth 100000 in
theorem new_index (A : Option Addr) (c : Nat) (xs : List Lab) (x : Lab) (g : Nat) (W : World) (hr : Kd.C k35 W A xs.length xs) (hl : xs.length ≤ 1000) (hx : W.heap[g]? = some (.cells #[.string x.f0, .string x.f1] 35 (0, 0))) :
    Calls Tryd.prog 100 #[.slice A xs.length c, .func (.func 80) #[] #[.pointer (some ⟨g, 0, none⟩)]] W fun e w' => ∃ r : Int, e = .returned (.int .i64 r) ∧ Aside0 (decide (0 ≤ r) = hasN xs x) ∧ Below W.heap.size W w' := by
  have hu := Tryd.underlying35
  have HR := Aside0.mk hr
  have HX := Aside0.mk hx
  clear hr hx
  go_enter Tryd.func100, Tryd.ntmps100
  go_wp2
  go_loopw [8] (fun v8 w' => ∃ i : Int, v8 = .int .i64 i ∧ 0 ≤ i ∧ i ≤ xs.length ∧ Aside0 (hasN (xs.take i.toNat) x = false) ∧ Aside0 (Below W.heap.size W w')) (fun v8 _ => xs.length - (intOf v8).toNat)
  case atStart => exact ⟨0, rfl, Int.le_refl _, by omega, ⟨rfl⟩, ⟨Below.refl _ _⟩⟩
  case round =>
    obtain ⟨i, rfl, hi0, hi, HN, HB⟩ := hrel
    have HI := Aside0.mk hi
    have hi1 : i ≤ 1000 := by omega
    by_cases hlt : i < xs.length
    · have hltb : decide (i < (xs.length : Int)) = true := decide_eq_true hlt
      have HRr := Kd.C_below HR.out HB.out
      have HXr := Aside0.mk (blk_below HX.out HB.out)
      obtain ⟨ad, e0, hx0, hx1⟩ := at_T35 HRr i hi0 hlt
      subst e0
      have hsn := Aside0.mk (hasN_step xs x i hi0 hlt)
      have htr := Aside0.mk (hasN_true xs x i hi0 hlt)
      clear HRr
      have CC := fun W' h' => new_same (rd_T35 xs i) x g W' h'
      have HLT := Aside0.mk hlt
      have p0 := eq_true hi0
      have q0 := eq_true hlt
      clear hlt hi
      cases hq : ((rd_T35 xs i).f0.toList == x.f0.toList) with
      | true =>
        rw [hq] at CC
        have HT := Aside0.mk (htr.out hq)
        clear hsn htr hq
        go_wp2_with (go_at_call 80; refine (CC _ HXr.out).mono ?_; rintro e w' ⟨rfl, hb⟩)
        go_ret
        exact ⟨i, rfl, ⟨by rw [HT.out]; exact decide_eq_true (of_eq_true p0)⟩, below_then HB.out HB.out.size hb⟩
      | false =>
        rw [hq] at CC
        have HT := Aside0.mk (show hasN (xs.take (i + 1).toNat) x = false by rw [hsn.out, HN.out, hq]; rfl)
        clear hsn htr hq
        go_wp2_with (go_at_call 80; refine (CC _ HXr.out).mono ?_; rintro e w' ⟨rfl, hb⟩)
        go_roundw
        case rel => exact ⟨i + 1, rfl, by have := of_eq_true p0; omega, by have := HLT.out; omega, HT, ⟨below_then HB.out HB.out.size hb⟩⟩
        case measure => have := HLT.out; have := of_eq_true p0; simp [intOf]; omega
    · have hltb : decide (i < (xs.length : Int)) = false := decide_eq_false hlt
      have HE := Aside0.mk (show hasN xs x = false by have := HN.out; rwa [List.take_of_length_le (by omega)] at this)
      clear hlt hi
      go_wp2
      go_ret
      exact ⟨-1, rfl, ⟨by rw [HE.out]; rfl⟩, HB.out⟩
set_option maxHeartbeats 4000000 in
set_option maxRecDepth 100000 in
theorem new_has (A : Option Addr) (c : Nat) (xs : List Lab) (x : Lab) (g : Nat) (W : World) (hr : Kd.C k35 W A xs.length xs) (hl : xs.length ≤ 1000) (hx : W.heap[g]? = some (.cells #[.string x.f0, .string x.f1] 35 (0, 0))) :
    Calls Tryd.prog 79 #[.slice A xs.length c, .func (.func 80) #[] #[.pointer (some ⟨g, 0, none⟩)]] W fun e w' => e = .returned (.bool (hasN xs x)) ∧ Below W.heap.size W w' := by
  have C1 := new_index A c xs x g W hr hl hx
  clear hr hl hx
  go_enter Tryd.func79, Tryd.ntmps79
  go_wp2_with (go_at_call 100; refine C1.mono ?_; rintro e w' ⟨r, rfl, hq, hb⟩)
  go_ret
  exact ⟨congrArg (fun b => Ending.returned (Value.bool b)) hq.out, hb⟩
end Go.Proofs.YtbbddeilbcpmiaaDoor.Q
