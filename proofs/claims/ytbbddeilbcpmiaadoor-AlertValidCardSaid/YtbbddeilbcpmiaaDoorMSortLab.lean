/- slices.SortFunc of at most 12 labels by their names: what the code computes. -/
import Derived.Test.YtbbddeilbcpmiaaDoorQ0
import Derived.Test.YtbbddeilbcpmiaaDoorMLabelsCmp
import Derived.Test.YtbbddeilbcpmiaaDoorMSortKit
import Derived.Test.YtbbddeilbcpmiaaDoorSortShelf
import Derived.Outline
namespace Go.Proofs.YtbbddeilbcpmiaaDoor.Q
open Go.RowKit Go.Sort Go.Proofs.YtbbddeilbcpmiaaDoorW.PrintWords Go.Proofs.YtbbddeilbcpmiaaDoorW.PrintLast Go.Proofs.YtbbddeilbcpmiaaDoorW.PrintMore
set_option linter.unusedVariables false
set_option linter.unusedSimpArgs false
instance : Inhabited S35 := ⟨z35⟩
def encLab (x : S35) : List Value := [.string x.f0, .string x.f1]
theorem lab_M {w : World} {base : Nat} {ok : Nat → Prop} (x : S35) (cs : List Value) (h : k35.M w base ok x cs) : cs = encLab x := k35_openM h
theorem lab_mk {w : World} {base : Nat} {ok : Nat → Prop} (x : S35) : k35.M w base ok x (encLab x) := k35_mkM w base ok x
def cmpLab (x y : S35) : Int := cmpS x.f0 y.f0
/-- The labels as the insertion sort lays them. -/
def sortLab (l : List S35) : List S35 := (Sort.insertionSort (ltOf cmpLab) l.toArray 0 l.toArray.size).toList
set_option maxHeartbeats 1000000 in
theorem new_cmp (x y : S35) (W : World) : Calls Tryd.prog 83 #[.agg (encLab x).toArray, .agg (encLab y).toArray] W fun e w' => e = .returned (.int .i64 (cmpLab x y)) ∧ ∃ q os', w' = Sort.grow (W.drewN q) os' := by
  have hcon := fun W' => cmp_string x.f0 y.f0 W'
  show Calls Tryd.prog 83 #[.agg #[.string x.f0, .string x.f1], .agg #[.string y.f0, .string y.f1]] W _
  unfold cmpLab
  generalize cmpS x.f0 y.f0 = r at hcon ⊢
  have hu := Tryd.underlying35
  go_enter Tryd.func83, Tryd.ntmps83
  go_wp2_with (go_at_call 84; refine (hcon _).mono ?_; rintro e w' ⟨rfl, rfl⟩)
  go_ret
  exact ⟨rfl, 0, _, by rw [alloc_eq_grow, alloc_eq_grow, grow_grow]; rfl⟩
theorem hlenL (n : Nat) (W : World) (h : n ≤ 12) : Calls Tryd.prog 102 #[.int .u64 n] W fun e w' => (∃ l : Int, e = .returned (.int .i64 l)) ∧ w' = W :=
  (Any.bits_Len Tryd.bitsLen n W (by omega) (by omega)).mono fun _ _ ⟨he, hw⟩ => ⟨⟨_, he⟩, hw⟩
theorem ltLab (x y : S35) : ltOf cmpLab x y = decide (x.f0.data.toList < y.f0.data.toList) := by
  unfold ltOf cmpLab cmpS
  rw [Lib.toList_data, Lib.toList_data, Proofs.bytesLess_eq]
  by_cases h : x.f0.data.toList < y.f0.data.toList
  · simp [h]
  · simp only [h, decide_false, Bool.false_eq_true, if_false]
    by_cases h2 : (x.f0.data.toList == y.f0.data.toList) = true
    · rw [if_pos h2]; rfl
    · rw [if_neg h2]; rfl
theorem swoLab : SWO (ltOf cmpLab) where
  irrefl x := by rw [ltLab]; exact decide_eq_false (List.lt_irrefl _)
  trans x y z h1 h2 := by
    rw [ltLab, decide_eq_true_eq] at *
    exact List.lt_trans h1 h2
  ntrans x y z h1 h2 := by
    rw [ltLab, decide_eq_false_iff_not] at *
    rw [List.not_lt] at *
    exact List.le_trans h2 h1
theorem sortLab_size (l : List S35) : (Sort.insertionSort (ltOf cmpLab) l.toArray 0 l.toArray.size).size = l.length := by
  have h := (insertionSort_holds (lt := ltOf cmpLab) swoLab l.toArray 0 l.toArray.size (Nat.zero_le _) (Nat.le_refl _)).1.1
  rw [h]
  simp
set_option maxHeartbeats 4000000 in
set_option maxRecDepth 100000 in
theorem ins_none (W : World) : Calls Tryd.prog 107 #[.slice none 0 0, .int .i64 0, .int .i64 0, .func (.func 83) #[] #[]] W fun e w' => e = .returned (.tuple #[]) ∧ w' = W := by
  go_enter Tryd.func107, Tryd.ntmps107
  go_wp2
  refine wp_loop_rounds 1 ?_
  rw [rounds_succ]
  go_wp2
  go_end0
  exact ⟨rfl, rfl⟩
set_option maxHeartbeats 4000000 in
set_option maxRecDepth 100000 in
theorem pdq_none (l : Int) (W : World) : Calls Tryd.prog 101 #[.slice none 0 0, .int .i64 0, .int .i64 0, .int .i64 l, .func (.func 83) #[] #[]] W fun e w' => e = .returned (.tuple #[]) ∧ w' = W := by
  go_enter Tryd.func101, Tryd.ntmps101
  go_wp2
  refine wp_loop_rounds 1 ?_
  rw [rounds_succ]
  go_wp2_with (go_at_call 107; refine (ins_none _).mono ?_; rintro e w' ⟨rfl, rfl⟩)
  (try simp only [Exit.inBlock, Exit.then]); refine bodyPost_ret (results_none rfl _ _ _) rfl ?_
  exact ⟨rfl, rfl⟩
set_option maxHeartbeats 4000000 in
set_option maxRecDepth 100000 in
theorem sort_lab (v : Value) (l : List S35) (w0 w : World) (base : Nat) (ok : Nat → Prop) (HO : Kd.R k35 35 w base ok v l) (HB : Below base w0 w) (h12 : l.length ≤ 12) :
    Calls Tryd.prog 82 #[v, .func (.func 83) #[] #[]] w fun e w' => e = .returned (.tuple #[]) ∧ Kd.R k35 35 w' base ok v (sortLab l) ∧ Below base w0 w' := by
  rcases holdsK_of_R (fun _ => rfl) lab_M HO with ⟨rfl, rfl⟩ | ⟨g, c, rfl, hg, hlt, hH⟩
  · go_enter Tryd.func82, Tryd.ntmps82
    go_wp2_with (first | (go_at_call 102; refine (hlenL 0 _ (by omega)).mono ?_; rintro e w' ⟨⟨l, rfl⟩, rfl⟩) | (go_at_call 101; refine (pdq_none _ _).mono ?_; rintro e w' ⟨rfl, rfl⟩))
    go_end0
    have e : sortLab [] = [] := List.eq_nil_of_length_eq_zero (by unfold sortLab; rw [Array.length_toList, sortLab_size]; rfl)
    exact ⟨rfl, by rw [e]; exact HO, HB⟩
  · have eg : ∀ args w, (callFunc 83 args).run Tryd.prog w = .ok (.enter 83 args) w := enters_of Tryd.func83 (by kernel_rfl) rfl
    have hcon := AnyQ.slices_SortFunc_small Tryd.sortLab 2 Tryd.isAgg35 Tryd.sizeOf35 encLab (fun _ => rfl) (fun x v hv => by simp [encLab] at hv; rcases hv with rfl | rfl <;> rfl) cmpLab 83 #[] g 0 c l.toArray w eg (fun _ _ _ _ x y => new_cmp x y _) hH hlt (by simpa using h12) hlenL
    have hcon2 : Calls Tryd.prog 82 #[.slice (some ⟨g, 0, none⟩) l.length c, .func (.func 83) #[] #[]] w _ := hcon
    refine hcon2.mono ?_
    rintro e w' ⟨rfl, n, os, rfl⟩
    refine ⟨rfl, R_of_sortK (d := k35) (enc := encLab) (fun _ => rfl) lab_M lab_mk HO n _ ?_ os, below_sortK encLab 2 HB hg hlt n _ os⟩
    exact sortLab_size l
end Go.Proofs.YtbbddeilbcpmiaaDoor.Q
