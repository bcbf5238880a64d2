/- intervalmonlaw31.PagesRuns: the walk. -/
import Derived.Test.YtgdojonkkfcaeaaMRunsP
namespace Go.Proofs.Ytgdojonkkfcaeaa.Q
open Go.RowKit Go.Maps Go.Proofs.YtgdojonkkfcaeaaW.PrintWords Go.Proofs.YtgdojonkkfcaeaaW.PrintLast Go.Proofs.YtgdojonkkfcaeaaW.PrintMore
set_option linter.unusedVariables false
set_option linter.unusedSimpArgs false
namespace led
def RT10 : Bool × List (List Nat × List Nat) := (true, [([], []), ([], []), ([], []), ([1, 2], [1, 2]), ([3], [3]), ([], []), ([], []), ([5, 6], [5, 6]), ([7], [7]), ([4, 8], [4, 8]), ([0, 9], [0, 9]), ([10], [10])])
def RG10 : List Nat := [0, 0, 0, 6, 14, 0, 0, 96, 224, 510, 1023, 2047]
theorem rtab10 : rtab .any (opsOf Try.f6 10) = RT10 := by kernel_rfl
theorem rbits10 : waitsOk RT10.2 RG10 = true := by kernel_rfl
/-- What holds while the runs are paged. -/
def RunI (w : World) (pN p : Nat) (vw : Value) (was : List Int) (vi : Value) (is : List Int) (es : List S31) (wr : World) : Prop :=
  ∃ S : Nat → Prop, Led wr w.heap.size p S es ∧ (∀ g, S g → pN ≤ g ∧ g < wr.heap.size) ∧ Kd.R (Kd.int .i64) 3 wr w.heap.size (fun k => k < pN) vw was ∧ Kd.R (Kd.int .i64) 3 wr w.heap.size (fun k => k < pN) vi is ∧ Below w.heap.size w wr ∧ pN ≤ wr.heap.size
set_option maxHeartbeats 4000000 in
set_option maxRecDepth 100000 in
theorem runsC (A0 : Option Addr) (c0 : Nat) (l0 : List Int) (A1 : Option Addr) (c1 : Nat) (l1 : List Int) (first : Int) (w : World) (hr0 : Kd.C (Kd.int .i64) w A0 l0.length l0) (hc0 : l0.length ≤ c0) (hr1 : Kd.C (Kd.int .i64) w A1 l1.length l1) (hc1 : l1.length ≤ c1) (h0 : ∀ x ∈ l0, gen.Wf x) (h1 : ∀ x ∈ l1, gen.Wf x) (hf : gen.Wf first) :
    Calls Try.prog 6 #[.slice A0 l0.length c0, .slice A1 l1.length c1, .int .i64 first] w fun e w' => e = .returned (.bool true) ∧ Below w.heap.size w w' := by
  have AR := Lib.hid (gen.aroundC first 1000 hf (by omega) w)
  obtain ⟨hn0, hn1⟩ := gen.aroundV_range first 1000 (by omega)
  generalize gen.aroundV first 1000 = n at AR hn0 hn1
  obtain ⟨va, ha, hal⟩ := gen.verdicts_f l0 h0
  obtain ⟨vb, hb, hbl⟩ := gen.verdicts_f l1 h1
  obtain ⟨was, hwas, hwi, hwm, hwl⟩ := gen.runs_f n va ⟨hn0, by omega⟩ (by omega)
  obtain ⟨is, his, hii, him, hil⟩ := gen.runs_f n vb ⟨hn0, by omega⟩ (by omega)
  have HR0 := Lib.hid hr0
  have HR1 := Lib.hid hr1
  have HWI := Lib.hid hwi
  have HWM := Lib.hid (show ∀ x ∈ was, 0 ≤ x ∧ x ≤ 2000 from fun x hx => by have := hwm x hx; omega)
  have HWL := Lib.hid (show was.length ≤ 30 by omega)
  have HII := Lib.hid hii
  have HIM := Lib.hid (show ∀ x ∈ is, 0 ≤ x ∧ x ≤ 2000 from fun x hx => by have := him x hx; omega)
  have HIL := Lib.hid (show is.length ≤ 30 by omega)
  have VA := Lib.hid (fun W (h : Below w.heap.size w W) => intervalmonref28_Verdicts.calls _ A0 c0 l0 30 va W (Kd.C_below hr0 h) hc0 ha)
  have VB := Lib.hid (fun W (h : Below w.heap.size w W) => intervalmonref28_Verdicts.calls _ A1 c1 l1 30 vb W (Kd.C_below hr1 h) hc1 hb)
  have RA := Lib.hid (fun A c W hr hc => alert_Runs.calls _ n A c va was W hr hc hwas)
  have RB := Lib.hid (fun A c W hr hc => alert_Runs.calls _ n A c vb is W hr hc his)
  have hn2 : n ≤ 1000 := by omega
  clear hr0 hr1 ha hb hwas his hwi hwm hwl hii him hil hal hbl h0 h1 hf
  go_enter Try.func6, Try.ntmps6
  go_wp2_with fail
  refine AR.out.mono ?_
  rintro e w1 ⟨rfl, hb1⟩
  have HB1 := Lib.hid hb1
  clear hb1 AR
  go_wp2_with fail
  refine (VA.out _ HB1.out).mono ?_
  rintro e w2 ⟨u2, rfl, hr2, hb2⟩
  have HB2 := Lib.hid (below_step HB1.out hb2)
  obtain ⟨A2, c2, rfl⟩ := Kd.R_slice hr2
  have CA := Lib.hid (RA.out A2 c2 w2 (Kd.R_reads' hr2).2.2 (Kd.R_reads' hr2).2.1)
  clear hr2 hb2 RA VA
  go_wp2_with fail
  refine CA.out.mono ?_
  rintro e w3 ⟨u3, rfl, hr3, hb3⟩
  have HB3 := Lib.hid (below_step HB2.out hb3)
  have HW3 := Lib.hid (Kd.R_lower (Kd.R_mono (ok' := fun k => k < w3.heap.size) (Kd.R_bound hr3) (fun k hk => hk.2.2.1)) HB2.out.size)
  clear hr3 hb3 CA
  go_wp2_with fail
  refine (VB.out _ HB3.out).mono ?_
  rintro e w4 ⟨u4, rfl, hr4, hb4⟩
  have HB4 := Lib.hid (below_step HB3.out hb4)
  have HW4 := Lib.hid (Kd.R_mono (ok' := fun k => k < w4.heap.size) (Kd.R_below HW3.out hb4) (fun k hk => Nat.lt_of_lt_of_le hk hb4.size))
  obtain ⟨A4, c4, rfl⟩ := Kd.R_slice hr4
  have CB := Lib.hid (RB.out A4 c4 w4 (Kd.R_reads' hr4).2.2 (Kd.R_reads' hr4).2.1)
  clear hr4 hb4 RB VB HW3
  go_wp2_with fail
  refine CB.out.mono ?_
  rintro e w5 ⟨u5, rfl, hr5, hb5⟩
  have HB5 := Lib.hid (below_step HB4.out hb5)
  have HW5 := Lib.hid (Kd.R_mono (ok' := fun k => k < w5.heap.size) (Kd.R_below HW4.out hb5) (fun k hk => Nat.lt_of_lt_of_le hk hb5.size))
  have HV5 := Lib.hid (Kd.R_lower (Kd.R_mono (ok' := fun k => k < w5.heap.size) (Kd.R_bound hr5) (fun k hk => hk.2.2.1)) HB4.out.size)
  clear hr5 hb5 CB HW4
  have NEW := Lib.hid (newC HB5.out HB5.out.size)
  go_wp2_with fail
  refine NEW.out.mono ?_
  rintro e w6 ⟨rfl, hL6, hB6, hb6⟩
  obtain ⟨A3, c3, rfl⟩ := Kd.R_slice HW5.out
  obtain ⟨A5, c5, rfl⟩ := Kd.R_slice HV5.out
  generalize hvw : Value.slice A3 was.length c3 = vw at HW5
  generalize hvi : Value.slice A5 is.length c5 = vi at HV5
  have HI := Lib.hid (show RunI w w5.heap.size (w5.heap.size + 1) vw was vi is (esW (was.take 0)) w6 from ⟨_, led_bound hL6, fun g hg => hg, Kd.R_below HW5.out hb6, Kd.R_below HV5.out hb6, hB6, hb6.size⟩)
  subst hvw hvi
  generalize hp : w5.heap.size + 1 = p at HI ⊢
  generalize w5.heap.size = pN at HI
  clear hL6 hB6 hb6 NEW HB1 HB2 HB3 HB4 HB5 HW5 HV5 hp
  go_wp2_with fail
  go_loopw [11] (fun v11 wr => ∃ i : Nat, v11 = .int .i64 i ∧ i ≤ was.length ∧ Hid (RunI w pN p (.slice A3 was.length c3) was (.slice A5 is.length c5) is (esW (was.take i)) wr)) (fun v11 _ => was.length - (intOf v11).toNat)
  case atStart => exact ⟨0, rfl, Nat.zero_le _, HI⟩
  case round =>
    obtain ⟨i, rfl, hi, HIr⟩ := hrel
    clear HI
    by_cases hlt : i < was.length
    · obtain ⟨S1, hL1, hS1, hW1, hV1, hB1, hN1⟩ := HIr.out
      have HL1 := Lib.hid hL1
      have HS1 := Lib.hid hS1
      have HW1 := Lib.hid hW1
      have HV1 := Lib.hid hV1
      have HB1 := Lib.hid hB1
      have HN1 := Lib.hid hN1
      clear hL1 hS1 hW1 hV1 hB1 hN1 HIr
      have HC1 := Lib.hid (Kd.R_reads' HW1.out).2.2
      obtain ⟨ad, rfl, hcell⟩ := Kd.at_int HC1.out (i : Int) (by omega) (by omega)
      rw [Int.toNat_natCast, gen.rd_nat] at hcell
      have HTK := Lib.hid (show was.take (i + 1) = was.take i ++ [was.getD i 0] from by
        rw [List.take_succ_eq_append_getElem hlt, List.getD_eq_getElem?_getD, List.getElem?_eq_getElem hlt]; rfl)
      have ht := HWM.out _ (gen.getD_mem hlt)
      have hni : was.getD i 0 ∉ was.take i := fun h => by
        have h2 := (List.pairwise_append.1 (HTK.out ▸ (HWI.out.sublist (List.take_sublist _ _)))).2.2 _ h (was.getD i 0) (by simp)
        omega
      have hfw := fireW (fun x hx => HWM.out x (List.mem_of_mem_take hx)) ht hni
      rw [← HTK.out] at hfw
      generalize was.getD i 0 = t at hcell hfw ht
      have hwt : (Lit.int .i64 t).wf = true := wf_small (by omega) (by omega)
      have F1 := Lib.hid (fireB (w0 := w) (w := wr.drew) (b := true) 0 hot 1 none 0 [] t t ⟨#[]⟩ (led_below HL1.out (below_drew (Below.refl _ _))) (below_drew HB1.out) HB1.out.size (Kd.C_nil k54 _) (Nat.le_refl _) valid_nil (fun _ => ⟨Nat.zero_le _, fun x hx => by cases hx⟩) wf1 hwt (by rw [esW_length, List.length_take]; have := HWL.out; omega))
      rw [okW ht, show fireE (esW (was.take i)) true (⟨0, hot, 1, [], t, t, ⟨#[]⟩⟩ : S31) = 0 from hfw.1, show fireL (esW (was.take i)) true (⟨0, hot, 1, [], t, t, ⟨#[]⟩⟩ : S31) = esW (was.take (i + 1)) from hfw.2] at F1
      have HLT := Lib.hid hlt
      have hib : i < 30 := by have := HWL.out; omega
      clear hfw ht hni hwt
      go_wp2_with fail
      refine start_ (n := 12) (S := (fun w' => w'.cell? (ad.add i) = some (.int .i64 t) ∧ True)) (ds := [10]) #[false, false, false, false, false, false, false, false, false, false, false, false] (by kernel_rfl) rfl rfl ⟨hcell, trivial⟩ (fun hHeld => ?_)
      refine with_tabW rtab10 rbits10 (fun HT_ HW_ => ?_)
      clear hcell
      refine pure_ (i := 0) (N := some 35) (v := ?_) (a' := ?_) #[true, false, false, false, false, false, false, false, false, false, false, false] rfl rfl (any_of HT_.out (by kernel_rfl)) (fun _ _ _ h => h) (Or.inl ⟨by rfl, ?_⟩) ?_ ?_
      rotate_left
      · intro w'
        go_simp
        with_reducible rfl
      rotate_left
      · simp only [Act.put, List.setIfInBounds_toArray, List.set_cons_zero, List.set_cons_succ, i64_w, i32_w]
        rfl
      refine pure_ (i := 1) (N := some 36) (v := ?_) (a' := ?_) #[true, true, false, false, false, false, false, false, false, false, false, false] rfl rfl (any_of HT_.out (by kernel_rfl)) (fun _ _ _ h => h) (Or.inl ⟨by rfl, ?_⟩) ?_ ?_
      rotate_left
      · intro w'
        go_simp
        with_reducible rfl
      rotate_left
      · simp only [Act.put, List.setIfInBounds_toArray, List.set_cons_zero, List.set_cons_succ, i64_w, i32_w]
        rfl
      refine pure_ (i := 2) (N := some 37) (v := ?_) (a' := ?_) #[true, true, true, false, false, false, false, false, false, false, false, false] rfl rfl (any_of HT_.out (by kernel_rfl)) (fun _ _ _ h => h) (Or.inl ⟨by rfl, ?_⟩) ?_ ?_
      rotate_left
      · intro w'
        go_simp
        with_reducible rfl
      rotate_left
      · simp only [Act.put, List.setIfInBounds_toArray, List.set_cons_zero, List.set_cons_succ, i64_w, i32_w]
        rfl
      refine pure_ (i := 3) (N := some 38) (v := ?_) (a' := ?_) #[true, true, true, true, false, false, false, false, false, false, false, false] rfl rfl (any_of HT_.out (by kernel_rfl)) (fun _ _ _ h => h) (Or.inl ⟨by rfl, ?_⟩) ?_ ?_
      rotate_left
      · intro w'
        go_simp
        with_reducible rfl
      rotate_left
      · simp only [Act.put, List.setIfInBounds_toArray, List.set_cons_zero, List.set_cons_succ, i64_w, i32_w]
        rfl
      refine take_ (i := 4) (N := some 39) (v := ?_) (a' := ?_) #[true, true, true, true, true, false, false, false, false, false, false, false] rfl rfl (take_ofW HT_.out HW_.out (by kernel_rfl)) (fun _ _ _ h => h) (Or.inl ⟨by rfl, ?_⟩) hHeld ?_ ?_
      rotate_left
      · rintro w' ⟨s0, s1⟩
        go_simp
        with_reducible rfl
      rotate_left
      · simp only [Act.put, List.setIfInBounds_toArray, List.set_cons_zero, List.set_cons_succ, i64_w, i32_w]
        rfl
      refine pure_ (i := 5) (N := some 40) (v := ?_) (a' := ?_) #[true, true, true, true, true, true, false, false, false, false, false, false] rfl rfl (any_of HT_.out (by kernel_rfl)) (fun _ _ _ h => h) (Or.inl ⟨by rfl, ?_⟩) ?_ ?_
      rotate_left
      · intro w'
        go_simp
        with_reducible rfl
      rotate_left
      · simp only [Act.put, List.setIfInBounds_toArray, List.set_cons_zero, List.set_cons_succ, i64_w, i32_w]
        rfl
      refine pure_ (i := 6) (N := some 41) (v := ?_) (a' := ?_) #[true, true, true, true, true, true, true, false, false, false, false, false] rfl rfl (any_of HT_.out (by kernel_rfl)) (fun _ _ _ h => h) (Or.inl ⟨by rfl, ?_⟩) ?_ ?_
      rotate_left
      · intro w'
        go_simp
        with_reducible rfl
      rotate_left
      · simp only [Act.put, List.setIfInBounds_toArray, List.set_cons_zero, List.set_cons_succ, i64_w, i32_w]
        rfl
      refine pure_ (i := 7) (N := some 42) (v := ?_) (a' := ?_) #[true, true, true, true, true, true, true, true, false, false, false, false] rfl rfl (any_of HT_.out (by kernel_rfl)) (fun _ _ _ h => h) (Or.inl ⟨by rfl, ?_⟩) ?_ ?_
      rotate_left
      · intro w'
        go_simp
        with_reducible rfl
      rotate_left
      · simp only [Act.put, List.setIfInBounds_toArray, List.set_cons_zero, List.set_cons_succ, i64_w, i32_w]
        rfl
      refine take_ (i := 8) (N := some 43) (v := ?_) (a' := ?_) #[true, true, true, true, true, true, true, true, true, false, false, false] rfl rfl (take_ofW HT_.out HW_.out (by kernel_rfl)) (fun _ _ _ h => h) (Or.inl ⟨by rfl, ?_⟩) hHeld ?_ ?_
      rotate_left
      · rintro w' ⟨s0, s1⟩
        go_simp
        with_reducible rfl
      rotate_left
      · simp only [Act.put, List.setIfInBounds_toArray, List.set_cons_zero, List.set_cons_succ, i64_w, i32_w]
        rfl
      refine pure_ (i := 9) (N := some 44) (v := ?_) (a' := ?_) #[true, true, true, true, true, true, true, true, true, true, false, false] rfl rfl (any_of HT_.out (by kernel_rfl)) (fun _ _ _ h => h) (Or.inl ⟨by rfl, ?_⟩) ?_ ?_
      rotate_left
      · intro w'
        go_simp
        with_reducible rfl
      rotate_left
      · simp only [Act.put, List.setIfInBounds_toArray, List.set_cons_zero, List.set_cons_succ, i64_w, i32_w]
        rfl
      refine last_ (i := 10) (N := some 45) #[true, true, true, true, true, true, true, true, true, true, true, false] rfl rfl (one_of HT_.out (by kernel_rfl)) (by decide) (fun K hK => ?_)
      refine goes_ Try.func22 (by kernel_rfl) rfl #[.pointer (some ⟨p, 0, none⟩), .agg #[.int .i64 0, .string hot, .int .i64 1, .slice none 0 0, .int .i64 t, .int .i64 t, .string ⟨#[]⟩]] (by rfl) rfl rfl (by (try simp only [List.map_toArray, List.map_cons, List.map_nil]); first | done | rfl) ?_
      refine F1.out.mono ?_
      rintro e w' ⟨rfl, S2, hL2, hS2, hK2, hB2⟩
      have HI2 := Lib.hid (show RunI w pN p (.slice (some ad) was.length c3) was (.slice A5 is.length c5) is (esW (was.take (i + 1))) w' from ⟨S2, hL2, fun g hg => ⟨((hS2 g hg).1.elim (fun h => (HS1.out g h).1) (fun h => Nat.le_trans HN1.out h)), (hS2 g hg).2⟩, Kd.R_kept (Kd.R_drew HW1.out) hK2 (fun k hk h => by have := (HS1.out k h).1; omega), Kd.R_kept (Kd.R_drew HV1.out) hK2 (fun k hk h => by have := (HS1.out k h).1; omega), hB2, Nat.le_trans HN1.out hK2.1⟩)
      refine ⟨_, rfl, ?_⟩
      refine hK.out _ _ ?_
      clear hK K
      refine norm_ (a' := ?_) ?_ ?_
      rotate_left
      · show Act.put _ (some 45) _ = _
        simp only [Act.put, List.setIfInBounds_toArray, List.set_cons_zero, List.set_cons_succ, i64_w, i32_w]
        rfl
      refine pure_ (i := 11) (N := some 46) (v := ?_) (a' := ?_) #[true, true, true, true, true, true, true, true, true, true, true, true] rfl rfl (any_of HT_.out (by kernel_rfl)) (fun _ _ _ h => h) (Or.inl ⟨by rfl, ?_⟩) ?_ ?_
      rotate_left
      · intro w'
        go_simp
        with_reducible rfl
      rotate_left
      · simp only [Act.put, List.setIfInBounds_toArray, List.set_cons_zero, List.set_cons_succ, i64_w, i32_w]
        rfl
      refine done_ (done_of HT_.out (by kernel_rfl)) ?_
      clear HT_ HW_
      have HLT2 := Lib.hid hlt
      clear HL1 HS1 HW1 HV1 HB1 HN1 HC1 HTK F1
      go_wp2_with fail
      go_roundw
      case rel => exact ⟨i + 1, by go_num, (by have := HLT2.out; omega), HI2⟩
      case measure => have := HLT2.out; simp [intOf]; omega
    · obtain rfl : i = was.length := by omega
      rw [List.take_length] at HIr
      obtain ⟨S1, hL1, hS1, hW1, hV1, hB1, hN1⟩ := HIr.out
      have HB1 := Lib.hid hB1
      have HN1 := Lib.hid hN1
      have hvals := valsW HWI.out HWM.out
      have hamok := amOKW (sent := n + 50) HIM.out (by omega)
      have AM := Lib.hid (amendB (w0 := w) (w := wr) (b := true) hot 1 none 0 [] A5 c5 is (n + 50) was hL1 hB1 hB1.size (fun W _ => Kd.C_nil k54 W) (Nat.le_refl _) (Kd.C_kept_own hV1 (fun k hk h => by have := (hS1 k h).1; omega)) (Kd.R_reads' hV1).2.1 valid_nil (fun _ => ⟨Nat.zero_le _, fun x hx => by cases hx⟩) (fun _ => hvals) (fun h => by cases h) wf1 (by rw [esW_length]; have h5 := HWL.out; have h6 := HIL.out; omega))
      have HOUT := Lib.hid (fun x hx => mem_amOut (x := x) (b := true) hot_size wf1 text0 hvals hamok hx)
      have HVA := Lib.hid (vals_amEs (b := true) hot_size wf1 text0 hvals hamok)
      rw [compact_self HII.out] at HVA
      have HLE := Lib.hid (show (amEs (esW was) true hot 1 [] (n + 50) is was).length < 100000 ∧ (amOut (esW was) true hot 1 [] (n + 50) is was).length < 100000 from by
        rw [amEs_eq hot_size wf1 text0 hvals hamok, amOut_eq hot_size wf1 text0 hvals hamok, List.length_append, List.length_map, esW_length]
        have h2 : (amF (esW was) hot 1 [] is (amTs was is)).length ≤ (amTs was is).length := List.length_filter_le _ _
        have h3 : (amTs was is).length ≤ (si.sortI (was ++ is)).length := si.compact_length _
        rw [si.sortI_length, List.length_append] at h3
        have h5 := HWL.out; have h6 := HIL.out
        omega)
      generalize amOut (esW was) true hot 1 [] (n + 50) is was = out at AM HOUT HLE
      generalize amEs (esW was) true hot 1 [] (n + 50) is was = es at AM HVA HLE
      have HW1 := Lib.hid hW1
      have HV1 := Lib.hid hV1
      have HS1 := Lib.hid hS1
      clear hL1 hS1 hW1 hV1 hB1 hN1 HIr hvals hamok
      unfold hot at AM
      go_wp2_with fail
      refine AM.out.mono ?_
      rintro e w7 ⟨u7, S7, rfl, hr7, hL7, hS7, hK7, hB7⟩
      obtain ⟨A7, c7, rfl⟩ := Kd.R_slice hr7
      have HO7 := Lib.hid hr7
      have HL7 := Lib.hid hL7
      have HB7 := Lib.hid hB7
      have HW7 := Lib.hid (Kd.R_kept HW1.out hK7 (fun k hk h => by have := (HS1.out k h).1; omega))
      have HV7 := Lib.hid (Kd.R_kept HV1.out hK7 (fun k hk h => by have := (HS1.out k h).1; omega))
      clear hr7 hL7 hS7 hK7 hB7 AM HW1 HV1 HS1 HB1
      go_wp2_with fail
      obtain ⟨wo, rfl⟩ : ∃ wo : World, wo = wr := ⟨_, rfl⟩
      go_loopw [13] (fun v13 wr => ∃ i : Nat, v13 = .int .i64 i ∧ i ≤ out.length ∧ Hid (Below w7.heap.size w7 wr)) (fun v13 _ => out.length - (intOf v13).toNat)
      case atStart => exact ⟨0, rfl, Nat.zero_le _, Lib.hid (Below.refl _ _)⟩
      case round =>
        obtain ⟨j, rfl, hj, HBr⟩ := hrel
        by_cases hlt2 : j < out.length
        · have HCO := Lib.hid (Kd.C_below (Kd.R_reads' HO7.out).2.2 HBr.out)
          obtain ⟨ad, A3x, c3x, rfl, x0, x1, x2, x3, x4, x5, x6, x7, x8⟩ := at_T31 HCO.out (j : Int) (by omega) (by omega)
          rw [Int.toNat_natCast, show rd_T31 out (j : Int) = out.getD j z31 from rfl] at x0 x4
          obtain ⟨t, hx, hxor⟩ := HOUT.out (out.getD j z31) (by rw [List.getD_eq_getElem?_getD, List.getElem?_eq_getElem hlt2]; exact List.getElem_mem hlt2)
          rw [hx] at x0 x4
          have x0' : wr.cell? (ad.add (j * 7)) = some (.int .i64 (if is.contains t then 2 else 1)) := x0
          have x4' : wr.cell? ⟨(ad.add (j * 7)).block, (ad.add (j * 7)).off + 4, none⟩ = some (.int .i64 t) := x4
          clear x0 x1 x2 x3 x4 x5 x6 x7 x8 hx
          have hbb : (was.contains t = true ∧ is.contains t = false) ∨ (was.contains t = false ∧ is.contains t = true) := by
            rcases hxor with ⟨h1, h2⟩ | ⟨h1, h2⟩
            · exact .inl ⟨by simpa using h1, by simpa using h2⟩
            · exact .inr ⟨by simpa using h1, by simpa using h2⟩
          clear hxor
          have HA := Lib.hid (fun W (h : Below w7.heap.size w7 W) => gen.hasC A3 c3 was t W (Kd.C_below (Kd.R_reads' HW7.out).2.2 h) (Kd.R_reads' HW7.out).2.1 (by have := HWL.out; omega))
          have HB := Lib.hid (fun W (h : Below w7.heap.size w7 W) => gen.hasC A5 c5 is t W (Kd.C_below (Kd.R_reads' HV7.out).2.2 h) (Kd.R_reads' HV7.out).2.1 (by have := HIL.out; omega))
          have HLT2 := Lib.hid hlt2
          have hjb : j < 100000 := by have := HLE.out; omega
          rcases hbb with ⟨h1, h2⟩ | ⟨h1, h2⟩
          all_goals
            rw [h1] at HA
            rw [h2] at HB
            rw [h2] at x0'
            simp only [if_true, Bool.false_eq_true, if_false] at x0'
            clear h1 h2
            go_wp2_with fail
            refine (HA.out _ HBr.out).mono ?_
            rintro e w8 ⟨rfl, hb8⟩
            have y0 := pw_cell_below hb8 x0'
            have y4 := pw_cell_below hb8 x4'
            have HB8 := Lib.hid (below_then HBr.out HBr.out.size hb8)
            clear hb8 x0' x4' HA
            go_wp2_with fail
            refine (HB.out _ HB8.out).mono ?_
            rintro e w9 ⟨rfl, hb9⟩
            have z0 := pw_cell_below hb9 y0
            have HB9 := Lib.hid (below_then HB8.out HB8.out.size hb9)
            clear hb9 y0 y4 HB
            go_wp2_with fail
            go_roundw
            case rel => exact ⟨j + 1, by go_num, (by have := HLT2.out; omega), HB9⟩
            case measure => have := HLT2.out; simp [intOf]; omega
        · have HF := Lib.hid (below_then HB7.out HB7.out.size HBr.out)
          have VAL := Lib.hid (valC (w := wr) (b := true) hot 1 none 0 [] is (led_below HL7.out HBr.out) (Kd.C_nil k54 _) (Nat.le_refl _) valid_nil (fun _ => ⟨Nat.zero_le _, fun x hx => by cases hx⟩) (by have := HLE.out; omega) (fun _ => HVA.out) (fun h => by cases h) hot_size wf1)
          unfold hot at VAL
          go_wp2_with fail
          refine VAL.out.mono ?_
          rintro e w8 ⟨u8, rfl, hr8, hb8⟩
          obtain ⟨A8, c8, rfl⟩ := Kd.R_slice hr8
          have HF8 := Lib.hid (below_then HF.out HF.out.size hb8)
          have SI := Lib.hid (gen.sameC A8 c8 is A5 c5 is w8 (Kd.R_reads' hr8).2.2 (Kd.R_reads' hr8).2.1 (Kd.C_below (Kd.R_reads' HV7.out).2.2 (below_then HBr.out HBr.out.size hb8)) (Kd.R_reads' HV7.out).2.1 (by have := HIL.out; omega))
          rw [show (is == is) = true from by simp] at SI
          clear hr8 hb8 VAL
          go_wp2_with fail
          refine SI.out.mono ?_
          rintro e w9 ⟨rfl, hb9⟩
          have HF9 := Lib.hid (below_then HF8.out HF8.out.size hb9)
          have LV := Lib.hid (livesC w9)
          clear hb9 SI
          go_wp2_with fail
          refine LV.out.mono ?_
          rintro e wa ⟨rfl, hba⟩
          have HFa := Lib.hid (below_then HF9.out HF9.out.size hba)
          clear hba LV
          go_wp2_with fail
          go_ret
          exact ⟨rfl, HFa.out⟩
/-- The law. -/
theorem runs_walk (a0 : Option Addr) (len0 cap0 : Nat) (z0 : List Int) (a1 : Option Addr) (len1 cap1 : Nat) (z1 : List Int) (a2 : Int) (w : World) (w0 : (a0 = none ∧ len0 = 0 ∧ cap0 = 0 ∧ z0 = []) ∨ ∃ x, a0 = some x ∧ len0 ≤ cap0 ∧ cap0 ≤ maxLen ∧ z0.length = cap0 ∧ (∀ i, i < z0.length → w.cell? (x.add i) = some (.int .i64 (z0.getD i 0))) ∧ ∀ n ∈ z0, (Lit.int .i64 n).wf = true) (y0 : len0 * 8 ≤ 140737488351232) (w1 : (a1 = none ∧ len1 = 0 ∧ cap1 = 0 ∧ z1 = []) ∨ ∃ x, a1 = some x ∧ len1 ≤ cap1 ∧ cap1 ≤ maxLen ∧ z1.length = cap1 ∧ (∀ i, i < z1.length → w.cell? (x.add i) = some (.int .i64 (z1.getD i 0))) ∧ ∀ n ∈ z1, (Lit.int .i64 n).wf = true) (y1 : len1 * 8 ≤ 140737488351232) (w2 : (Lit.int .i64 a2).wf = true) :
    Calls Try.prog 6 #[.slice a0 len0 cap0, .slice a1 len1 cap1, .int .i64 a2] w fun e w' => e = .returned (.bool true) ∧ Below w.heap.size w w' := by
  obtain ⟨l0, rfl, hr0, hm0, hw0, hc0⟩ := ReadsInt.ofRowC w0
  obtain ⟨l1, rfl, hr1, hm1, hw1, hc1⟩ := ReadsInt.ofRowC w1
  exact runsC _ _ l0 _ _ l1 a2 w (Kd.C_of_reads (d := (0 : Int)) (h1 := fun _ => rfl) hr0) hc0 (Kd.C_of_reads (d := (0 : Int)) (h1 := fun _ => rfl) hr1) hc1 hw0 hw1 w2
end led
end Go.Proofs.Ytgdojonkkfcaeaa.Q
