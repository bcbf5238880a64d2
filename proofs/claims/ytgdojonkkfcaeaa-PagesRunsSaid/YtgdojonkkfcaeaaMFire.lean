/- pages.Ledger.Fire. -/
import Derived.Test.YtgdojonkkfcaeaaMFireP
namespace Go.Proofs.Ytgdojonkkfcaeaa.Q
open Go.RowKit Go.Maps Go.Proofs.YtgdojonkkfcaeaaW.PrintWords Go.Proofs.YtgdojonkkfcaeaaW.PrintLast Go.Proofs.YtgdojonkkfcaeaaW.PrintMore
set_option linter.unusedVariables false
set_option linter.unusedSimpArgs false
namespace led
/-- What Fire answers. -/
noncomputable def fireE (es : List S31) (ok : Bool) (x : S31) : Int := if x.f0 = 0 ∧ ok = true then (match lastB es (keyP x) with | some true => 10 | some false => 20 | none => 0) else 1
noncomputable def fireL (es : List S31) (ok : Bool) (x : S31) : List S31 := if x.f0 = 0 ∧ ok = true ∧ lastB es (keyP x) = none then es ++ [x] else es
theorem size_text (l : List S54) (h8 : l.length ≤ 8) (hx : ∀ x ∈ l, x.f0.size ≤ 16 ∧ x.f1.size ≤ 16) : (tx.textB l).size ≤ maxLen := by
  have h1 := tx.len_tx l hx l.length (Nat.le_refl _)
  have h2 : (tx.textB l).size = 1 + (tx.txTo l l.length).length + 1 := by
    unfold tx.textB
    simp only [ByteArray.size_append]
    show 1 + (tx.txTo l l.length).toArray.size + 1 = _
    simp
  unfold maxLen
  omega
def F3 : Bool × List (List Nat × List Nat) := (true, [([], []), ([0], [0]), ([1], [1]), ([2], [2]), ([], []), ([4], [4]), ([3, 5], [3, 5]), ([6], [6]), ([7], [7]), ([7], [7]), ([8, 5, 0, 1, 2, 3, 4, 5, 6, 7, 8], [8]), ([9, 10, 0, 1, 2, 3, 4, 5, 6, 7, 8, 9, 10], [9])])
def G3 : List Nat := [0, 1, 3, 7, 0, 16, 63, 127, 255, 255, 511, 2047]
theorem ftab3 : rtab .any (opsOf Try.f22 3) = F3 := by kernel_rfl
theorem fbits3 : waitsOk F3.2 G3 = true := by kernel_rfl
set_option maxHeartbeats 4000000 in
set_option maxRecDepth 100000 in
theorem fireC {w0 w : World} {base p : Nat} {S : Nat → Prop} {es : List S31} {b : Bool} (k0 : Int) (r : ByteArray) (v : Int) (A : Option Addr) (c : Nat) (l : List S54) (s sent : Int) (q : ByteArray) (hL : Led w base p S es) (hB : Below base w0 w) (hbase : base ≤ w.heap.size) (hr : Kd.C k54 w A l.length l) (hc : l.length ≤ c) (hV : ∃ k, labels_Valid.f k l = some b)
    (hb : b = true → l.length ≤ 8 ∧ ∀ x ∈ l, x.f0.size ≤ 16 ∧ x.f1.size ≤ 16) (hv : (Lit.int .i64 v).wf = true) (hs : (Lit.int .i64 s).wf = true) (hn : es.length < 1000000) :
    Calls Try.prog 22 #[.pointer (some ⟨p, 0, none⟩), .agg (pgV k0 r v (.slice A l.length c) s sent q)] w fun e w' => e = .returned (.int .i64 (fireE es (okB b r v s sent q) (⟨k0, r, v, l, s, sent, q⟩ : S31))) ∧ ∃ S', Led w' base p S' (fireL es (okB b r v s sent q) (⟨k0, r, v, l, s, sent, q⟩ : S31)) ∧ (∀ g, S' g → S g ∨ w.heap.size ≤ g) ∧ Kept w w' S ∧ Below base w0 w' := by
  have HL := Lib.hid hL
  have HB := Lib.hid hB
  have HBS := Lib.hid hbase
  have V := Lib.hid (fun W (h : Below w.heap.size w W) => validC k0 r v A c l s sent q W (Kd.C_below hr h) hc hV)
  have BX := Lib.hid (heap_alloc_new w (.cells #[.int .i64 k0, .string r, .int .i64 v, .slice A l.length c, .int .i64 s, .int .i64 sent, .string q] 31))
  have HB0 := Lib.hid (below_alloc (Below.refl w.heap.size w) (.cells #[.int .i64 k0, .string r, .int .i64 v, .slice A l.length c, .int .i64 s, .int .i64 sent, .string q] 31))
  have OUT := Lib.hid (fun (W : World) (h : Below w.heap.size w W) => (⟨S, led_below hL h, fun _ hg => .inl hg, Kept.of_below h S, below_then hB hbase h⟩ : ∃ S', Led W base p S' es ∧ (∀ g, S' g → S g ∨ w.heap.size ≤ g) ∧ Kept w W S ∧ Below base w0 W))
  by_cases hk : k0 = 0
  · subst hk
    cases hok : okB b r v s sent q with
    | false =>
      rw [hok] at V
      unfold pgV at V ⊢
      have e1 : fireE es false (⟨0, r, v, l, s, sent, q⟩ : S31) = 1 := by unfold fireE; rw [if_neg (by simp)]
      have e2 : fireL es false (⟨0, r, v, l, s, sent, q⟩ : S31) = es := by unfold fireL; rw [if_neg (by simp)]
      rw [e1, e2]
      clear hL hB hbase hr hc hV hb e1 e2
      go_enter Try.func22, Try.ntmps22
      obtain ⟨x0, x1, x2, x3, x4, x5, x6⟩ := blk7 BX.out
      go_wp2_with fail
      refine (V.out _ HB0.out).mono ?_
      rintro e w1 ⟨rfl, hb1⟩
      have HB1 := Lib.hid (below_step HB0.out hb1)
      clear hb1 x0 x1 x2 x3 x4 x5 x6
      go_wp2_with fail
      go_ret
      exact ⟨rfl, OUT.out _ HB1.out⟩
    | true =>
      have hok2 := hok
      unfold okB at hok2
      simp only [Bool.and_eq_true, decide_eq_true_eq] at hok2
      obtain ⟨⟨⟨⟨⟨hnm, _⟩, hbt⟩, _⟩, _⟩, _⟩ := hok2
      have hrs : r.size ≤ maxLen := by
        unfold nameB at hnm
        simp only [Bool.and_eq_true, decide_eq_true_eq] at hnm
        unfold maxLen
        omega
      obtain ⟨h8, hx⟩ := hb hbt
      rw [hok] at V
      have HTS := Lib.hid (size_text l h8 hx)
      have OF := Lib.hid (fun W (h : Below w.heap.size w W) => ofC 0 r v A c l s sent q W (Kd.C_below hr h) hc h8 hx)
      have ADD := Lib.hid (fun W (h : Below w.heap.size w W) => addC (w0 := w0) (w := W) 0 r v A c l s sent q (led_below hL h) (below_then hB hbase h) (Nat.le_trans hbase h.size) (Kd.C_below hr h) hc h8 hx hrs hv hs hn)
      obtain ⟨bm, hp, hbp, hSp, hbb, hSb, hR, hM⟩ := hL
      have HP := Lib.hid hp
      have HM := Lib.hid hM
      have HK := Lib.hid (keyOf_mk hrs hv HTS.out hs)
      unfold pgV at V OF ADD ⊢
      clear hB hbase hr hc hV hb hp hbp hSp hbb hSb hR hM hnm hbt hrs h8 hx HL
      go_enter Try.func22, Try.ntmps22
      obtain ⟨x0, x1, x2, x3, x4, x5, x6⟩ := blk7 BX.out
      go_wp2_with fail
      refine (V.out _ HB0.out).mono ?_
      rintro e w2 ⟨rfl, hb1⟩
      have HB2 := Lib.hid (below_step HB0.out hb1)
      have BX2 := Lib.hid (blk_below BX.out hb1)
      have HP2 := Lib.hid (blk_below HP.out HB2.out)
      have HM2 := Lib.hid (HM.out.kept (grown_of HB2.out) (by simp))
      clear hb1 x0 x1 x2 x3 x4 x5 x6 BX V HP HM
      obtain ⟨x0, x1, x2, x3, x4, x5, x6⟩ := blk7 BX2.out
      have xp : w2.cell? ⟨p, 1, none⟩ = some (.map (some bm)) := (blk_cell HP2.out 1).trans rfl
      go_wp2_with fail
      refine start_ (n := 12) (S := (fun w' => w'.cell? ⟨w.heap.size, 0, none⟩ = some (.int .i64 0) ∧ w'.cell? ⟨w.heap.size, 1, none⟩ = some (.string r) ∧ w'.cell? ⟨w.heap.size, 2, none⟩ = some (.int .i64 v) ∧ w'.cell? ⟨w.heap.size, 3, none⟩ = some (.slice A l.length c) ∧ w'.cell? ⟨w.heap.size, 4, none⟩ = some (.int .i64 s) ∧ w'.cell? ⟨w.heap.size, 5, none⟩ = some (.int .i64 sent) ∧ w'.cell? ⟨w.heap.size, 6, none⟩ = some (.string q) ∧ w'.cell? ⟨p, 1, none⟩ = some (.map (some bm)))) (ds := []) #[false, false, false, false, false, false, false, false, false, false, false, false] (by kernel_rfl) rfl rfl ⟨x0, x1, x2, x3, x4, x5, x6, xp⟩ (fun hHeld => ?_)
      refine with_tabW ftab3 fbits3 (fun HT_ HW_ => ?_)
      clear x0 x1 x2 x3 x4 x5 x6 xp
      refine pure_ (i := 0) (N := some 16) (v := ?_) (a' := ?_) #[true, false, false, false, false, false, false, false, false, false, false, false] rfl rfl (any_of HT_.out (by kernel_rfl)) (fun _ _ _ h => h) (Or.inl ⟨by rfl, ?_⟩) ?_ ?_
      rotate_left
      · intro w'
        go_simp
        with_reducible rfl
      rotate_left
      · simp only [Act.put, List.setIfInBounds_toArray, List.set_cons_zero, List.set_cons_succ, i64_w, i32_w]
        rfl
      refine pure_ (i := 1) (N := some 17) (v := ?_) (a' := ?_) #[true, true, false, false, false, false, false, false, false, false, false, false] rfl rfl (any_of HT_.out (by kernel_rfl)) (fun _ _ _ h => h) (Or.inl ⟨by rfl, ?_⟩) ?_ ?_
      rotate_left
      · intro w'
        go_simp
        with_reducible rfl
      rotate_left
      · simp only [Act.put, List.setIfInBounds_toArray, List.set_cons_zero, List.set_cons_succ, i64_w, i32_w]
        rfl
      refine pure_ (i := 2) (N := some 18) (v := ?_) (a' := ?_) #[true, true, true, false, false, false, false, false, false, false, false, false] rfl rfl (any_of HT_.out (by kernel_rfl)) (fun _ _ _ h => h) (Or.inl ⟨by rfl, ?_⟩) ?_ ?_
      rotate_left
      · intro w'
        go_simp
        with_reducible rfl
      rotate_left
      · simp only [Act.put, List.setIfInBounds_toArray, List.set_cons_zero, List.set_cons_succ, i64_w, i32_w]
        rfl
      refine take_ (i := 3) (N := some 19) (v := ?_) (a' := ?_) #[true, true, true, true, false, false, false, false, false, false, false, false] rfl rfl (take_ofW HT_.out HW_.out (by kernel_rfl)) (fun _ _ _ h => h) (Or.inl ⟨by rfl, ?_⟩) hHeld ?_ ?_
      rotate_left
      · rintro w' ⟨s0, s1, s2, s3, s4, s5, s6, s7⟩
        go_simp
        with_reducible rfl
      rotate_left
      · simp only [Act.put, List.setIfInBounds_toArray, List.set_cons_zero, List.set_cons_succ, i64_w, i32_w]
        rfl
      refine take_ (i := 4) (N := some 20) (v := ?_) (a' := ?_) #[true, true, true, true, true, false, false, false, false, false, false, false] rfl rfl (take_ofW HT_.out HW_.out (by kernel_rfl)) (fun _ _ _ h => h) (Or.inl ⟨by rfl, ?_⟩) hHeld ?_ ?_
      rotate_left
      · rintro w' ⟨s0, s1, s2, s3, s4, s5, s6, s7⟩
        go_simp
        with_reducible rfl
      rotate_left
      · simp only [Act.put, List.setIfInBounds_toArray, List.set_cons_zero, List.set_cons_succ, i64_w, i32_w]
        rfl
      refine one_ (i := 5) (N := some 21) #[true, true, true, true, true, true, false, false, false, false, false, false] rfl rfl (one_of HT_.out (by kernel_rfl)) (by decide) (fun K hK => ?_)
      refine goes_ Try.func38 (by kernel_rfl) rfl #[.agg (pgV 0 r v (.slice A l.length c) s sent q)] (by rfl) rfl rfl (by (try simp only [List.map_toArray, List.map_cons, List.map_nil]); first | done | rfl) ?_
      refine (OF.out _ (below_drew1 HB2.out)).mono ?_
      rintro e w' ⟨rfl, hb3⟩
      have HP3 := Lib.hid (blk_below (blk_drew HP2.out) hb3)
      have HM3 := Lib.hid ((HM2.out.drew).kept (grown_of hb3) (by simp))
      have HB3 := Lib.hid (below_step (below_drew1 HB2.out) hb3)
      have BX3 := Lib.hid (blk_below (blk_drew BX2.out) hb3)
      clear HP2 HM2 BX2
      refine ⟨_, rfl, ?_⟩
      refine hK.out _ _ (keep7 (by decide) hHeld hb3) (fun hHeld => ?_)
      clear hK K
      refine norm_ (a' := ?_) ?_ ?_
      rotate_left
      · show Act.put _ (some 21) _ = _
        simp only [Act.put, List.setIfInBounds_toArray, List.set_cons_zero, List.set_cons_succ, i64_w, i32_w]
        rfl
      refine one_ (i := 6) (N := some 22) #[true, true, true, true, true, true, true, false, false, false, false, false] rfl rfl (one_of HT_.out (by kernel_rfl)) (by decide) (fun K hK => ?_)
      refine value_ (w1 := w') (v := .tuple #[.bool ((lastB es (keyP (⟨0, r, v, l, s, sent, q⟩ : S31))).getD false), .bool (lastB es (keyP (⟨0, r, v, l, s, sent, q⟩ : S31))).isSome]) (by rfl) rfl ?_ ?_
      · have hlk := look (b := true) HM3.out HK.out
        go_simp
        exact ⟨rfl, rfl⟩
      refine hK.out _ _ hHeld (fun hHeld => ?_)
      clear hK K
      refine norm_ (a' := ?_) ?_ ?_
      rotate_left
      · show Act.put _ (some 22) _ = _
        simp only [Act.put, List.setIfInBounds_toArray, List.set_cons_zero, List.set_cons_succ, i64_w, i32_w]
        rfl
      refine pure_ (i := 7) (N := some 15) (v := ?_) (a' := ?_) #[true, true, true, true, true, true, true, true, false, false, false, false] rfl rfl (any_of HT_.out (by kernel_rfl)) (fun _ _ _ h => h) (Or.inl ⟨by rfl, ?_⟩) ?_ ?_
      rotate_left
      · intro w'
        go_simp
        with_reducible rfl
      rotate_left
      · simp only [Act.put, List.setIfInBounds_toArray, List.set_cons_zero, List.set_cons_succ, i64_w, i32_w]
        rfl
      refine pure_ (i := 8) (N := some 23) (v := ?_) (a' := ?_) #[true, true, true, true, true, true, true, true, true, false, false, false] rfl rfl (any_of HT_.out (by kernel_rfl)) (fun _ _ _ h => h) (Or.inl ⟨by rfl, ?_⟩) ?_ ?_
      rotate_left
      · intro w'
        go_simp
        with_reducible rfl
      rotate_left
      · simp only [Act.put, List.setIfInBounds_toArray, List.set_cons_zero, List.set_cons_succ, i64_w, i32_w]
        rfl
      refine pure_ (i := 9) (N := some 24) (v := ?_) (a' := ?_) #[true, true, true, true, true, true, true, true, true, true, false, false] rfl rfl (any_of HT_.out (by kernel_rfl)) (fun _ _ _ h => h) (Or.inl ⟨by rfl, ?_⟩) ?_ ?_
      rotate_left
      · intro w'
        go_simp
        with_reducible rfl
      rotate_left
      · simp only [Act.put, List.setIfInBounds_toArray, List.set_cons_zero, List.set_cons_succ, i64_w, i32_w]
        rfl
      refine pure_ (i := 10) (N := some 5) (v := ?_) (a' := ?_) #[true, true, true, true, true, true, true, true, true, true, true, false] rfl rfl (any_of HT_.out (by kernel_rfl)) (fun _ _ _ h => h) (Or.inl ⟨by rfl, ?_⟩) ?_ ?_
      rotate_left
      · intro w'
        go_simp
        with_reducible rfl
      rotate_left
      · simp only [Act.put, List.setIfInBounds_toArray, List.set_cons_zero, List.set_cons_succ, i64_w, i32_w]
        rfl
      refine pure_ (i := 11) (N := some 6) (v := ?_) (a' := ?_) #[true, true, true, true, true, true, true, true, true, true, true, true] rfl rfl (any_of HT_.out (by kernel_rfl)) (fun _ _ _ h => h) (Or.inl ⟨by rfl, ?_⟩) ?_ ?_
      rotate_left
      · intro w'
        go_simp
        with_reducible rfl
      rotate_left
      · simp only [Act.put, List.setIfInBounds_toArray, List.set_cons_zero, List.set_cons_succ, i64_w, i32_w]
        rfl
      refine done_ (done_of HT_.out (by kernel_rfl)) ?_
      clear HT_ HW_
      clear hHeld
      obtain ⟨x0, x1, x2, x3, x4, x5, x6⟩ := blk7 BX3.out
      cases hl : lastB es (keyP (⟨0, r, v, l, s, sent, q⟩ : S31)) with
      | some bb =>
        cases bb with
        | true =>
          have e1 : fireE es true (⟨0, r, v, l, s, sent, q⟩ : S31) = 10 := by unfold fireE; rw [if_pos ⟨rfl, rfl⟩, hl]
          have e2 : fireL es true (⟨0, r, v, l, s, sent, q⟩ : S31) = es := by unfold fireL; rw [if_neg (by rw [hl]; simp)]
          go_wp2_with fail
          go_ret
          rw [e1, e2]
          exact ⟨rfl, OUT.out _ HB3.out⟩
        | false =>
          have e1 : fireE es true (⟨0, r, v, l, s, sent, q⟩ : S31) = 20 := by unfold fireE; rw [if_pos ⟨rfl, rfl⟩, hl]
          have e2 : fireL es true (⟨0, r, v, l, s, sent, q⟩ : S31) = es := by unfold fireL; rw [if_neg (by rw [hl]; simp)]
          go_wp2_with fail
          go_ret
          rw [e1, e2]
          exact ⟨rfl, OUT.out _ HB3.out⟩
      | none =>
        have e1 : fireE es true (⟨0, r, v, l, s, sent, q⟩ : S31) = 0 := by unfold fireE; rw [if_pos ⟨rfl, rfl⟩, hl]
        have e2 : fireL es true (⟨0, r, v, l, s, sent, q⟩ : S31) = es ++ [(⟨0, r, v, l, s, sent, q⟩ : S31)] := by unfold fireL; rw [if_pos ⟨rfl, rfl, hl⟩]
        go_wp2_with fail
        refine (ADD.out _ HB3.out).mono ?_
        rintro e w9 ⟨rfl, S9, hL9, hS9, hK9, hB9⟩
        have H9 := Lib.hid (⟨S9, hL9, fun g hg => (hS9 g hg).imp id (fun h => Nat.le_trans HB3.out.size h), (Kept.of_below HB3.out S).then_ hK9 (fun k hk => .inl hk), hB9⟩ : ∃ S', Led w9 base p S' (es ++ [(⟨0, r, v, l, s, sent, q⟩ : S31)]) ∧ (∀ g, S' g → S g ∨ w.heap.size ≤ g) ∧ Kept w w9 S ∧ Below base w0 w9)
        clear hL9 hS9 hK9 hB9
        go_wp2_with fail
        go_ret
        rw [e1, e2]
        exact ⟨rfl, H9.out⟩
  · have hkb : (k0 != 0) = true := by simpa using hk
    have e1 : ∀ ok, fireE es ok (⟨k0, r, v, l, s, sent, q⟩ : S31) = 1 := fun ok => by unfold fireE; rw [if_neg (by simp [hk])]
    have e2 : ∀ ok, fireL es ok (⟨k0, r, v, l, s, sent, q⟩ : S31) = es := fun ok => by unfold fireL; rw [if_neg (by simp [hk])]
    rw [e1, e2]
    unfold pgV at V ⊢
    clear hL hB hbase hr hc hV hb e1 e2
    go_enter Try.func22, Try.ntmps22
    obtain ⟨x0, x1, x2, x3, x4, x5, x6⟩ := blk7 BX.out
    go_wp2_with fail
    go_ret
    exact ⟨rfl, OUT.out _ HB0.out⟩
end led
end Go.Proofs.Ytgdojonkkfcaeaa.Q
