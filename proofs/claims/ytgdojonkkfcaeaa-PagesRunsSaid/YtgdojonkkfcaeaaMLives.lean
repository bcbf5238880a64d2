/- intervalmonlaw31.lives: the examples hold. -/
import Derived.Test.YtgdojonkkfcaeaaMLivP
namespace Go.Proofs.Ytgdojonkkfcaeaa.Q
open Go.RowKit Go.Maps Go.Proofs.YtgdojonkkfcaeaaW.PrintWords Go.Proofs.YtgdojonkkfcaeaaW.PrintLast Go.Proofs.YtgdojonkkfcaeaaW.PrintMore
set_option linter.unusedVariables false
set_option linter.unusedSimpArgs false
namespace led
theorem fireB {w0 w : World} {base p : Nat} {S : Nat → Prop} {es : List S31} {b : Bool} (k0 : Int) (r : ByteArray) (v : Int) (A : Option Addr) (c : Nat) (l : List S54) (s sent : Int) (q : ByteArray) (hL : Led w base p S es) (hB : Below base w0 w) (hbase : base ≤ w.heap.size) (hr : Kd.C k54 w A l.length l) (hc : l.length ≤ c) (hV : ∃ k, labels_Valid.f k l = some b)
    (hb : b = true → l.length ≤ 8 ∧ ∀ x ∈ l, x.f0.size ≤ 16 ∧ x.f1.size ≤ 16) (hv : (Lit.int .i64 v).wf = true) (hs : (Lit.int .i64 s).wf = true) (hn : es.length < 1000000) :
    Calls Try.prog 22 #[.pointer (some ⟨p, 0, none⟩), .agg #[.int .i64 k0, .string r, .int .i64 v, .slice A l.length c, .int .i64 s, .int .i64 sent, .string q]] w fun e w' => e = .returned (.int .i64 (fireE es (okB b r v s sent q) (⟨k0, r, v, l, s, sent, q⟩ : S31))) ∧ ∃ S', Led w' base p S' (fireL es (okB b r v s sent q) (⟨k0, r, v, l, s, sent, q⟩ : S31)) ∧ (∀ g, S' g → (S g ∨ w.heap.size ≤ g) ∧ g < w'.heap.size) ∧ Kept w w' S ∧ Below base w0 w' := by
  refine (fireC k0 r v A c l s sent q hL hB hbase hr hc hV hb hv hs hn).mono ?_
  rintro e w' ⟨rfl, S', h1, h2, h3, h4⟩
  exact ⟨rfl, _, led_bound h1, fun g hg => ⟨h2 g hg.1, hg.2⟩, h3, h4⟩
theorem amendB {w0 w : World} {base p : Nat} {S : Nat → Prop} {es : List S31} {b : Bool} (r : ByteArray) (v : Int) (A : Option Addr) (c : Nat) (l : List S54) (As : Option Addr) (cs : Nat) (ss : List Int) (sent : Int) (zs : List Int)
    (hL : Led w base p S es) (hB : Below base w0 w) (hbase : base ≤ w.heap.size) (hrK : ∀ W, Kept w W S → Kd.C k54 W A l.length l) (hc : l.length ≤ c) (hsK : ∀ W, Kept w W S → Kd.C (Kd.int .i64) W As ss.length ss) (hcs : ss.length ≤ cs) (hV : ∃ k, labels_Valid.f k l = some b)
    (hb : b = true → l.length ≤ 8 ∧ ∀ x ∈ l, x.f0.size ≤ 16 ∧ x.f1.size ≤ 16) (h1 : b = true → Vals es r v (tx.textB l) zs) (h0 : b = false → zs = []) (hv : (Lit.int .i64 v).wf = true) (hn : es.length + ss.length < 100000) :
    Calls Try.prog 14 #[.pointer (some ⟨p, 0, none⟩), .string r, .int .i64 v, .slice A l.length c, .slice As ss.length cs, .int .i64 sent] w fun e w' => ∃ u S', e = .returned u ∧ Kd.R k31 31 w' w.heap.size (fun k => ¬ S' k ∧ k < w'.heap.size) u (amOut es b r v l sent ss zs) ∧ Led w' base p S' (amEs es b r v l sent ss zs) ∧ (∀ g, S' g → (S g ∨ w.heap.size ≤ g) ∧ g < w'.heap.size) ∧ Kept w w' S ∧ Below base w0 w' := by
  refine (amendC r v A c l As cs ss sent zs hL hB hbase hrK hc hsK hcs hV hb h1 h0 hv hn).mono ?_
  rintro e w' ⟨u, S', rfl, h1, h2, h3, h4, h5⟩
  exact ⟨u, _, rfl, Kd.R_mono (Kd.R_bound h1) (fun k hk => ⟨fun h => hk.1 h.1, hk.2.2.1⟩), led_bound h2, fun g hg => ⟨h3 g hg.1, hg.2⟩, h4, h5⟩
theorem C_ints {W : World} {g : Nat} {xs : List Int} (h : W.heap[g]? = some (.cells (nums .i64 xs).toArray 3 (0, 0))) (hl : xs.length ≤ 9223372036854775807) : Kd.C (Kd.int .i64) W (some ⟨g, 0, none⟩) xs.length xs := by
  refine ⟨rfl, hl, fun _ => ⟨_, rfl, fun j p hj => ⟨[.int .i64 p], rfl, rfl, fun i u hu => ?_⟩⟩⟩
  have hi : i = 0 := by
    have := (List.getElem?_eq_some_iff.1 hu).1
    simp at this
    exact this
  subst hi
  simp at hu
  subst hu
  rw [add_plain, blk_cell h]
  show (nums .i64 xs).toArray[j * 1 + 0]? = _
  rw [Nat.mul_one, Nat.add_zero, List.getElem?_toArray]
  unfold nums
  rw [List.getElem?_map, hj]
  rfl
/-- Kind and start of an element of a row of pages. -/
theorem page_cells {W : World} {base g c : Nat} {ok : Nat → Prop} {xs : List S31} (h : Kd.R k31 31 W base ok (.slice (some ⟨g, 0, none⟩) xs.length c) xs) (i : Nat) (hi : i < xs.length) : W.cell? ⟨g, i * 7, none⟩ = some (.int .i64 (xs.getD i z31).f0) ∧ W.cell? ⟨g, i * 7 + 4, none⟩ = some (.int .i64 (xs.getD i z31).f4) := by
  obtain ⟨ad, cs, e, _, hK, hc⟩ := Kd.C_get (Kd.R_reads' h).2.2 z31 (i : Int) (by omega) (by omega)
  obtain ⟨A3, c3, rfl, _, _⟩ := k31_open hK
  obtain rfl : ad = ⟨g, 0, none⟩ := (Option.some.inj e).symm
  rw [Int.toNat_natCast] at hc
  have h0 := hc 0 _ rfl
  have h4 := hc 4 _ rfl
  rw [add_plain] at h0 h4
  exact ⟨h0, h4⟩
set_option maxHeartbeats 4000000 in
set_option maxRecDepth 100000 in
theorem livesC (w : World) : Calls Try.prog 16 #[] w fun e w' => e = .returned (.bool true) ∧ Below w.heap.size w w' := by
  have NEW := Lib.hid (newC (Below.refl w.heap.size w) (Nat.le_refl _))
  go_enter Try.func16, Try.ntmps16
  go_wp2_with fail
  refine NEW.out.mono ?_
  rintro e w1 ⟨rfl, hL1, hB1, _⟩
  have HB1 := Lib.hid hB1
  have HL1 := Lib.hid (led_bound hL1)
  have HZ1 := Lib.hid hB1.size
  clear hL1 hB1 NEW
  have BX := Lib.hid (heap_alloc_new w1 (.cells #[.int .i64 0, .string hot, .int .i64 1, .slice none 0 0, .int .i64 5, .int .i64 6, .string ⟨#[]⟩] 31))
  have HB2 := Lib.hid (below_alloc (Below.refl w1.heap.size w1) (.cells #[.int .i64 0, .string hot, .int .i64 1, .slice none 0 0, .int .i64 5, .int .i64 6, .string ⟨#[]⟩] 31))
  have FI := Lib.hid (fun (W : World) (S : Nat → Prop) (es : List S31) (hL : Led W w.heap.size (w.heap.size + 1) S es) (hB : Below w.heap.size w W) (hn : es.length < 1000000) => fireB (w0 := w) (w := W) (b := true) 0 hot 1 none 0 [] 5 6 ⟨#[]⟩ hL hB hB.size (Kd.C_nil k54 W) (Nat.le_refl _) valid_nil (fun _ => ⟨Nat.zero_le _, fun x hx => by cases hx⟩) wf1 wf5 hn)
  rw [show okB true hot 1 5 6 ⟨#[]⟩ = true from by decide] at FI
  have F1 := Lib.hid (FI.out _ _ _ (led_below HL1.out HB2.out) (below_then HB1.out HZ1.out HB2.out) (by decide))
  rw [show fireE [] true (⟨0, hot, 1, [], 5, 6, ⟨#[]⟩⟩ : S31) = 0 from fire1.1, show fireL [] true (⟨0, hot, 1, [], 5, 6, ⟨#[]⟩⟩ : S31) = L1 from fire1.2] at F1
  obtain ⟨x0, x1, x2, x3, x4, x5, x6⟩ := blk7 BX.out
  unfold hot at x1 F1
  go_wp2_with fail
  refine F1.out.mono ?_
  rintro e w2 ⟨rfl, S2, hL2, hS2, hK2, hB2⟩
  have BX2 := Lib.hid (blk_kept BX.out hK2 (fun h => by omega))
  have HS2 := Lib.hid (show ¬ S2 w1.heap.size from fun h => by have h2 := (hS2 _ h).1; simp at h2; omega)
  have F2 := Lib.hid (FI.out _ _ _ hL2 hB2 (by decide))
  rw [show fireE L1 true (⟨0, hot, 1, [], 5, 6, ⟨#[]⟩⟩ : S31) = 10 from fire2.1, show fireL L1 true (⟨0, hot, 1, [], 5, 6, ⟨#[]⟩⟩ : S31) = L1 from fire2.2] at F2
  clear hL2 hS2 hK2 hB2 x0 x1 x2 x3 x4 x5 x6 F1 BX HB2
  obtain ⟨x0, x1, x2, x3, x4, x5, x6⟩ := blk7 BX2.out
  unfold hot at x1 F2
  go_wp2_with fail
  refine F2.out.mono ?_
  rintro e w3 ⟨rfl, S3, hL3, hS3, hK3, hB3⟩
  have BX3 := Lib.hid (blk_kept BX2.out hK3 HS2.out)
  have HS3 := Lib.hid (show ¬ S3 w1.heap.size from fun h => by
    rcases (hS3 _ h).1 with h2 | h2
    · exact HS2.out h2
    · have := blk_lt BX2.out; omega)
  have BL := Lib.hid (heap_alloc_new w3 (.cells #[.int .i64 8, .int .i64 8, .int .i64 3] 3))
  have HBL := Lib.hid (below_alloc (Below.refl w3.heap.size w3) (.cells #[.int .i64 8, .int .i64 8, .int .i64 3] 3))
  have AM := Lib.hid (amendB (w0 := w) (b := true) hot 1 none 0 [] (some ⟨w3.heap.size, 0, none⟩) 3 [8, 8, 3] 9 [5] (led_below hL3 HBL.out) (below_then hB3 hB3.size HBL.out) (Nat.le_trans hB3.size HBL.out.size) (fun W _ => Kd.C_nil k54 W) (Nat.le_refl _) (fun W h => C_ints (xs := [8, 8, 3]) (blk_kept BL.out h (fun h => by have := (hS3 _ h).2; omega)) (by decide)) (by decide) valid_nil (fun _ => ⟨Nat.zero_le _, fun x hx => by cases hx⟩) (fun _ => vals1) (fun h => by cases h) wf1 (by decide))
  rw [out1.1, out1.2] at AM
  have BX4 := Lib.hid (blk_below BX3.out HBL.out)
  have HS4 := Lib.hid (show ∀ g, S3 g → g < w3.heap.size from fun g h => (hS3 g h).2)
  clear hL3 hS3 hK3 hB3 x0 x1 x2 x3 x4 x5 x6 F2 BX2 HS2 BX3 HBL BL
  unfold hot at AM
  go_wp2_with fail
  refine AM.out.mono ?_
  rintro e w4 ⟨u, S4, rfl, hr4, hL4, hS4, hK4, hB4⟩
  have BX5 := Lib.hid (blk_kept BX4.out hK4 HS3.out)
  have HS5 := Lib.hid (show ¬ S4 w1.heap.size from fun h => by
    rcases (hS4 _ h).1 with h2 | h2
    · exact HS3.out h2
    · have := blk_lt BX4.out; omega)
  have F4 := Lib.hid (FI.out _ _ _ hL4 hB4 (by decide))
  rw [show fireE L4 true (⟨0, hot, 1, [], 5, 6, ⟨#[]⟩⟩ : S31) = 20 from fire4.1, show fireL L4 true (⟨0, hot, 1, [], 5, 6, ⟨#[]⟩⟩ : S31) = L4 from fire4.2] at F4
  have HO4 := Lib.hid hr4
  clear hr4 hL4 hS4 hK4 hB4 AM BX4 HS3 HS4
  obtain ⟨x0, x1, x2, x3, x4, x5, x6⟩ := blk7 BX5.out
  unfold hot at x1 F4
  go_wp2_with fail
  refine F4.out.mono ?_
  rintro e w5 ⟨rfl, S5, hL5, hS5, hK5, hB5⟩
  have HO5 := Lib.hid (Kd.R_kept HO4.out hK5 (fun k hk => hk.1))
  have HL5 := Lib.hid hL5
  have HB5 := Lib.hid hB5
  clear hL5 hS5 hK5 hB5 x0 x1 x2 x3 x4 x5 x6 BX5 HS5 F4 HO4 FI
  obtain ⟨g, co, rfl, _, _, _⟩ := Kd.R_form HO5.out (by decide)
  obtain ⟨a0, a4⟩ := page_cells HO5.out 0 (by decide)
  obtain ⟨b0, b4⟩ := page_cells HO5.out 1 (by decide)
  obtain ⟨c0, c4⟩ := page_cells HO5.out 2 (by decide)
  simp only [LO, one, List.getD_cons_zero, List.getD_cons_succ, Nat.zero_mul, Nat.zero_add, Nat.one_mul, Nat.reduceMul, Nat.reduceAdd] at a0 a4 b0 b4 c0 c4
  have VA := Lib.hid (valC (b := true) hot 1 none 0 [] [3, 8] HL5.out (Kd.C_nil k54 w5) (Nat.le_refl _) valid_nil (fun _ => ⟨Nat.zero_le _, fun x hx => by cases hx⟩) (by decide) (fun _ => vals4) (fun h => by cases h) hot_size wf1)
  unfold hot at VA
  rw [show LO.length = 3 from rfl]
  go_wp2_with fail
  refine VA.out.mono ?_
  rintro e w6 ⟨u6, rfl, hr6, hb6⟩
  obtain ⟨A6, c6, rfl⟩ := Kd.R_slice hr6
  have HR6 := Lib.hid hr6
  have HB6 := Lib.hid (below_then HB5.out HB5.out.size hb6)
  have HBL := Lib.hid (below_alloc (Below.refl w6.heap.size w6) (.cells #[.int .i64 3, .int .i64 8] 3))
  have BL := Lib.hid (heap_alloc_new w6 (.cells #[.int .i64 3, .int .i64 8] 3))
  have SI := Lib.hid (intervalmonref01_SameInts.calls _ A6 c6 [3, 8] (some ⟨w6.heap.size, 0, none⟩) 2 [3, 8] _ (w6.alloc (.cells #[.int .i64 3, .int .i64 8] 3)) (Kd.C_below (Kd.R_reads' HR6.out).2.2 HBL.out) (Kd.R_reads' HR6.out).2.1 (C_ints (xs := [3, 8]) BL.out (by decide)) (Nat.le_refl _) (same_f [3, 8] [3, 8] (by decide)))
  rw [show (([3, 8] : List Int) == [3, 8]) = true from by decide] at SI
  clear hr6 hb6 VA
  go_wp2_with fail
  refine SI.out.mono ?_
  rintro e w7 ⟨rfl, hd7⟩
  have HB7 := Lib.hid (below_then HB6.out HB6.out.size (below_step HBL.out hd7.below))
  clear hd7
  go_wp2_with fail
  go_ret
  exact ⟨rfl, HB7.out⟩
end led
end Go.Proofs.Ytgdojonkkfcaeaa.Q
