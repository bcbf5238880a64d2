/- The examples of the section (law 28's lives): they hold. -/
import Derived.Test.YtbbddeilbcpmiaaDoorQ0
import Derived.Test.YtbbddeilbcpmiaaDoorMAlertHyst
import Derived.Test.YtbbddeilbcpmiaaDoorQ17
import Derived.Test.YtbbddeilbcpmiaaDoorQ21
import Derived.Test.YtbbddeilbcpmiaaDoorQ24
import Derived.Outline
namespace Go.Proofs.YtbbddeilbcpmiaaDoor.Q
open Go.RowKit Go.Proofs.YtbbddeilbcpmiaaDoorW.PrintWords Go.Proofs.YtbbddeilbcpmiaaDoorW.PrintLast Go.Proofs.YtbbddeilbcpmiaaDoorW.PrintMore
set_option linter.unusedVariables false
set_option linter.unusedSimpArgs false
def hotS : ByteArray := ⟨#[104, 111, 116]⟩
def intervalmonlaw28_lives.f : Option Bool := some true
theorem live1 : alert_Step.f 9 hotS 1 [] 0 0 0 2 5 = some (hotS, 1, [], 2, 5, 0, true) := by kernel_rfl
theorem live2 : alert_Step.f 9 hotS 1 [] 2 5 0 1 6 = some (hotS, 1, [], 2, 5, 0, false) := by kernel_rfl
theorem live3 : alert_Escalate.f 9 hotS 1 [] 2 5 0 8 3 2 = some (hotS, 1, [], 4, 8, 1, true) := by kernel_rfl
theorem live4 : alert_Hysteresis.f [2, 0, 1] [0, 1, 0] = some [2, 1, 1] := by kernel_rfl
theorem live5 : intervalmonref01_SameInts.f 9 [2, 1, 1] [2, 1, 1] = some true := by kernel_rfl
theorem alloc_sizeV (w : World) (o : Obj) : (w.alloc o).heap.size = w.heap.size + 1 := Array.size_push _
theorem C_lit3 (w : World) (a b c : Int) (g : Nat) (h : w.heap[g]? = some (.cells #[.int .i64 a, .int .i64 b, .int .i64 c] 3 (0, 0))) : Kd.C (Kd.int .i64) w (some ⟨g, 0, none⟩) 3 [a, b, c] := by
  refine ⟨rfl, by decide, fun _ => ⟨_, rfl, fun j p hj => ⟨[.int .i64 p], rfl, rfl, fun i u hu => ?_⟩⟩⟩
  have hi : i = 0 := by
    cases i with
    | zero => rfl
    | succ i => simp at hu
  subst hi
  obtain rfl : Value.int .i64 p = u := by simpa using hu
  show w.cell? ((⟨g, 0, none⟩ : Addr).add (j * 1 + 0)) = _
  rw [add_plain, blk_cell h]
  match j, hj with
  | 0, hj => simp at hj; subst hj; rfl
  | 1, hj => simp at hj; subst hj; rfl
  | 2, hj => simp at hj; subst hj; rfl
  | j + 3, hj => simp at hj
theorem lit_at (w : World) (o p q : Obj) : Aside0 (((((w.alloc o).alloc p).alloc q).heap[w.heap.size + 1]? = some p) ∧ ((((w.alloc o).alloc p).alloc q).heap[w.heap.size + 2]? = some q)) := by
  refine ⟨?_, ?_⟩
  · have h := blk_alloc (blk_new (w.alloc o) p) q
    rw [alloc_sizeV] at h
    exact h
  · have h := blk_new ((w.alloc o).alloc p) q
    rw [alloc_sizeV, alloc_sizeV] at h
    exact h
theorem R_empty {w : World} {base : Nat} {ok : Nat → Prop} {v : Value} (h : Kd.R k35 35 w base ok v []) : ∃ A c, v = .slice A 0 c ∧ Kd.C k35 w A 0 [] := by
  obtain ⟨A, c, e, _, hC⟩ := Kd.R_reads h
  exact ⟨A, c, e, hC⟩
set_option maxHeartbeats 16000000 in
set_option maxRecDepth 100000 in
theorem intervalmonlaw28_lives.calls (r : Bool) (w : World) (hLd : Allowed w) (h : intervalmonlaw28_lives.f = some r) :
    Calls Tryd.prog 17 #[] w fun e w' => e = .returned (.bool r) ∧ Below w.heap.size w w' := by
  obtain rfl : true = r := Option.some.inj h
  clear h
  have hu := Tryd.underlying25
  have HL := Aside0.mk hLd
  clear hLd
  have HB0 := Aside0.mk (below_alloc (Below.refl w.heap.size w) (.cells #[.string hotS, .int .i64 1, .slice none 0 0, .int .i64 0, .int .i64 0, .int .i64 0] 25))
  have S1 := fun W h1 => alert_Step.calls 9 hotS 1 none 0 [] 0 0 0 2 5 _ _ _ _ _ _ _ W h1 (Kd.R_reads' (Kd.R_nil k35 35 W 0 (fun _ => True))).2.2 (Nat.le_refl _) live1
  have S2 := fun A c W h1 h2 => alert_Step.calls 9 hotS 1 A c [] 2 5 0 1 6 _ _ _ _ _ _ _ W h1 h2 (Nat.zero_le _) live2
  have S3 := fun A c W h1 h2 => alert_Escalate.calls 9 hotS 1 A c [] 2 5 0 8 3 2 _ _ _ _ _ _ _ W h1 h2 (Nat.zero_le _) live3
  have S4 := fun A0 A1 W h1 h2 => alert_Hysteresis.calls A0 3 [2, 0, 1] A1 3 [0, 1, 0] _ W h1 (Nat.le_refl _) h2 (Nat.le_refl _) live4
  have S5 := fun A0 c0 A1 W h1 hc h2 => intervalmonref01_SameInts.calls 9 A0 c0 [2, 1, 1] A1 3 [2, 1, 1] true W h1 hc h2 (Nat.le_refl _) live5
  unfold hotS at S1 S2 S3 HB0
  simp only [List.length_nil] at S1 S2 S3
  simp only [List.length_cons, List.length_nil, Nat.zero_add, Nat.reduceAdd] at S4 S5
  go_enter Tryd.func17, Tryd.ntmps17
  go_wp2_with (first | (go_at_call 18; (with_reducible refine (S1 _ ?s1).mono ?_); (case s1 => exact HL.out.below HB0.out); rintro e w1 ⟨v1, rfl, ho, hb⟩; have HB1 := Aside0.mk (below_then HB0.out HB0.out.size hb); obtain ⟨A1, c1, rfl, hC⟩ := R_empty ho; have HC1 := Aside0.mk hC; have HW1 := Aside0.mk (below_alloc HB1.out (.cells #[.string ⟨#[104, 111, 116]⟩, .int .i64 1, .slice A1 0 c1, .int .i64 2, .int .i64 5, .int .i64 0] 25)); clear ho hb hC) | (go_at_call 18; (with_reducible refine (S2 A1 c1 _ ?s1 ?s2).mono ?_); (case s1 => exact HL.out.below HW1.out); (case s2 => exact Kd.C_alloc HC1.out _); rintro e w2 ⟨v2, rfl, ho, hb⟩; have HB2 := Aside0.mk (below_then HW1.out HW1.out.size hb); have K2 := Aside0.mk (blk_below (blk_new w1 (.cells #[.string ⟨#[104, 111, 116]⟩, .int .i64 1, .slice A1 0 c1, .int .i64 2, .int .i64 5, .int .i64 0] 25)) hb); obtain ⟨A2, c2, rfl, hC⟩ := R_empty ho; have HC2 := Aside0.mk hC; have HW2 := Aside0.mk (below_alloc HB2.out (.cells #[.string ⟨#[104, 111, 116]⟩, .int .i64 1, .slice A2 0 c2, .int .i64 2, .int .i64 5, .int .i64 0] 25)); clear ho hb hC) | (go_at_call 21; (with_reducible refine (S3 A2 c2 _ ?s1 ?s2).mono ?_); (case s1 => exact HL.out.below HW2.out); (case s2 => exact Kd.C_alloc HC2.out _); rintro e w3 ⟨v3, rfl, ho, hb⟩; have HB3 := Aside0.mk (below_then HW2.out HW2.out.size hb); have K21 := Aside0.mk (blk_below (blk_alloc K2.out (.cells #[.string ⟨#[104, 111, 116]⟩, .int .i64 1, .slice A2 0 c2, .int .i64 2, .int .i64 5, .int .i64 0] 25)) hb); have K4 := Aside0.mk (blk_below (blk_new w2 (.cells #[.string ⟨#[104, 111, 116]⟩, .int .i64 1, .slice A2 0 c2, .int .i64 2, .int .i64 5, .int .i64 0] 25)) hb); obtain ⟨A3, c3, rfl, hC⟩ := R_empty ho; have HW3 := Aside0.mk (below_alloc (below_alloc (below_alloc HB3.out (.cells #[.string ⟨#[104, 111, 116]⟩, .int .i64 1, .slice A3 0 c3, .int .i64 4, .int .i64 8, .int .i64 1] 25)) (.cells #[.int .i64 2, .int .i64 0, .int .i64 1] 3)) (.cells #[.int .i64 0, .int .i64 1, .int .i64 0] 3)); have LA := lit_at w3 (.cells #[.string ⟨#[104, 111, 116]⟩, .int .i64 1, .slice A3 0 c3, .int .i64 4, .int .i64 8, .int .i64 1] 25) (.cells #[.int .i64 2, .int .i64 0, .int .i64 1] 3) (.cells #[.int .i64 0, .int .i64 1, .int .i64 0] 3); clear ho hb hC) | (go_at_call 25; (with_reducible refine (S4 _ _ _ ?s1 ?s2).mono ?_); (case s1 => exact C_lit3 _ _ _ _ _ LA.out.1); (case s2 => exact C_lit3 _ _ _ _ _ LA.out.2); rintro e w5 ⟨v5, rfl, ho, hb⟩; have HB5 := Aside0.mk (below_then HW3.out HW3.out.size hb); have K22 := Aside0.mk (blk_below (blk_alloc (blk_alloc (blk_alloc K21.out (.cells #[.string ⟨#[104, 111, 116]⟩, .int .i64 1, .slice A3 0 c3, .int .i64 4, .int .i64 8, .int .i64 1] 25)) (.cells #[.int .i64 2, .int .i64 0, .int .i64 1] 3)) (.cells #[.int .i64 0, .int .i64 1, .int .i64 0] 3)) hb); have K41 := Aside0.mk (blk_below (blk_alloc (blk_alloc (blk_alloc K4.out (.cells #[.string ⟨#[104, 111, 116]⟩, .int .i64 1, .slice A3 0 c3, .int .i64 4, .int .i64 8, .int .i64 1] 25)) (.cells #[.int .i64 2, .int .i64 0, .int .i64 1] 3)) (.cells #[.int .i64 0, .int .i64 1, .int .i64 0] 3)) hb); have K6 := Aside0.mk (blk_below (blk_alloc (blk_alloc (blk_new w3 (.cells #[.string ⟨#[104, 111, 116]⟩, .int .i64 1, .slice A3 0 c3, .int .i64 4, .int .i64 8, .int .i64 1] 25)) (.cells #[.int .i64 2, .int .i64 0, .int .i64 1] 3)) (.cells #[.int .i64 0, .int .i64 1, .int .i64 0] 3)) hb); obtain ⟨A5, c5, rfl, hc5, hC5⟩ := Kd.R_reads ho; have H5 := Aside0.mk hC5; have HC5 := Aside0.mk hc5; have z23 := (blk_cell K22.out 3).trans rfl; have z24 := (blk_cell K22.out 4).trans rfl; have z43 := (blk_cell K41.out 3).trans rfl; have z44 := (blk_cell K41.out 4).trans rfl; have z63 := (blk_cell K6.out 3).trans rfl; have z64 := (blk_cell K6.out 4).trans rfl; have z65 := (blk_cell K6.out 5).trans rfl; have HL5 := Aside0.mk (blk_new w5 (.cells #[.int .i64 2, .int .i64 1, .int .i64 1] 3)); clear ho hb hC5 hc5) | (go_at_call 24; (with_reducible refine (S5 A5 c5 _ _ ?s1 ?s2 ?s3).mono ?_); (case s1 => exact Kd.C_alloc H5.out _); (case s2 => exact HC5.out); (case s3 => exact C_lit3 _ _ _ _ _ HL5.out); rintro e w6 ⟨rfl, hd⟩; have HB6 := Aside0.mk (below_then (below_alloc HB5.out _) (below_alloc HB5.out _).size hd.below); clear hd))
  go_ret
  exact ⟨rfl, HB6.out⟩
end Go.Proofs.YtbbddeilbcpmiaaDoor.Q
