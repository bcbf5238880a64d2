/- pages.Ledger.Valid. -/
import Derived.Test.YtgdojonkkfcaeaaMKeyInv
import Derived.Test.YtgdojonkkfcaeaaMFire
import Derived.Test.YtgdojonkkfcaeaaMSortI
namespace Go.Proofs.Ytgdojonkkfcaeaa.Q
open Go.RowKit Go.Maps Go.Proofs.YtgdojonkkfcaeaaW.PrintWords Go.Proofs.YtgdojonkkfcaeaaW.PrintLast Go.Proofs.YtgdojonkkfcaeaaW.PrintMore
set_option linter.unusedVariables false
set_option linter.unusedSimpArgs false
namespace led
/-- Is the start s paged for this rule, version and text? -/
def Pg (es : List S31) (r : ByteArray) (v : Int) (t : ByteArray) (s : Int) : Prop := (Lit.int .i64 s).wf = true ∧ lastB es (keyL r v t s) = some true
/-- The starts that are paged, in order. -/
def Vals (es : List S31) (r : ByteArray) (v : Int) (t : ByteArray) (zs : List Int) : Prop := zs.Pairwise (· < ·) ∧ ∀ s, s ∈ zs ↔ Pg es r v t s
theorem inc_unique : ∀ {a b : List Int}, a.Pairwise (· < ·) → b.Pairwise (· < ·) → (∀ s, s ∈ a ↔ s ∈ b) → a = b
  | [], [], _, _, _ => rfl
  | [], y :: b, _, _, h => by have := (h y).2 (by simp); simp at this
  | x :: a, [], _, _, h => by have := (h x).1 (by simp); simp at this
  | x :: a, y :: b, ha, hb, h => by
    rw [List.pairwise_cons] at ha hb
    have hxy : x = y := by
      rcases List.mem_cons.1 ((h x).1 (by simp)) with e | e
      · exact e
      · rcases List.mem_cons.1 ((h y).2 (by simp)) with e2 | e2
        · exact e2.symm
        · have h1 := ha.1 y e2
          have h2 := hb.1 x e
          omega
    subst hxy
    have ht : ∀ s, s ∈ a ↔ s ∈ b := fun s => by
      constructor
      · intro hs
        have h1 := ha.1 s hs
        rcases List.mem_cons.1 ((h s).1 (List.mem_cons_of_mem _ hs)) with e | e
        · omega
        · exact e
      · intro hs
        have h1 := hb.1 s hs
        rcases List.mem_cons.1 ((h s).2 (List.mem_cons_of_mem _ hs)) with e | e
        · omega
        · exact e
    rw [inc_unique ha.2 hb.2 ht]
theorem inc_sortI {l : List Int} (h : l.Nodup) : (si.sortI l).Pairwise (· < ·) := by
  have h1 := si.sorted_sortI l
  have h2 : (si.sortI l).Nodup := (List.Perm.nodup_iff (by unfold si.sortI; exact List.mergeSort_perm _ _)).2 h
  exact (h1.and h2).imp (fun ⟨a, b⟩ => by omega)
theorem lastB_mem {es : List S31} {kl : Lit} {b : Bool} (h : lastB es kl = some b) : kl ∈ es.map keyP := by
  induction es using snoc_ind with
  | h0 => cases h
  | h1 es x ih =>
    rw [lastB_snoc] at h
    rw [List.map_append, List.mem_append]
    by_cases hk : keyP x = kl
    · exact .inr (by simp [hk])
    · rw [if_neg hk] at h
      exact .inl (ih h)
theorem len_le_of_sub : ∀ {a b : List Lit}, a.Nodup → (∀ x ∈ a, x ∈ b) → a.length ≤ b.length
  | [], _, _, _ => Nat.zero_le _
  | x :: a, b, hn, h => by
    rw [List.nodup_cons] at hn
    obtain ⟨b1, b2, rfl⟩ := List.append_of_mem (h x (by simp))
    have h2 : ∀ y ∈ a, y ∈ b1 ++ b2 := fun y hy => by
      have h4 := h y (List.mem_cons_of_mem _ hy)
      rw [List.mem_append, List.mem_cons] at h4
      rw [List.mem_append]
      rcases h4 with h4 | rfl | h4
      · exact .inl h4
      · exact absurd hy hn.1
      · exact .inr h4
    have h3 := len_le_of_sub hn.2 h2
    simp only [List.length_append, List.length_cons] at h3 ⊢
    omega
theorem outs_le {es : List S31} {r : ByteArray} {v : Int} {t : ByteArray} {outs : List Int} (hn : outs.Nodup) (h : ∀ s ∈ outs, Pg es r v t s) (hrs : r.size ≤ maxLen) (hv : (Lit.int .i64 v).wf = true) (ht : t.size ≤ maxLen) : outs.length ≤ es.length := by
  have h1 : (outs.map (keyL r v t)).Nodup := by
    rw [List.nodup_iff_pairwise_ne, List.pairwise_map]
    refine (List.nodup_iff_pairwise_ne.1 hn).imp_of_mem ?_
    intro a b ha hb hne e
    exact hne (keyL_inj hrs hv ht (h a ha).1 hrs hv ht (h b hb).1 e).2.2.2
  have h2 := len_le_of_sub h1 (b := es.map keyP) (fun x hx => by
    obtain ⟨s, hs, rfl⟩ := List.mem_map.1 hx
    exact lastB_mem (h s hs).2)
  simpa using h2
theorem vals_eq {es : List S31} {r : ByteArray} {v : Int} {t : ByteArray} {outs zs : List Int} (hz : Vals es r v t zs) (h : outs.Nodup ∧ ∀ s, s ∈ outs ↔ Pg es r v t s) : si.sortI outs = zs :=
  inc_unique (inc_sortI h.1) hz.1 (fun s => by rw [si.mem_sortI, h.2, hz.2])
theorem eqA66 (d : Nat) (w : World) (x0 y0 : ByteArray) (x1 y1 : Int) (x2 y2 : ByteArray) (x3 y3 : Int) :
    (Op.equalIn (d + 2) 66 (.agg #[.string x0, .int .i64 x1, .string x2, .int .i64 x3]) (.agg #[.string y0, .int .i64 y1, .string y2, .int .i64 y3])).run Try.prog w = .ok (x0.toList == y0.toList && (x1 == y1 && (x2.toList == y2.toList && (x3 == y3)))) w := by
  refine eqA_of Try.underlying66 (by kernel_rfl) ?_
  refine eqf_cons (by rfl) (by go_simp; rfl) (by go_simp; rfl) (by go_simp) ?_
  refine eqf_cons (by rfl) (by go_simp; rfl) (by go_simp; rfl) (by go_simp) ?_
  refine eqf_cons (by rfl) (by go_simp; rfl) (by go_simp; rfl) (by go_simp) ?_
  exact eqf_last (by rfl) (by go_simp; rfl) (by go_simp; rfl) (by go_simp)
/-- Is it this rule's, version's and text's? -/
def isB (r2 : ByteArray) (v2 : Int) (t2 : ByteArray) (r : ByteArray) (v : Int) (t : ByteArray) : Bool := r2.toList == r.toList && (v2 == v && (t2.toList == t.toList && ((0 : Int) == 0)))
theorem toList_inj {a b : ByteArray} (h : a.toList = b.toList) : a = b := by
  rw [ByteArray.toList_eq, ByteArray.toList_eq] at h
  exact ByteArray.ext (Array.toList_inj.1 h)
theorem isB_eq {r2 : ByteArray} {v2 : Int} {t2 r : ByteArray} {v : Int} {t : ByteArray} : isB r2 v2 t2 r v t = true ↔ r2 = r ∧ v2 = v ∧ t2 = t := by
  unfold isB
  simp only [Bool.and_eq_true, beq_iff_eq, and_true]
  constructor
  · rintro ⟨a, b, c⟩
    exact ⟨toList_inj a, b, toList_inj c⟩
  · rintro ⟨rfl, rfl, rfl⟩
    exact ⟨rfl, rfl, rfl⟩
theorem eqA66b {r2 : ByteArray} {v2 : Int} {t2 r : ByteArray} {v : Int} {t : ByteArray} {b : Bool} (h : isB r2 v2 t2 r v t = b) (d : Nat) (w : World) :
    (Op.equalIn (d + 2) 66 (.agg #[.string r2, .int .i64 v2, .string t2, .int .i64 0]) (.agg #[.string r, .int .i64 v, .string t, .int .i64 0])).run Try.prog w = .ok b w := by
  rw [eqA66, ← h]
  rfl
theorem blkM {w : World} {g : Nat} {t : TypeId} {c0 c1 c2 c3 : Value} (h : w.heap[g]? = some (.cells #[c0, c1, c2, c3] t (0, 0))) : w.cell? ⟨g, 0, none⟩ = some c0 ∧ w.cell? ⟨g, 1, none⟩ = some c1 ∧ w.cell? ⟨g, 2, none⟩ = some c2 ∧ w.cell? ⟨g, 3, none⟩ = some c3 :=
  ⟨(blk_cell h 0).trans rfl, (blk_cell h 1).trans rfl, (blk_cell h 2).trans rfl, (blk_cell h 3).trans rfl⟩
theorem at_some {es : List S31} {kl : Lit} {c : Bool} (hat : ∀ zd : DataW Unit, (mapOf es).atKey kl zd = .lit (.bool c)) : lastB es kl = some c := by
  have h := fun zd => (at_mapOf es kl zd).symm.trans (hat zd)
  cases hl : lastB es kl with
  | none =>
    have h2 := h (.lit (.bool (!c)))
    rw [hl] at h2
    cases c <;> simp at h2
  | some b =>
    have h2 := h (.lit (.bool c))
    rw [hl] at h2
    simp at h2
    rw [h2]
section
variable {es : List S31} {r : ByteArray} {v : Int} {t : ByteArray} {outs : List Int} {left : Lit → Bool} {r2 : ByteArray} {v2 : Int} {t2 : ByteArray} {s2 : Int} {c : Bool}
theorem step_yes (hrs : r.size ≤ maxLen) (hv : (Lit.int .i64 v).wf = true) (ht : t.size ≤ maxLen) (hs2 : (Lit.int .i64 s2).wf = true) (h : outs.Nodup ∧ ∀ s, s ∈ outs ↔ (Pg es r v t s ∧ left (keyL r v t s) = false)) (hl : left (keyL r2 v2 t2 s2) = true) (hc : lastB es (keyL r2 v2 t2 s2) = some c) (hc1 : c = true) (hi : isB r2 v2 t2 r v t = true) :
    (outs ++ [s2]).Nodup ∧ ∀ s, s ∈ outs ++ [s2] ↔ (Pg es r v t s ∧ (left (keyL r v t s) && !(keyL r v t s).sameKey (keyL r2 v2 t2 s2)) = false) := by
  obtain ⟨rfl, rfl, rfl⟩ := isB_eq.1 hi
  subst hc1
  have hno : s2 ∉ outs := fun hm => by have := ((h.2 s2).1 hm).2; rw [hl] at this; cases this
  refine ⟨?_, fun s => ?_⟩
  · rw [List.nodup_append]
    exact ⟨h.1, by simp, fun a ha b hb e => by simp at hb; exact hno (by rw [← hb, ← e]; exact ha)⟩
  · rw [List.mem_append, List.mem_singleton]
    constructor
    · rintro (hm | rfl)
      · obtain ⟨h1, h2⟩ := (h.2 s).1 hm
        exact ⟨h1, by rw [h2]; rfl⟩
      · exact ⟨⟨hs2, hc⟩, by rw [WideAt.sameKey_self (show WideAt.IsKeyLit (keyL r2 v2 t2 s) from trivial)]; simp⟩
    · rintro ⟨h1, h2⟩
      rw [Bool.and_eq_false_iff] at h2
      rcases h2 with h2 | h2
      · exact .inl ((h.2 s).2 ⟨h1, h2⟩)
      · have h3 := WideAt.sameKey_eq (by simpa using h2)
        exact .inr (keyL_inj hrs hv ht h1.1 hrs hv ht hs2 h3).2.2.2
theorem step_no (hrs : r.size ≤ maxLen) (hv : (Lit.int .i64 v).wf = true) (ht : t.size ≤ maxLen) (hr2 : r2.size ≤ maxLen) (hv2 : (Lit.int .i64 v2).wf = true) (ht2 : t2.size ≤ maxLen) (hs2 : (Lit.int .i64 s2).wf = true) (h : outs.Nodup ∧ ∀ s, s ∈ outs ↔ (Pg es r v t s ∧ left (keyL r v t s) = false)) (hl : left (keyL r2 v2 t2 s2) = true) (hc : lastB es (keyL r2 v2 t2 s2) = some c) (hi : c = false ∨ isB r2 v2 t2 r v t = false) :
    outs.Nodup ∧ ∀ s, s ∈ outs ↔ (Pg es r v t s ∧ (left (keyL r v t s) && !(keyL r v t s).sameKey (keyL r2 v2 t2 s2)) = false) := by
  refine ⟨h.1, fun s => (h.2 s).trans ⟨fun ⟨h1, h2⟩ => ⟨h1, by rw [h2]; rfl⟩, fun ⟨h1, h2⟩ => ⟨h1, ?_⟩⟩⟩
  rw [Bool.and_eq_false_iff] at h2
  rcases h2 with h2 | h2
  · exact h2
  · have h3 := WideAt.sameKey_eq (by simpa using h2)
    obtain ⟨e1, e2, e3, e4⟩ := keyL_inj hrs hv ht h1.1 hr2 hv2 ht2 hs2 h3
    have h4 := h1.2
    rw [h3, hc] at h4
    rcases hi with hi | hi
    · rw [hi] at h4; cases h4
    · have h5 : isB r2 v2 t2 r v t = true := isB_eq.2 ⟨e1.symm, e2.symm, e3.symm⟩
      rw [hi] at h5
      cases h5
end
set_option maxHeartbeats 4000000 in
set_option maxRecDepth 100000 in
theorem valC {w : World} {base p : Nat} {S : Nat → Prop} {es : List S31} {b : Bool} (r : ByteArray) (v : Int) (A : Option Addr) (c : Nat) (l : List S54) (zs : List Int) (hL : Led w base p S es) (hr : Kd.C k54 w A l.length l) (hc : l.length ≤ c) (hV : ∃ k, labels_Valid.f k l = some b)
    (hb : b = true → l.length ≤ 8 ∧ ∀ x ∈ l, x.f0.size ≤ 16 ∧ x.f1.size ≤ 16) (hn : es.length < 1000000) (h1 : b = true → Vals es r v (tx.textB l) zs) (h0 : b = false → zs = []) (hrs : r.size ≤ maxLen) (hv : (Lit.int .i64 v).wf = true) :
    Calls Try.prog 13 #[.pointer (some ⟨p, 0, none⟩), .string r, .int .i64 v, .slice A l.length c] w fun e w' => ∃ u, e = .returned u ∧ Kd.R (Kd.int .i64) 3 w' w.heap.size (fun _ => True) u zs ∧ Below w.heap.size w w' := by
  have V := Lib.hid (fun W (h : Below w.heap.size w W) => (fun k hk => labels_Valid.calls k A c l b W (Kd.C_below hr h) hc hk : ∀ k, labels_Valid.f k l = some b → _))
  obtain ⟨k, hV⟩ := hV
  cases b with
  | false =>
    obtain rfl := h0 rfl
    have V1 := Lib.hid (V.out w (Below.refl _ _) k hV)
    clear V hL hr hc hb hV h1 h0
    go_enter Try.func13, Try.ntmps13
    go_wp2_with fail
    refine V1.out.mono ?_
    rintro e w1 ⟨rfl, hb1⟩
    go_wp2_with fail
    go_ret
    exact ⟨_, rfl, Kd.R_nil _ _ _ _ _, hb1⟩
  | true =>
    obtain ⟨h8, hx⟩ := hb rfl
    have HZ := Lib.hid (h1 rfl)
    have V1 := Lib.hid (V.out w (Below.refl _ _) k hV)
    have T := Lib.hid (fun W (h : Below w.heap.size w W) => tx.text A c l W (Kd.C_below hr h) hc h8 hx)
    have HTS := Lib.hid (size_text l h8 hx)
    obtain ⟨bm, hp, _, _, _, _, _, hM⟩ := hL
    have HP := Lib.hid hp
    have HM := Lib.hid hM
    clear V hr hc hb hV h1 h0 hp hM h8 hx
    have u66 := Try.underlying66
    go_enter Try.func13, Try.ntmps13
    go_wp2_with fail
    refine V1.out.mono ?_
    rintro e w1 ⟨rfl, hb1⟩
    have HB1 := Lib.hid hb1
    clear hb1 V1
    go_wp2_with fail
    refine (T.out _ HB1.out).mono ?_
    rintro e w2 ⟨rfl, hb2⟩
    have HB2 := Lib.hid (below_step HB1.out hb2)
    have HP2 := Lib.hid (blk_below HP.out HB2.out)
    have HM2 := Lib.hid (HM.out.kept (grown_of HB2.out) (by simp))
    clear hb2 T HB1
    have xp : w2.cell? ⟨p, 1, none⟩ = some (.map (some bm)) := (blk_cell HP2.out 1).trans rfl
    have xp2 := pw_cell_below (below_alloc (Below.refl _ _) (.cells #[.string r, .int .i64 v, .string (tx.textB l), .int .i64 0] 66)) xp
    have HM3 := Lib.hid (HM2.out.alloc (.cells #[.string r, .int .i64 v, .string (tx.textB l), .int .i64 0] 66))
    have HB3 := Lib.hid (below_alloc HB2.out (.cells #[.string r, .int .i64 v, .string (tx.textB l), .int .i64 0] 66))
    have BW3 := Lib.hid (heap_alloc_new w2 (.cells #[.string r, .int .i64 v, .string (tx.textB l), .int .i64 0] 66))
    go_wp2_with (at_range; refine wpList_range_own _ rfl _ _ rfl 66 4 law Try.underlying67 _ bm es.length (mapOf es) rfl HM3.out ?_; intro w3 hrg hg3 hs3)
    have HRG := Lib.hid hrg
    have HB4 := Lib.hid (Below.mono (below_then HB3.out HB3.out.size ⟨hg3.os, hg3.tape, hg3.output, hg3.size, fun k hk => hg3.block k hk (by simp)⟩) (Nat.le_refl _))
    have HZ2 := Lib.hid (show w.heap.size ≤ w2.heap.size from HB2.out.size)
    have BW4 := Lib.hid (blk_grown BW3.out hg3 (by simp))
    have HRS := Lib.hid (show bm < w.heap.size from HM.out.lt)
    clear hrg hg3 hs3 xp xp2 HM3 HB3 BW3 HM2 HP2 HB2 HM HP
    rw [show (w2.alloc (.cells #[.string r, .int .i64 v, .string (tx.textB l), .int .i64 0] 66)).heap.size = w2.heap.size + 1 from by simp]
    go_frame
    go_loopw [9] (fun v9 wr => ∃ left cnt outs, Hid (wr.ranges Try.prog 66 (plainElem (H := Unit) Try.prog 4) bm (w2.heap.size + 1) es.length (mapOf es) left cnt) ∧ Hid (Kd.R (Kd.int .i64) 3 wr w.heap.size (fun k => k ≠ w2.heap.size ∧ k ≠ w2.heap.size + 1) v9 outs) ∧ Hid (outs.Nodup ∧ ∀ s, s ∈ outs ↔ (Pg es r v (tx.textB l) s ∧ left (keyL r v (tx.textB l) s) = false)) ∧ Hid (wr.heap[w2.heap.size]? = some (.cells #[.string r, .int .i64 v, .string (tx.textB l), .int .i64 0] 66 (0, 0))) ∧ Hid (Below w.heap.size w wr)) (fun _ wr => wr.rangeLeft bm (w2.heap.size + 1))
    case atStart =>
      refine ⟨_, _, [], Lib.hid (by have h := HRG.out; rwa [show (w2.alloc (.cells #[.string r, .int .i64 v, .string (tx.textB l), .int .i64 0] 66)).heap.size = w2.heap.size + 1 from by simp] at h), Lib.hid (Kd.R_nil _ _ _ _ _), Lib.hid ⟨List.nodup_nil, fun s => ⟨fun h => (by cases h), fun h => (by have h2 := h.2; rw [has_mapOf, h.1.2] at h2; cases h2)⟩⟩, BW4, HB4⟩
    case round =>
      obtain ⟨left, cnt, outs, HR, HO, HS, HW, HBw⟩ := hrel
      clear HRG HB4 BW4
      go_wp2_with (at_next; refine wpList_next_ranges _ rfl _ rfl 66 law (plainElem (H := Unit) Try.prog 4) (fun x : ByteArray × Int × ByteArray × Int => keyV x.1 x.2.1 x.2.2.1 x.2.2.2) Value.bool (fun key kl hk => by obtain ⟨a, b, c, d, h, _⟩ := keyV_inv hk; exact ⟨(a, b, c, d), h⟩) (fun y z hz => by cases y <;> first | exact ⟨_, rfl⟩ | (simp [plainElem, Try.underlying4] at hz)) bm (w2.heap.size + 1) es.length (mapOf es) left cnt (by first | rfl | (go_simp; done) | (simp; done)) HR.out ?_ ?_)
      · intro _ hl0
        have HS2 := Lib.hid (show outs.Nodup ∧ ∀ s, s ∈ outs ↔ Pg es r v (tx.textB l) s from ⟨HS.out.1, fun s => (HS.out.2 s).trans ⟨fun h => h.1, fun h => ⟨h, hl0 _⟩⟩⟩)
        clear HS HR hl0
        have HLEN := Lib.hid (outs_le HS2.out.1 (fun s hs => (HS2.out.2 s).1 hs) hrs hv HTS.out)
        obtain ⟨Ao, co, rfl⟩ := Kd.R_slice HO.out
        have SO := Lib.hid (si.sort_int _ outs w wr w.heap.size (fun _ => True) (Kd.R_mono HO.out (fun _ _ => trivial)) HBw.out (by have := HLEN.out; omega))
        go_wp2_with fail
        refine SO.out.mono ?_
        rintro e w9 ⟨rfl, hr9, hb9, _⟩
        have HR9 := Lib.hid hr9
        have HB9 := Lib.hid hb9
        clear hr9 hb9 SO
        go_wp2_with fail
        go_ret
        refine ⟨_, rfl, ?_, HB9.out⟩
        have h9 := HR9.out
        rw [vals_eq HZ.out HS2.out] at h9
        exact h9
      · intro r2 v2 t2 s2
        refine ⟨?_, ?_⟩
        all_goals
          intro kl yd ym w5 cnt5 hkey hlk hy hat hrg hlt hgr hsz hen
          obtain ⟨a1, a2, a3, a4, hk1, hk2, hr2, hv2, ht2, hs2⟩ := keyV_inv hkey
          simp only [keyV, Value.agg.injEq, Array.mk.injEq, List.cons.injEq, Value.string.injEq, Value.int.injEq, true_and, and_true] at hk1
          obtain ⟨rfl, rfl, rfl, rfl⟩ := hk1
          subst hk2
          simp only [plainElem, Try.underlying4, Option.some.injEq, Prod.mk.injEq] at hy
          obtain ⟨rfl, _⟩ := hy
          have HC := Lib.hid (at_some hat)
          have HLK := Lib.hid hlk
          have HR5 := Lib.hid hrg
          have HLT := Lib.hid hlt
          have HB5 := Lib.hid (pw_below_grown HBw.out _ HBw.out.size hgr (fun k hk => by injection hk with hk; have := HZ2.out; omega))
          have HO5 := Lib.hid (Kd.R_grown HO.out hgr (fun k hk e => by injection e with e; exact hk.2 e))
          have HW5 := Lib.hid (blk_grown HW.out hgr (by simp))
          have HR2 := Lib.hid hr2
          have HV2 := Lib.hid hv2
          have HT2 := Lib.hid ht2
          have HS2 := Lib.hid hs2
          have HEN := hen
          unfold keyV at HEN
          have BX5 := Lib.hid (blk_below HW5.out (below_alloc (Below.refl _ w5) (.cells #[.string r2, .int .i64 v2, .string t2, .int .i64 0] 66)))
          have HB6 := Lib.hid (below_alloc HB5.out (.cells #[.string r2, .int .i64 v2, .string t2, .int .i64 0] 66))
          have HO6 := Lib.hid (Kd.R_alloc HO5.out (.cells #[.string r2, .int .i64 v2, .string t2, .int .i64 0] 66))
          have HR6 := Lib.hid (HR5.out.alloc (.cells #[.string r2, .int .i64 v2, .string t2, .int .i64 0] 66))
          have HCL := HR.out.left_eq
          have HCL2 := Lib.hid (HR5.out.left_eq)
          clear hkey hlk hat hrg hlt hgr hen hr2 hv2 ht2 hs2 HR HO HW hsz HBw HB5 HO5 HR5
          obtain ⟨x0, x1, x2, x3⟩ := blkM BX5.out
        · have HS5 := Lib.hid (step_no hrs hv HTS.out HR2.out HV2.out HT2.out HS2.out HS.out HLK.out HC.out (.inl rfl))
          go_wp2_with fail
          go_roundw
          case rel => exact ⟨_, _, outs, HR6, HO6, HS5, BX5, HB6⟩
          case measure => rw [HR6.out.left_eq, HCL]; exact HLT.out
        · cases hi : isB r2 v2 t2 r v (tx.textB l) with
          | false =>
            have HS5 := Lib.hid (step_no hrs hv HTS.out HR2.out HV2.out HT2.out HS2.out HS.out HLK.out HC.out (.inr hi))
            have EQ := eqA66b hi
            clear hi
            go_wp2_with fail
            go_roundw
            case rel => exact ⟨_, _, outs, HR6, HO6, HS5, BX5, HB6⟩
            case measure => rw [HR6.out.left_eq, HCL]; exact HLT.out
          | true =>
            have HS5 := Lib.hid (step_yes hrs hv HTS.out HS2.out HS.out HLK.out HC.out rfl hi)
            have HLEN := Lib.hid (outs_le HS.out.1 (fun s hs => ((HS.out.2 s).1 hs).1) hrs hv HTS.out)
            have EQ := eqA66b hi
            clear hi
            go_wp2_with ((with_reducible refine gate_builtin (b := .append) (xs := #[.tmp 41, .tmp 43]) rfl ?_); at_builtin; (refine Kd.R_append (Kd.int .i64) (w0 := w) w.heap.size rfl (.tmp 41) (.tmp 43) 22 3 (.int .i64 0) 8 rfl Try.underlying22 info3 rfl (by decide) (by omega) u9 outs s2 [.int .i64 s2] _ (fun _ => False) rfl (by first | rfl | (simp; rfl)) rfl (fun _ h => h.elim) ?c1 HO6.out HB6.out HB6.out.size ?c2 ?_; (case c1 => (intro k hk; have := blk_lt HW5.out; simp at hk; omega)); (case c2 => (have := HLEN.out; omega)); intro v9 w9 ho9 hb9 hg9 ha9))
            have HO9 := Lib.hid ho9
            have HB9 := Lib.hid hb9
            have HX9 := Lib.hid (blk_grown BX5.out hg9 (fun e => (HO6.out.1 _ e.symm).1 rfl))
            have HR9 := Lib.hid (HR6.out.kept hg9 (fun e => by have := Kd.R_base HO6.out _ e.symm; have := HRS.out; omega) (fun e => (HO6.out.1 _ e.symm).2 rfl))
            clear ho9 hb9 hg9 ha9 HO6 HB6 BX5 HR6
            go_wp2_with fail
            go_roundw
            case rel => exact ⟨_, _, outs ++ [s2], HR9, HO9, HS5, HX9, HB9⟩
            case measure => rw [HR9.out.left_eq, HCL]; exact HLT.out
end led
end Go.Proofs.Ytgdojonkkfcaeaa.Q
