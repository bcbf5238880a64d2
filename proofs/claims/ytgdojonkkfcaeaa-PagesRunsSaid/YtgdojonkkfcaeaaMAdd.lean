/- The ledger's invariant, and pages.Ledger.add. -/
import Derived.Test.YtgdojonkkfcaeaaMOf
import Derived.Test.YtgdojonkkfcaeaaMLab
namespace Go.Proofs.Ytgdojonkkfcaeaa.Q
open Go.RowKit Go.Maps Go.Proofs.YtgdojonkkfcaeaaW.PrintWords Go.Proofs.YtgdojonkkfcaeaaW.PrintLast Go.Proofs.YtgdojonkkfcaeaaW.PrintMore
set_option linter.unusedVariables false
set_option linter.unusedSimpArgs false
namespace led
/-- The key of a page's must. -/
def keyP (x : S31) : Lit := keyL x.f1 x.f2 (tx.textB x.f3) x.f4
/-- What the map holds behind these entries. -/
def mapOf (es : List S31) : DataW Unit := es.foldl (fun D x => D.put (keyP x) (.lit (.bool (x.f0 != 1)))) (.map [])
theorem mapOf_snoc (es : List S31) (x : S31) : mapOf (es ++ [x]) = (mapOf es).put (keyP x) (.lit (.bool (x.f0 != 1))) := by simp [mapOf, List.foldl_append]
/-- A ledger at block p, whose blocks are S, holds these entries. -/
def Led (W : World) (base p : Nat) (S : Nat → Prop) (es : List S31) : Prop :=
  ∃ bm, W.heap[p]? = some (.cells #[tgc W p 0, .map (some bm)] 69 (0, 0)) ∧ base ≤ p ∧ S p ∧ base ≤ bm ∧ S bm ∧ Kd.R k31 31 W base S (tgc W p 0) es ∧ W.ownsMap Try.prog 66 (plainElem (H := Unit) Try.prog 4) bm es.length (mapOf es)
/-- What stands while an entry is appended. -/
abbrev AddS (w0 W : World) (B : Nat) (S : Nat → Prop) (g p bm : Nat) (k0 : Int) (r : ByteArray) (v : Int) (lv : Value) (s t : Int) (q : ByteArray) (w : World) : Prop :=
  w.cell? ⟨g, 0, none⟩ = some (.int .i64 k0) ∧ w.cell? ⟨g, 1, none⟩ = some (.string r) ∧ w.cell? ⟨g, 2, none⟩ = some (.int .i64 v) ∧ w.cell? ⟨g, 3, none⟩ = some lv ∧ w.cell? ⟨g, 4, none⟩ = some (.int .i64 s) ∧ w.cell? ⟨g, 5, none⟩ = some (.int .i64 t) ∧ w.cell? ⟨g, 6, none⟩ = some (.string q) ∧ w.cell? ⟨p, 0, none⟩ = some (tgc w p 0) ∧ w.cell? ⟨p, 1, none⟩ = some (.map (some bm)) ∧ (∀ j, w.frozen? ⟨p, j, none⟩ = false) ∧ p < w.heap.size ∧ w.heap[p]? = some (.cells #[tgc w p 0, .map (some bm)] 69 (0, 0)) ∧ w.heap[g]? = some (.cells #[.int .i64 k0, .string r, .int .i64 v, lv, .int .i64 s, .int .i64 t, .string q] 31 (0, 0)) ∧ B ≤ w.heap.size ∧ Below B w0 w ∧ Kept W w S
theorem addS_mk {w0 W w : World} {B g p bm : Nat} {S : Nat → Prop} {k0 : Int} {r : ByteArray} {v : Int} {lv : Value} {s t : Int} {q : ByteArray} (hp : w.heap[p]? = some (.cells #[tgc w p 0, .map (some bm)] 69 (0, 0))) (hg : w.heap[g]? = some (.cells #[.int .i64 k0, .string r, .int .i64 v, lv, .int .i64 s, .int .i64 t, .string q] 31 (0, 0))) (hBs : B ≤ w.heap.size) (hB : Below B w0 w) (hK : Kept W w S) : AddS w0 W B S g p bm k0 r v lv s t q w := by
  obtain ⟨x0, x1, x2, x3, x4, x5, x6⟩ := blk7 hg
  exact ⟨x0, x1, x2, x3, x4, x5, x6, (blk_cell hp 0).trans rfl, (blk_cell hp 1).trans rfl, fun j => blk_frozen hp j, blk_lt hp, hp, hg, hBs, hB, hK⟩
theorem addS_keep {w0 W w w' : World} {B g p bm : Nat} {S : Nat → Prop} {k0 : Int} {r : ByteArray} {v : Int} {lv : Value} {s t : Int} {q : ByteArray} (h : AddS w0 W B S g p bm k0 r v lv s t q w) (hb : Below w.heap.size w w') : AddS w0 W B S g p bm k0 r v lv s t q w' := by
  obtain ⟨_, _, _, _, _, _, _, _, _, _, _, hp, hg, hBs, hB, hK⟩ := h
  have hp' := blk_below hp hb
  have e : tgc w' p 0 = tgc w p 0 := by
    have h1 := blk_cell hp' 0
    have h2 : w'.cell? ⟨p, 0, none⟩ = some (tgc w p 0) := h1.trans rfl
    rw [tgc, h2]; rfl
  exact addS_mk (e.symm ▸ hp') (blk_below hg hb) (Nat.le_trans hBs hb.size) (below_then hB hBs hb) (hK.below hb)
theorem grown_of {w w' : World} (hb : Below w.heap.size w w') : w.grownBy w' none := ⟨hb.os, hb.tape, hb.output, hb.size, fun k hk _ => hb.block k hk⟩
theorem map_at {H : Type} {P : Program} {k : TypeId} {R : Value → Option (DataW H × List MemPlace)} {w : World} {b n : Nat} {D : DataW H} (h : w.ownsMap P k R b n D) : ∃ es c, w.heap[b]? = some (.map es c) := by
  obtain ⟨es, c, h, _⟩ := h
  exact ⟨es, c, h⟩
theorem map_ne {H : Type} {P : Program} {k : TypeId} {R : Value → Option (DataW H × List MemPlace)} {w : World} {b n : Nat} {D : DataW H} (h : w.ownsMap P k R b n D) {v : Value} (hv : ∀ k, v.ownBlock = some k → ∃ cells e, w.heap[k]? = some (.cells cells e (0, 0))) : some b ≠ v.ownBlock := by
  intro e
  obtain ⟨es, c, h1⟩ := map_at h
  obtain ⟨cells, t, h2⟩ := hv b e.symm
  rw [h1] at h2
  cases h2
theorem keep7 {g p jj : Nat} {w w' : World} {c0 c1 c2 c3 c4 c5 c6 c7 : Value} (_ : 0 = 0) (h : w.cell? ⟨g, 0, none⟩ = some c0 ∧ w.cell? ⟨g, 1, none⟩ = some c1 ∧ w.cell? ⟨g, 2, none⟩ = some c2 ∧ w.cell? ⟨g, 3, none⟩ = some c3 ∧ w.cell? ⟨g, 4, none⟩ = some c4 ∧ w.cell? ⟨g, 5, none⟩ = some c5 ∧ w.cell? ⟨g, 6, none⟩ = some c6 ∧ w.cell? ⟨p, jj, none⟩ = some c7) (hb : Below w.heap.size w w') :
    w'.cell? ⟨g, 0, none⟩ = some c0 ∧ w'.cell? ⟨g, 1, none⟩ = some c1 ∧ w'.cell? ⟨g, 2, none⟩ = some c2 ∧ w'.cell? ⟨g, 3, none⟩ = some c3 ∧ w'.cell? ⟨g, 4, none⟩ = some c4 ∧ w'.cell? ⟨g, 5, none⟩ = some c5 ∧ w'.cell? ⟨g, 6, none⟩ = some c6 ∧ w'.cell? ⟨p, jj, none⟩ = some c7 := by
  obtain ⟨a0, a1, a2, a3, a4, a5, a6, a7⟩ := h
  exact ⟨pw_cell_below hb a0, pw_cell_below hb a1, pw_cell_below hb a2, pw_cell_below hb a3, pw_cell_below hb a4, pw_cell_below hb a5, pw_cell_below hb a6, pw_cell_below hb a7⟩
def T3 : Bool × List (List Nat × List Nat) := (true, [([], []), ([0], [0]), ([1], [1]), ([2], [2]), ([], []), ([4], [4]), ([], []), ([6], [6]), ([7], [7]), ([3, 5, 8, 5, 0, 1, 2, 3, 4, 5, 6, 7, 8], [3, 5, 8])])
def B3 : List Nat := [0, 1, 3, 7, 0, 16, 0, 64, 192, 511]
theorem tab3 : rtab .any (opsOf Try.f40 3) = T3 := by kernel_rfl
theorem bits3 : waitsOk T3.2 B3 = true := by kernel_rfl
def T2 : Bool × List (List Nat × List Nat) := (true, [([], []), ([], []), ([1], [1]), ([2], [2]), ([3], [3]), ([], []), ([5], [5]), ([4, 6], [4, 6]), ([0, 0, 1, 2, 3, 4, 5, 6, 7], [0]), ([8, 0, 1, 2, 3, 4, 5, 6, 7], [8]), ([9, 7, 7, 0, 1, 2, 3, 4, 5, 6, 7], [7, 9])])
def B2 : List Nat := [0, 0, 2, 6, 14, 0, 32, 126, 255, 511, 1023]
theorem tab2 : rtab .any (opsOf Try.f40 2) = T2 := by kernel_rfl
theorem bits2 : waitsOk T2.2 B2 = true := by kernel_rfl
set_option maxHeartbeats 4000000 in
set_option maxRecDepth 100000 in
theorem addC {w0 w : World} {base p : Nat} {S : Nat → Prop} {es : List S31} (k0 : Int) (r : ByteArray) (v : Int) (A : Option Addr) (c : Nat) (l : List S54) (s sent : Int) (q : ByteArray) (hL : Led w base p S es) (hB : Below base w0 w) (hbase : base ≤ w.heap.size) (hr : Kd.C k54 w A l.length l) (hc : l.length ≤ c) (h8 : l.length ≤ 8) (hx : ∀ x ∈ l, x.f0.size ≤ 16 ∧ x.f1.size ≤ 16)
    (hrs : r.size ≤ maxLen) (hv : (Lit.int .i64 v).wf = true) (hs : (Lit.int .i64 s).wf = true) (hn : es.length < 1000000) :
    Calls Try.prog 40 #[.pointer (some ⟨p, 0, none⟩), .agg (pgV k0 r v (.slice A l.length c) s sent q)] w fun e w' => e = .returned (.tuple #[]) ∧ ∃ S', Led w' base p S' (es ++ [⟨k0, r, v, l, s, sent, q⟩]) ∧ (∀ b, S' b → S b ∨ w.heap.size ≤ b) ∧ Kept w w' S ∧ Below base w0 w' := by
  obtain ⟨bm, hp, hbp, hSp, hbb, hSb, hR, hM⟩ := hL
  have HP := Lib.hid hp
  have HBP := Lib.hid hbp
  have HSP := Lib.hid hSp
  have HBB := Lib.hid hbb
  have HSB := Lib.hid hSb
  have HR := Lib.hid hR
  have HM := Lib.hid hM
  have HB := Lib.hid hB
  have HBS := Lib.hid hbase
  have HN := Lib.hid hn
  have HPL := Lib.hid (blk_lt hp)
  have CL := Lib.hid (clone_lab A c l (w.alloc (.cells #[.int .i64 k0, .string r, .int .i64 v, .slice A l.length c, .int .i64 s, .int .i64 sent, .string q] 31)) (Kd.C_alloc hr _) (by omega))
  have HTS := Lib.hid (show (tx.textB l).size ≤ maxLen from by
    have h1 := tx.len_tx l hx l.length (Nat.le_refl _)
    have h2 : (tx.textB l).size = 1 + (tx.txTo l l.length).length + 1 := by
      unfold tx.textB
      simp only [ByteArray.size_append]
      show 1 + (tx.txTo l l.length).toArray.size + 1 = _
      simp
    unfold maxLen
    omega)
  have OF := Lib.hid (fun (A : Option Addr) (c : Nat) (hc : l.length ≤ c) (W : World) (hr : Kd.C k54 W A l.length l) => ofC k0 r v A c l s sent q W hr hc h8 hx)
  have BX := Lib.hid (heap_alloc_new w (.cells #[.int .i64 k0, .string r, .int .i64 v, .slice A l.length c, .int .i64 s, .int .i64 sent, .string q] 31))
  have HB0 := Lib.hid (below_alloc (Below.refl w.heap.size w) (.cells #[.int .i64 k0, .string r, .int .i64 v, .slice A l.length c, .int .i64 s, .int .i64 sent, .string q] 31))
  clear hp hbp hSp hbb hSb hR hM hB hbase hr hc hx hn h8
  unfold pgV
  go_enter Try.func40, Try.ntmps40
  obtain ⟨x0, x1, x2, x3, x4, x5, x6⟩ := blk7 BX.out
  go_wp2_with fail
  refine CL.out.mono ?_
  rintro e w1 ⟨lv, rfl, hlr, hb1⟩
  obtain ⟨A1, c1, rfl⟩ := Kd.R_slice hlr
  have BX1 := Lib.hid (blk_below BX.out hb1)
  have HB1 := Lib.hid (below_step HB0.out hb1)
  have HLR := Lib.hid hlr
  clear x0 x1 x2 x3 x4 x5 x6 hlr hb1 CL
  obtain ⟨x0, x1, x2, x3, x4, x5, x6⟩ := blk7 BX1.out
  have zf := blk_frozen BX1.out 3
  have zl := blk_lt BX1.out
  go_wp2_with fail
  have BX2 := Lib.hid (blk_set BX1.out 3 (.slice A1 l.length c1))
  have HB2 := Lib.hid (below_set (j := 3) (v := .slice A1 l.length c1) HB1.out (g := w.heap.size) (Nat.le_refl _))
  have HLR2 := Lib.hid (Kd.R_set HLR.out BX1.out (by intro q hq; simp [Kd.E, k54, Kd.iso, Kd.pair, Kd.string, Kd.scalar] at hq; subst hq; decide) 3 (.slice A1 l.length c1))
  obtain ⟨w2, hw2⟩ : ∃ w2, w2 = w1.setCell ⟨w.heap.size, 3, none⟩ (.slice A1 l.length c1) := ⟨_, rfl⟩
  rw [← hw2] at BX2 HB2 HLR2 ⊢
  clear hw2 HLR BX1 HB1 BX x0 x1 x2 x3 x4 x5 x6 zf zl
  have ep : tgc w2 p 0 = tgc w p 0 := by rw [tgc, show w2.cell? ⟨p, 0, none⟩ = some (tgc w p 0) from (blk_cell (blk_below HP.out HB2.out) 0).trans rfl]; rfl
  have hS0 : AddS w0 w base S w.heap.size p bm k0 r v (.slice A1 l.length c1) s sent q w2 := addS_mk (ep.symm ▸ blk_below HP.out HB2.out) BX2.out (Nat.le_trans HBS.out HB2.out.size) (below_then HB.out HBS.out HB2.out) (Kept.of_below HB2.out _)
  obtain ⟨x0, x1, x2, x3, x4, x5, x6⟩ := blk7 BX2.out
  have xp : w2.cell? ⟨p, 0, none⟩ = some (tgc w p 0) := (blk_cell (blk_below HP.out HB2.out) 0).trans rfl
  refine start_ (n := 11) (S := (fun w' => w'.cell? ⟨w.heap.size, 0, none⟩ = some (.int .i64 k0) ∧ w'.cell? ⟨w.heap.size, 1, none⟩ = some (.string r) ∧ w'.cell? ⟨w.heap.size, 2, none⟩ = some (.int .i64 v) ∧ w'.cell? ⟨w.heap.size, 3, none⟩ = some (.slice A1 l.length c1) ∧ w'.cell? ⟨w.heap.size, 4, none⟩ = some (.int .i64 s) ∧ w'.cell? ⟨w.heap.size, 5, none⟩ = some (.int .i64 sent) ∧ w'.cell? ⟨w.heap.size, 6, none⟩ = some (.string q) ∧ w'.cell? ⟨p, 0, none⟩ = some (tgc w p 0))) (ds := [7, 10]) #[false, false, false, false, false, false, false, false, false, false, false] (by kernel_rfl) rfl rfl ⟨x0, x1, x2, x3, x4, x5, x6, xp⟩ (fun hHeld => ?_)
  refine with_tabW tab2 bits2 (fun HT_ HW_ => ?_)
  have HB3 := Lib.hid (below_drew HB2.out)
  have HLR3 := Lib.hid (Kd.R_drew HLR2.out)
  have BX3 := Lib.hid (blk_drew BX2.out)
  clear x0 x1 x2 x3 x4 x5 x6 xp HB2 HLR2 BX2 ep hS0
  generalize w2.drew = w3 at HB3 HLR3 BX3 hHeld ⊢
  refine pure_ (i := 0) (N := some 8) (v := ?_) (a' := ?_) #[true, false, false, false, false, false, false, false, false, false, false] rfl rfl (any_of HT_.out (by kernel_rfl)) (fun _ _ _ h => h) (Or.inl ⟨by rfl, ?_⟩) ?_ ?_
  rotate_left
  · intro w'
    go_simp
    with_reducible rfl
  rotate_left
  · simp only [Act.put, List.setIfInBounds_toArray, List.set_cons_zero, List.set_cons_succ, i64_w, i32_w]
    rfl
  refine pure_ (i := 1) (N := some 9) (v := ?_) (a' := ?_) #[true, true, false, false, false, false, false, false, false, false, false] rfl rfl (any_of HT_.out (by kernel_rfl)) (fun _ _ _ h => h) (Or.inl ⟨by rfl, ?_⟩) ?_ ?_
  rotate_left
  · intro w'
    go_simp
    with_reducible rfl
  rotate_left
  · simp only [Act.put, List.setIfInBounds_toArray, List.set_cons_zero, List.set_cons_succ, i64_w, i32_w]
    rfl
  refine pure_ (i := 2) (N := some 10) (v := ?_) (a' := ?_) #[true, true, true, false, false, false, false, false, false, false, false] rfl rfl (any_of HT_.out (by kernel_rfl)) (fun _ _ _ h => h) (Or.inl ⟨by rfl, ?_⟩) ?_ ?_
  rotate_left
  · intro w'
    go_simp
    with_reducible rfl
  rotate_left
  · simp only [Act.put, List.setIfInBounds_toArray, List.set_cons_zero, List.set_cons_succ, i64_w, i32_w]
    rfl
  refine pure_ (i := 3) (N := some 11) (v := ?_) (a' := ?_) #[true, true, true, true, false, false, false, false, false, false, false] rfl rfl (any_of HT_.out (by kernel_rfl)) (fun _ _ _ h => h) (Or.inl ⟨by rfl, ?_⟩) ?_ ?_
  rotate_left
  · intro w'
    go_simp
    with_reducible rfl
  rotate_left
  · simp only [Act.put, List.setIfInBounds_toArray, List.set_cons_zero, List.set_cons_succ, i64_w, i32_w]
    rfl
  refine take_ (i := 4) (N := some 12) (v := ?_) (a' := ?_) #[true, true, true, true, true, false, false, false, false, false, false] rfl rfl (take_ofW HT_.out HW_.out (by kernel_rfl)) (fun _ _ _ h => h) (Or.inl ⟨by rfl, ?_⟩) hHeld ?_ ?_
  rotate_left
  · rintro w' ⟨s0, s1, s2, s3, s4, s5, s6, s7⟩
    go_simp
    with_reducible rfl
  rotate_left
  · simp only [Act.put, List.setIfInBounds_toArray, List.set_cons_zero, List.set_cons_succ, i64_w, i32_w]
    rfl
  refine take_ (i := 5) (N := some 13) (v := ?_) (a' := ?_) #[true, true, true, true, true, true, false, false, false, false, false] rfl rfl (take_ofW HT_.out HW_.out (by kernel_rfl)) (fun _ _ _ h => h) (Or.inl ⟨by rfl, ?_⟩) hHeld ?_ ?_
  rotate_left
  · rintro w' ⟨s0, s1, s2, s3, s4, s5, s6, s7⟩
    go_simp
    with_reducible rfl
  rotate_left
  · simp only [Act.put, List.setIfInBounds_toArray, List.set_cons_zero, List.set_cons_succ, i64_w, i32_w]
    rfl
  refine one_ (i := 6) (N := some 14) #[true, true, true, true, true, true, true, false, false, false, false] rfl rfl (one_of HT_.out (by kernel_rfl)) (by decide) (fun K hK => ?_)
  refine value_ (w1 := ?_) (v := ?_) (by rfl) rfl ?_ ?_
  rotate_left 2
  · go_simp
    constructor
    · rfl
    · rfl
  refine hK.out _ _ (keep7 (by decide) hHeld (below_alloc (Below.refl _ _) _)) (fun hHeld => ?_)
  clear hK K
  refine norm_ (a' := ?_) ?_ ?_
  rotate_left
  · show Act.put _ (some 14) _ = _
    simp only [Act.put, List.setIfInBounds_toArray, List.set_cons_zero, List.set_cons_succ, i64_w, i32_w]
    rfl
  refine last_ (i := 7) (N := some 15) #[true, true, true, true, true, true, true, true, false, false, false] rfl rfl (one_of HT_.out (by kernel_rfl)) (by decide) (fun K hK => ?_)
  refine Kd.R_append_step k31 (w0 := w0) base (by rfl) (.tmp 12) (.tmp 14) 25 31 (.agg #[(.int .i64 0), (.string ⟨#[]⟩), (.int .i64 0), (.slice none 0 0), (.int .i64 0), (.int .i64 0), (.string ⟨#[]⟩)]) 88 rfl Try.underlying25 info31 rfl (by decide) (by omega) (tgc w p 0) es (⟨k0, r, v, l, s, sent, q⟩ : S31) [.int .i64 k0, .string r, .int .i64 v, .slice A1 l.length c1, .int .i64 s, .int .i64 sent, .string q] (fun k => S k ∨ w.heap.size ≤ k) (fun k => w.heap.size ≤ k) rfl rfl ?aP ?aK ?aF ?aO ?aB ?aS ?aL ?_
  case aP => exact k31_mkM _ _ _ (⟨k0, r, v, l, s, sent, q⟩ : S31) (Kd.R_lower (Kd.R_mono (Kd.R_bound HLR3.out) (fun k hk => by have := hk.2.1; simp at this; omega)) (by have := HBS.out; simp; omega))
  case aK => exact fun k hk => ⟨.inr hk, fun e => by have := Kd.R_lt HR.out k e.symm; omega⟩
  case aF => exact fun k hk => .inr (Nat.le_trans HB3.out.size hk)
  case aO => exact Kd.R_mono (Kd.R_below HR.out HB3.out) (fun k hk => .inl hk)
  case aB => exact below_then HB.out HBS.out HB3.out
  case aS => exact Nat.le_trans HBS.out HB3.out.size
  case aL => have := HN.out; omega
  intro v4 w4 ho hb hg hat
  have hnb : ∀ k, (tgc w p 0).ownBlock = some k → k < w.heap.size := Kd.R_lt HR.out
  have hty : ∀ k, (tgc w p 0).ownBlock = some k → ∃ cells e, w.heap[k]? = some (.cells cells e (0, 0)) := fun k hk => by
    obtain ⟨cells, hc⟩ := Kd.R_typed HR.out k hk
    exact ⟨cells, _, hc⟩
  have HP4 := Lib.hid (blk_grown (blk_below HP.out HB3.out) hg (Kd.R_ne HR.out HP.out (by decide)))
  have BX4 := Lib.hid (blk_grown BX3.out hg (fun e => by have := hnb _ e.symm; omega))
  have HM4 := Lib.hid ((HM.out.kept (grown_of HB3.out) (by simp)).kept hg (map_ne HM.out hty))
  have HLR4 := Lib.hid (Kd.R_grown (Kd.R_mono (ok' := fun k => w.heap.size + 1 ≤ k) (Kd.R_bound HLR3.out) (fun k hk => by have := hk.2.1; simp at this; omega)) hg (fun k hk e => by have := hnb k e.symm; omega))
  have HK4 := Lib.hid (Kept.of_grown hg (Kept.of_below HB3.out S) (fun k hk => .inl (HR.out.1 k hk)))
  have HO4 := Lib.hid ho
  have HB4 := Lib.hid hb
  have HS4 := Lib.hid (Nat.le_trans HB3.out.size hg.size)
  clear hnb hty ho hb hg hat hHeld BX3 HLR3 HB3
  refine hK.out _ _ ?_
  clear hK K
  refine norm_ (a' := ?_) ?_ ?_
  rotate_left
  · show Act.put _ (some 15) _ = _
    simp only [Act.put, List.setIfInBounds_toArray, List.set_cons_zero, List.set_cons_succ, i64_w, i32_w]
    rfl
  refine pure_ (i := 8) (N := some 16) (v := ?_) (a' := ?_) #[true, true, true, true, true, true, true, true, true, false, false] rfl rfl (any_of HT_.out (by kernel_rfl)) (fun _ _ _ h => h) (Or.inl ⟨by rfl, ?_⟩) ?_ ?_
  rotate_left
  · intro w'
    go_simp
    with_reducible rfl
  rotate_left
  · simp only [Act.put, List.setIfInBounds_toArray, List.set_cons_zero, List.set_cons_succ, i64_w, i32_w]
    rfl
  refine pure_ (i := 9) (N := some 17) (v := ?_) (a' := ?_) #[true, true, true, true, true, true, true, true, true, true, false] rfl rfl (any_of HT_.out (by kernel_rfl)) (fun _ _ _ h => h) (Or.inl ⟨by rfl, ?_⟩) ?_ ?_
  rotate_left
  · intro w'
    go_simp
    with_reducible rfl
  rotate_left
  · simp only [Act.put, List.setIfInBounds_toArray, List.set_cons_zero, List.set_cons_succ, i64_w, i32_w]
    rfl
  refine last_ (i := 10) (N := none) #[true, true, true, true, true, true, true, true, true, true, true] rfl rfl (one_of HT_.out (by kernel_rfl)) (by decide) (fun K hK => ?_)
  have y0 := blk_cell HP4.out 0
  have y1 := blk_frozen HP4.out 0
  have y2 := blk_lt HP4.out
  obtain ⟨A4, c4, rfl⟩ := Kd.R_slice HO4.out
  refine skip_ (w1 := ?_) (by rfl) rfl ?_ ?_
  rotate_left
  · go_simp
    rfl
  refine hK.out _ _ ?_
  clear hK K y0 y1 y2
  refine done_ (done_of HT_.out (by kernel_rfl)) ?_
  clear HT_ HW_
  obtain ⟨w5, hw5⟩ : ∃ w5, w5 = w4.setCell ⟨p, 0, none⟩ (.slice A4 (es ++ [(⟨k0, r, v, l, s, sent, q⟩ : S31)]).length c4) := ⟨_, rfl⟩
  have hpb : bm ≠ p := by
    rintro rfl
    obtain ⟨_, _, h1⟩ := map_at HM4.out
    have h2 := HP4.out
    rw [h1] at h2
    cases h2
  have hgp : w.heap.size ≠ p := Nat.ne_of_gt HPL.out
  have HP5 := Lib.hid (blk_set HP4.out 0 (.slice A4 (es ++ [(⟨k0, r, v, l, s, sent, q⟩ : S31)]).length c4))
  have BX5 := Lib.hid (blk_far BX4.out (p := ⟨p, 0, none⟩) hgp (.slice A4 (es ++ [(⟨k0, r, v, l, s, sent, q⟩ : S31)]).length c4))
  have HM5 := Lib.hid (HM4.out.setCell (a := ⟨p, 0, none⟩) hpb (.slice A4 (es ++ [(⟨k0, r, v, l, s, sent, q⟩ : S31)]).length c4))
  have HR5 := Lib.hid (Kd.R_set HO4.out HP4.out (by decide) 0 (.slice A4 (es ++ [(⟨k0, r, v, l, s, sent, q⟩ : S31)]).length c4))
  have HLR5 := Lib.hid (Kd.R_set HLR4.out HP4.out (by decide) 0 (.slice A4 (es ++ [(⟨k0, r, v, l, s, sent, q⟩ : S31)]).length c4))
  have HK5 := Lib.hid (HK4.out.setCell (p := ⟨p, 0, none⟩) (.inl HSP.out) (.slice A4 (es ++ [(⟨k0, r, v, l, s, sent, q⟩ : S31)]).length c4))
  have HB5 := Lib.hid (HB4.out.setCell (p := ⟨p, 0, none⟩) HBP.out (.slice A4 (es ++ [(⟨k0, r, v, l, s, sent, q⟩ : S31)]).length c4))
  have HS5 := Lib.hid (show w.heap.size ≤ (w4.setCell ⟨p, 0, none⟩ (.slice A4 (es ++ [(⟨k0, r, v, l, s, sent, q⟩ : S31)]).length c4)).heap.size by simpa using HS4.out)
  rw [show es.length + 1 = (es ++ [(⟨k0, r, v, l, s, sent, q⟩ : S31)]).length by simp]
  rw [← hw5] at HP5 BX5 HM5 HR5 HLR5 HK5 HB5 HS5 ⊢
  clear hw5 HP4 BX4 HM4 HO4 HLR4 HK4 HB4 HS4 hpb hgp
  obtain ⟨x0, x1, x2, x3, x4, x5, x6⟩ := blk7 BX5.out
  have xp : w5.cell? ⟨p, 1, none⟩ = some (.map (some bm)) := (blk_cell HP5.out 1).trans rfl
  go_wp2_with fail
  refine start_ (n := 10) (S := (fun w' => w'.cell? ⟨w.heap.size, 0, none⟩ = some (.int .i64 k0) ∧ w'.cell? ⟨w.heap.size, 1, none⟩ = some (.string r) ∧ w'.cell? ⟨w.heap.size, 2, none⟩ = some (.int .i64 v) ∧ w'.cell? ⟨w.heap.size, 3, none⟩ = some (.slice A1 l.length c1) ∧ w'.cell? ⟨w.heap.size, 4, none⟩ = some (.int .i64 s) ∧ w'.cell? ⟨w.heap.size, 5, none⟩ = some (.int .i64 sent) ∧ w'.cell? ⟨w.heap.size, 6, none⟩ = some (.string q) ∧ w'.cell? ⟨p, 1, none⟩ = some (.map (some bm)))) (ds := [9]) #[false, false, false, false, false, false, false, false, false, false] (by kernel_rfl) rfl rfl ⟨x0, x1, x2, x3, x4, x5, x6, xp⟩ (fun hHeld => ?_)
  refine with_tabW tab3 bits3 (fun HT_ HW_ => ?_)
  have HC1 := Lib.hid (Kd.R_reads' HLR5.out).2.1
  have HC5 := Lib.hid (Kd.C_drew (Kd.R_reads' HLR5.out).2.2)
  clear x0 x1 x2 x3 x4 x5 x6 xp
  refine pure_ (i := 0) (N := some 18) (v := ?_) (a' := ?_) #[true, false, false, false, false, false, false, false, false, false] rfl rfl (any_of HT_.out (by kernel_rfl)) (fun _ _ _ h => h) (Or.inl ⟨by rfl, ?_⟩) ?_ ?_
  rotate_left
  · intro w'
    go_simp
    with_reducible rfl
  rotate_left
  · simp only [Act.put, List.setIfInBounds_toArray, List.set_cons_zero, List.set_cons_succ, i64_w, i32_w]
    rfl
  refine pure_ (i := 1) (N := some 19) (v := ?_) (a' := ?_) #[true, true, false, false, false, false, false, false, false, false] rfl rfl (any_of HT_.out (by kernel_rfl)) (fun _ _ _ h => h) (Or.inl ⟨by rfl, ?_⟩) ?_ ?_
  rotate_left
  · intro w'
    go_simp
    with_reducible rfl
  rotate_left
  · simp only [Act.put, List.setIfInBounds_toArray, List.set_cons_zero, List.set_cons_succ, i64_w, i32_w]
    rfl
  refine pure_ (i := 2) (N := some 20) (v := ?_) (a' := ?_) #[true, true, true, false, false, false, false, false, false, false] rfl rfl (any_of HT_.out (by kernel_rfl)) (fun _ _ _ h => h) (Or.inl ⟨by rfl, ?_⟩) ?_ ?_
  rotate_left
  · intro w'
    go_simp
    with_reducible rfl
  rotate_left
  · simp only [Act.put, List.setIfInBounds_toArray, List.set_cons_zero, List.set_cons_succ, i64_w, i32_w]
    rfl
  refine take_ (i := 3) (N := some 21) (v := ?_) (a' := ?_) #[true, true, true, true, false, false, false, false, false, false] rfl rfl (take_ofW HT_.out HW_.out (by kernel_rfl)) (fun _ _ _ h => h) (Or.inl ⟨by rfl, ?_⟩) hHeld ?_ ?_
  rotate_left
  · rintro w' ⟨s0, s1, s2, s3, s4, s5, s6, s7⟩
    go_simp
    with_reducible rfl
  rotate_left
  · simp only [Act.put, List.setIfInBounds_toArray, List.set_cons_zero, List.set_cons_succ, i64_w, i32_w]
    rfl
  refine take_ (i := 4) (N := some 22) (v := ?_) (a' := ?_) #[true, true, true, true, true, false, false, false, false, false] rfl rfl (take_ofW HT_.out HW_.out (by kernel_rfl)) (fun _ _ _ h => h) (Or.inl ⟨by rfl, ?_⟩) hHeld ?_ ?_
  rotate_left
  · rintro w' ⟨s0, s1, s2, s3, s4, s5, s6, s7⟩
    go_simp
    with_reducible rfl
  rotate_left
  · simp only [Act.put, List.setIfInBounds_toArray, List.set_cons_zero, List.set_cons_succ, i64_w, i32_w]
    rfl
  refine pure_ (i := 6) (N := some 24) (v := ?_) (a' := ?_) #[true, true, true, true, true, false, true, false, false, false] rfl rfl (any_of HT_.out (by kernel_rfl)) (fun _ _ _ h => h) (Or.inl ⟨by rfl, ?_⟩) ?_ ?_
  rotate_left
  · intro w'
    go_simp
    with_reducible rfl
  rotate_left
  · simp only [Act.put, List.setIfInBounds_toArray, List.set_cons_zero, List.set_cons_succ, i64_w, i32_w]
    rfl
  refine take_ (i := 7) (N := some 25) (v := ?_) (a' := ?_) #[true, true, true, true, true, false, true, true, false, false] rfl rfl (take_ofW HT_.out HW_.out (by kernel_rfl)) (fun _ _ _ h => h) (Or.inl ⟨by rfl, ?_⟩) hHeld ?_ ?_
  rotate_left
  · rintro w' ⟨s0, s1, s2, s3, s4, s5, s6, s7⟩
    go_simp
    with_reducible rfl
  rotate_left
  · simp only [Act.put, List.setIfInBounds_toArray, List.set_cons_zero, List.set_cons_succ, i64_w, i32_w]
    rfl
  refine pure_ (i := 8) (N := some 26) (v := ?_) (a' := ?_) #[true, true, true, true, true, false, true, true, true, false] rfl rfl (any_of HT_.out (by kernel_rfl)) (fun _ _ _ h => h) (Or.inl ⟨by rfl, ?_⟩) ?_ ?_
  rotate_left
  · intro w'
    go_simp
    with_reducible rfl
  rotate_left
  · simp only [Act.put, List.setIfInBounds_toArray, List.set_cons_zero, List.set_cons_succ, i64_w, i32_w]
    rfl
  refine one_ (i := 5) (N := some 23) #[true, true, true, true, true, true, true, true, true, false] rfl rfl (one_of HT_.out (by kernel_rfl)) (by decide) (fun K hK => ?_)
  refine goes_ Try.func38 (by kernel_rfl) rfl #[.agg (pgV k0 r v (.slice A1 l.length c1) s sent q)] (by rfl) rfl rfl (by (try simp only [List.map_toArray, List.map_cons, List.map_nil]); first | done | rfl) ?_
  refine (OF.out A1 c1 HC1.out _ HC5.out).mono ?_
  rintro e w' ⟨rfl, hb⟩
  refine ⟨_, rfl, ?_⟩
  refine hK.out _ _ (keep7 (by decide) hHeld hb) (fun hHeld => ?_)
  clear hK K
  refine norm_ (a' := ?_) ?_ ?_
  rotate_left
  · show Act.put _ (some 23) _ = _
    simp only [Act.put, List.setIfInBounds_toArray, List.set_cons_zero, List.set_cons_succ, i64_w, i32_w]
    rfl
  have HP6 := Lib.hid (blk_below (blk_drew HP5.out) hb)
  have HM6 := Lib.hid ((HM5.out.drew).kept (grown_of hb) (by simp))
  have HR6 := Lib.hid (Kd.R_below (Kd.R_drew HR5.out) hb)
  have HK6 := Lib.hid (Kept.below (Kept.drew HK5.out) hb)
  have HB6 := Lib.hid (below_then (below_drew1 HB5.out) (Nat.le_trans HBS.out HS5.out) hb)
  clear hb HP5 HM5 HR5 HK5 HB5 HS5 BX5 HLR5 HC1 HC5 hHeld OF
  obtain ⟨w7, hrun, hm7, hg7⟩ := HM6.out.update law Try.underlying67 (by have := HN.out; unfold maxLen; omega) (keyOf_mk hrs hv HTS.out hs) (plainElem_bool Try.underlying4 (k0 != 1))
  refine last_ (i := 9) (N := none) #[true, true, true, true, true, true, true, true, true, true] rfl rfl (one_of HT_.out (by kernel_rfl)) (by decide) (fun K hK => ?_)
  refine skip_ (w1 := w7) (by rfl) rfl ?_ ?_
  · go_simp
  refine hK.out _ _ ?_
  clear hK K
  refine done_ (done_of HT_.out (by kernel_rfl)) ?_
  clear HT_ HW_
  have hne : ∀ {k : Nat} {cells : Array Value} {e : TypeId}, w'.heap[k]? = some (.cells cells e (0, 0)) → k ≠ bm := by
    rintro k cells e h1 rfl
    obtain ⟨_, _, h2⟩ := map_at HM6.out
    rw [h1] at h2
    cases h2
  have HP7 := Lib.hid (blk_grown HP6.out hg7 (fun e => hne HP6.out (Option.some.inj e)))
  have HR7 := Lib.hid (Kd.R_mono (ok' := fun k => S k ∨ w.heap.size ≤ k) (Kd.R_grown (Kd.R_mono (ok' := fun k => (S k ∨ w.heap.size ≤ k) ∧ k ≠ bm) (Kd.R_bound HR6.out) (fun k hk => by
    obtain ⟨h1, _, _, q, _, cells, hc⟩ := hk
    exact ⟨h1, hne hc⟩)) hg7 (fun k hk e => hk.2 (Option.some.inj e))) (fun k hk => hk.1))
  have HK7 := Lib.hid (Kept.of_grown hg7 HK6.out (fun k hk => .inl (by cases hk; exact HSB.out)))
  have HB7 := Lib.hid (HB6.out.grown hg7 (Nat.le_trans HBS.out HK6.out.1) (fun k hk => by cases hk; exact HBB.out))
  have e7 : tgc w7 p 0 = .slice A4 (es ++ [(⟨k0, r, v, l, s, sent, q⟩ : S31)]).length c4 := by
    rw [tgc, show w7.cell? ⟨p, 0, none⟩ = some (.slice A4 (es ++ [(⟨k0, r, v, l, s, sent, q⟩ : S31)]).length c4) from (blk_cell HP7.out 0).trans rfl]
    rfl
  have HM7 := Lib.hid (show w7.ownsMap Try.prog 66 (plainElem (H := Unit) Try.prog 4) bm (es ++ [(⟨k0, r, v, l, s, sent, q⟩ : S31)]).length (mapOf (es ++ [(⟨k0, r, v, l, s, sent, q⟩ : S31)])) from by
    rw [mapOf_snoc, List.length_append]
    exact hm7)
  clear hne hrun hm7 hg7 HM6 HR6 HK6 HB6 HP6
  go_wp2_with fail
  go_end0
  exact ⟨rfl, fun k => S k ∨ w.heap.size ≤ k, ⟨bm, by rw [e7]; exact HP7.out, HBP.out, .inl HSP.out, HBB.out, .inl HSB.out, by rw [e7]; exact HR7.out, HM7.out⟩, fun b h => h, HK7.out, HB7.out⟩
end led
end Go.Proofs.Ytgdojonkkfcaeaa.Q
