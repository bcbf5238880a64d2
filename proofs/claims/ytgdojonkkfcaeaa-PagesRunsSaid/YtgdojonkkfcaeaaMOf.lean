/- pages.of: its walk. -/
import Derived.Test.YtgdojonkkfcaeaaMText2
import Derived.Test.YtgdojonkkfcaeaaMLed
namespace Go.Proofs.Ytgdojonkkfcaeaa.Q
open Go.RowKit Go.Maps Go.Proofs.YtgdojonkkfcaeaaW.PrintWords Go.Proofs.YtgdojonkkfcaeaaW.PrintLast Go.Proofs.YtgdojonkkfcaeaaW.PrintMore
set_option linter.unusedVariables false
set_option linter.unusedSimpArgs false
namespace led
theorem boxes1 {W w1 : World} {c1 : Array Value} {t1 : TypeId} (hb : Below (W.alloc (.cells c1 t1)).heap.size (W.alloc (.cells c1 t1)) w1) :
    w1.heap[W.heap.size]? = some (.cells c1 t1 (0, 0)) ∧ W.heap.size < w1.heap.size ∧ Below W.heap.size W w1 := by
  have h1 := blk_below (heap_alloc_new W (.cells c1 t1)) hb
  exact ⟨h1, blk_lt h1, below_step (below_alloc (Below.refl _ _) _) hb⟩
theorem boxes2 {W w1 : World} {c1 c2 : Array Value} {t1 t2 : TypeId} (hb : Below ((W.alloc (.cells c1 t1)).alloc (.cells c2 t2)).heap.size ((W.alloc (.cells c1 t1)).alloc (.cells c2 t2)) w1) :
    w1.heap[W.heap.size]? = some (.cells c1 t1 (0, 0)) ∧ w1.heap[W.heap.size + 1]? = some (.cells c2 t2 (0, 0)) ∧ W.heap.size + 1 < w1.heap.size ∧ Below W.heap.size W w1 := by
  have h1 := blk_below (blk_alloc (heap_alloc_new W (.cells c1 t1)) (.cells c2 t2)) hb
  have h2 := blk_below (heap_alloc_new (W.alloc (.cells c1 t1)) (.cells c2 t2)) hb
  rw [show (W.alloc (.cells c1 t1)).heap.size = W.heap.size + 1 from by simp] at h2
  exact ⟨h1, h2, blk_lt h2, below_step (below_alloc (below_alloc (Below.refl _ _) _) _) hb⟩
theorem blk7 {W : World} {g : Nat} {v0 v1 v2 v3 v4 v5 v6 : Value} (h : W.heap[g]? = some (.cells #[v0, v1, v2, v3, v4, v5, v6] 31 (0, 0))) : W.cell? ⟨g, 0, none⟩ = some v0 ∧ W.cell? ⟨g, 1, none⟩ = some v1 ∧ W.cell? ⟨g, 2, none⟩ = some v2 ∧ W.cell? ⟨g, 3, none⟩ = some v3 ∧ W.cell? ⟨g, 4, none⟩ = some v4 ∧ W.cell? ⟨g, 5, none⟩ = some v5 ∧ W.cell? ⟨g, 6, none⟩ = some v6 :=
  ⟨(blk_cell h 0).trans rfl, (blk_cell h 1).trans rfl, (blk_cell h 2).trans rfl, (blk_cell h 3).trans rfl, (blk_cell h 4).trans rfl, (blk_cell h 5).trans rfl, (blk_cell h 6).trans rfl⟩
theorem blk4 {W : World} {g : Nat} {v0 v1 v2 v3 : Value} {t : TypeId} (h : W.heap[g]? = some (.cells #[v0, v1, v2, v3] t (0, 0))) : W.cell? ⟨g, 0, none⟩ = some v0 ∧ W.cell? ⟨g, 1, none⟩ = some v1 ∧ W.cell? ⟨g, 2, none⟩ = some v2 ∧ W.cell? ⟨g, 3, none⟩ = some v3 :=
  ⟨(blk_cell h 0).trans rfl, (blk_cell h 1).trans rfl, (blk_cell h 2).trans rfl, (blk_cell h 3).trans rfl⟩
theorem four_K {W : World} {g : Nat} {t : TypeId} {u0 u1 u2 u3 v0 v1 v2 v3 : Value} (hb : W.heap[g]? = some (.cells #[u0, u1, u2, u3] t (0, 0))) : ((((W.setCell ⟨g, 0, none⟩ v0).setCell ⟨g, 1, none⟩ v1).setCell ⟨g, 2, none⟩ v2).setCell ⟨g, 3, none⟩ v3).heap[g]? = some (.cells #[v0, v1, v2, v3] t (0, 0)) := by
  have e := blk_set (blk_set (blk_set (blk_set hb 0 v0) 1 v1) 2 v2) 3 v3
  exact e
/-- The cells of a page. -/
def pgV (k : Int) (r : ByteArray) (v : Int) (lv : Value) (s t : Int) (q : ByteArray) : Array Value := #[.int .i64 k, .string r, .int .i64 v, lv, .int .i64 s, .int .i64 t, .string q]
/-- What a cell holds, whatever it is. -/
def tgc (w : World) (g j : Nat) : Value := (w.cell? ⟨g, j, none⟩).getD undef
theorem tgc_some {w : World} {g j : Nat} {v : Value} (h : w.cell? ⟨g, j, none⟩ = some v) : w.cell? ⟨g, j, none⟩ = some (tgc w g j) := by rw [tgc, h]; rfl
/-- What the read cells of a box must be for 'of'. -/
abbrev OfS (W : World) (g : Nat) (r : ByteArray) (v : Int) (lv : Value) (s : Int) (w : World) : Prop :=
  w.cell? ⟨g, 1, none⟩ = some (.string r) ∧ w.cell? ⟨g, 2, none⟩ = some (.int .i64 v) ∧ w.cell? ⟨g, 3, none⟩ = some (lv) ∧ w.cell? ⟨g, 4, none⟩ = some (.int .i64 s) ∧ w.cell? ⟨g + 1, 0, none⟩ = some (tgc w (g + 1) 0) ∧ w.cell? ⟨g + 1, 1, none⟩ = some (tgc w (g + 1) 1) ∧ w.cell? ⟨g + 1, 2, none⟩ = some (tgc w (g + 1) 2) ∧ w.cell? ⟨g + 1, 3, none⟩ = some (tgc w (g + 1) 3) ∧ (∃ t0 t1 t2 t3, w.heap[g + 1]? = some (.cells #[t0, t1, t2, t3] 66 (0, 0))) ∧ (∀ j, w.frozen? ⟨g + 1, j, none⟩ = false) ∧ g + 1 < w.heap.size ∧ W.heap.size ≤ g ∧ Below W.heap.size W w
theorem frozen_below {w w' : World} (hb : Below w.heap.size w w') {a : Addr} (ha : a.block < w.heap.size) : w'.frozen? a = w.frozen? a := World.frozen?_of_block (hb.block _ ha)
theorem ofS_mk {W w : World} {g : Nat} {r : ByteArray} {v : Int} {lv : Value} {s : Int} {t0 t1 t2 t3 : Value} (a1 : w.cell? ⟨g, 1, none⟩ = some (.string r)) (a2 : w.cell? ⟨g, 2, none⟩ = some (.int .i64 v)) (a3 : w.cell? ⟨g, 3, none⟩ = some lv) (a4 : w.cell? ⟨g, 4, none⟩ = some (.int .i64 s))
    (b : w.heap[g + 1]? = some (.cells #[t0, t1, t2, t3] 66 (0, 0))) (hg : W.heap.size ≤ g) (hB : Below W.heap.size W w) : OfS W g r v lv s w := by
  obtain ⟨y0, y1, y2, y3⟩ := blk4 b
  exact ⟨a1, a2, a3, a4, tgc_some y0, tgc_some y1, tgc_some y2, tgc_some y3, ⟨t0, t1, t2, t3, b⟩, fun j => blk_frozen b j, blk_lt b, hg, hB⟩
theorem ofS_keep {W w w' : World} {g : Nat} {r : ByteArray} {v : Int} {lv : Value} {s : Int} (h : OfS W g r v lv s w) (hb : Below w.heap.size w w') : OfS W g r v lv s w' := by
  obtain ⟨a1, a2, a3, a4, _, _, _, _, ⟨t0, t1, t2, t3, b⟩, f, hl, hg, hB⟩ := h
  exact ofS_mk (pw_cell_below hb a1) (pw_cell_below hb a2) (pw_cell_below hb a3) (pw_cell_below hb a4) (blk_below b hb) hg (below_step hB hb)
theorem cell_far {w : World} {a p : Addr} {u v : Value} (h : w.cell? a = some v) (hne : a.block ≠ p.block) : (w.setCell p u).cell? a = some v :=
  (World.cell?_of_block (Below.heap_setCell w p u a.block hne)).trans h
theorem ofS_set {W w : World} {g : Nat} {r : ByteArray} {v : Int} {lv : Value} {s : Int} {v0 v1 v2 v3 : Value} (h : OfS W g r v lv s w) : OfS W g r v lv s ((((w.setCell ⟨g + 1, 0, none⟩ v0).setCell ⟨g + 1, 1, none⟩ v1).setCell ⟨g + 1, 2, none⟩ v2).setCell ⟨g + 1, 3, none⟩ v3) := by
  obtain ⟨a1, a2, a3, a4, _, _, _, _, ⟨t0, t1, t2, t3, b⟩, f, hl, hg, hB⟩ := h
  have hne : g ≠ g + 1 := by omega
  exact ofS_mk (cell_far (cell_far (cell_far (cell_far a1 hne) hne) hne) hne) (cell_far (cell_far (cell_far (cell_far a2 hne) hne) hne) hne) (cell_far (cell_far (cell_far (cell_far a3 hne) hne) hne) hne) (cell_far (cell_far (cell_far (cell_far a4 hne) hne) hne) hne) (four_K b) hg (below_set (below_set (below_set (below_set hB (by omega)) (by omega)) (by omega)) (by omega))
set_option maxHeartbeats 4000000 in
set_option maxRecDepth 100000 in
theorem ofC (k0 : Int) (r : ByteArray) (v : Int) (A : Option Addr) (c : Nat) (l : List S54) (s sent : Int) (q : ByteArray) (w : World) (hr : Kd.C k54 w A l.length l) (hc : l.length ≤ c) (h8 : l.length ≤ 8) (hx : ∀ x ∈ l, x.f0.size ≤ 16 ∧ x.f1.size ≤ 16) :
    Calls Try.prog 38 #[.agg (pgV k0 r v (.slice A l.length c) s sent q)] w fun e w' => e = .returned (keyV r v (tx.textB l) s) ∧ Below w.heap.size w w' := by
  have T := Lib.hid (fun W (h : OfS w w.heap.size r v (.slice A l.length c) s W) => tx.text A c l W (Kd.C_below hr h.2.2.2.2.2.2.2.2.2.2.2.2) hc h8 hx)
  have HR := Lib.hid hr
  clear hr hc hx h8
  unfold pgV
  go_enter Try.func38, Try.ntmps38
  have u66 := Try.underlying66
  have B0 := Lib.hid (blk_alloc (heap_alloc_new w (.cells #[.int .i64 k0, .string r, .int .i64 v, .slice A l.length c, .int .i64 s, .int .i64 sent, .string q] 31)) (.cells #[.string ⟨#[]⟩, .int .i64 0, .string ⟨#[]⟩, .int .i64 0] 66))
  have B1 := Lib.hid (heap_alloc_new (w.alloc (.cells #[.int .i64 k0, .string r, .int .i64 v, .slice A l.length c, .int .i64 s, .int .i64 sent, .string q] 31)) (.cells #[.string ⟨#[]⟩, .int .i64 0, .string ⟨#[]⟩, .int .i64 0] 66))
  rw [show (w.alloc (.cells #[.int .i64 k0, .string r, .int .i64 v, .slice A l.length c, .int .i64 s, .int .i64 sent, .string q] 31)).heap.size = w.heap.size + 1 from by simp] at B1
  have HBW := Lib.hid (below_alloc (below_alloc (Below.refl w.heap.size w) (.cells #[.int .i64 k0, .string r, .int .i64 v, .slice A l.length c, .int .i64 s, .int .i64 sent, .string q] 31)) (.cells #[.string ⟨#[]⟩, .int .i64 0, .string ⟨#[]⟩, .int .i64 0] 66))
  go_wp2_with fail
  obtain ⟨_, x1, x2, x3, x4, _⟩ := blk7 B0.out
  have hS0 : OfS w w.heap.size r v (.slice A l.length c) s _ := ofS_mk x1 x2 x3 x4 B1.out (Nat.le_refl _) HBW.out
  clear x1 x2 x3 x4
  go_region_held3 (fun w' => w'.cell? ⟨w.heap.size, 1, none⟩ = some (.string r) ∧ w'.cell? ⟨w.heap.size, 2, none⟩ = some (.int .i64 v) ∧ w'.cell? ⟨w.heap.size, 3, none⟩ = some (.slice A l.length c) ∧ w'.cell? ⟨w.heap.size, 4, none⟩ = some (.int .i64 s) ∧ w'.cell? ⟨w.heap.size + 1, 0, none⟩ = some (tgc w' (w.heap.size + 1) 0) ∧ w'.cell? ⟨w.heap.size + 1, 1, none⟩ = some (tgc w' (w.heap.size + 1) 1) ∧ w'.cell? ⟨w.heap.size + 1, 2, none⟩ = some (tgc w' (w.heap.size + 1) 2) ∧ w'.cell? ⟨w.heap.size + 1, 3, none⟩ = some (tgc w' (w.heap.size + 1) 3) ∧ (∃ t0 t1 t2 t3, w'.heap[w.heap.size + 1]? = some (.cells #[t0, t1, t2, t3] 66 (0, 0))) ∧ (∀ j, w'.frozen? ⟨w.heap.size + 1, j, none⟩ = false) ∧ w.heap.size + 1 < w'.heap.size ∧ w.heap.size ≤ w.heap.size ∧ Below w.heap.size w w') (with_reducible first | assumption | exact ofS_set (by assumption) | (refine ofS_keep (by assumption) (below_drew (Below.refl _ _))))
    (first
      | (go_at_call 32; (with_reducible refine (T.out _ (by assumption)).mono ?_); rintro e w9 ⟨rfl, hb⟩; have hS9 := ofS_keep (by assumption) hb; clear hb))
  have hS8 : OfS w w.heap.size r v (.slice A l.length c) s w9 := hS9
  have HZ := Lib.hid (ofS_set (v0 := .string r) (v1 := .int .i64 v) (v2 := .string (tx.textB l)) (v3 := .int .i64 s) hS8).2.2.2.2.2.2.2.2.2.2.2.2
  clear hS8
  obtain ⟨_, _, _, _, _, _, _, _, ⟨t0, t1, t2, t3, b⟩, _, _, _, hB⟩ := hS9
  have HE := Lib.hid (four_K (v0 := .string r) (v1 := .int .i64 v) (v2 := .string (tx.textB l)) (v3 := .int .i64 s) b)
  clear b hB
  go_wp2_with fail
  refine bodyPost_ret (results_cell_row rfl _ _ (w.heap.size + 1) 66 #[.string r, .int .i64 v, .string (tx.textB l), .int .i64 s] (0, 0) _ rfl HE.out Try.underlying66 rfl (by kernel_rfl)) rfl ?_
  exact ⟨rfl, HZ.out⟩
end led
end Go.Proofs.Ytgdojonkkfcaeaa.Q
