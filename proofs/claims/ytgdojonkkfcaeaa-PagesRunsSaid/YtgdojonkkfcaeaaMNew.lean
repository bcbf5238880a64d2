/- pages.New. -/
import Derived.Test.YtgdojonkkfcaeaaMAdd
namespace Go.Proofs.Ytgdojonkkfcaeaa.Q
open Go.RowKit Go.Maps Go.Proofs.YtgdojonkkfcaeaaW.PrintWords Go.Proofs.YtgdojonkkfcaeaaW.PrintLast Go.Proofs.YtgdojonkkfcaeaaW.PrintMore
set_option linter.unusedVariables false
set_option linter.unusedSimpArgs false
namespace led
theorem led_new {w : World} {base : Nat} (hb : base ≤ w.heap.size) : Led ((w.alloc (.map #[] 0)).alloc (.cells #[.slice none 0 0, .map (some w.heap.size)] 69)) base (w.heap.size + 1) (fun k => w.heap.size ≤ k) [] := by
  have h1 := heap_alloc_new (w.alloc (.map #[] 0)) (.cells #[.slice none 0 0, .map (some w.heap.size)] 69)
  rw [show (w.alloc (.map #[] 0)).heap.size = w.heap.size + 1 from by simp] at h1
  have e : tgc ((w.alloc (.map #[] 0)).alloc (.cells #[.slice none 0 0, .map (some w.heap.size)] 69)) (w.heap.size + 1) 0 = .slice none 0 0 := by
    rw [tgc, show World.cell? _ ⟨w.heap.size + 1, 0, none⟩ = some (.slice none 0 0) from (blk_cell h1 0).trans rfl]
    rfl
  refine ⟨w.heap.size, by rw [e]; exact h1, by omega, by show _ ≤ _; omega, hb, Nat.le_refl _, by rw [e]; exact Kd.R_nil _ _ _ _ _, ?_⟩
  exact (World.ownsMap_made w Try.prog 66 _).alloc _
set_option maxHeartbeats 4000000 in
set_option maxRecDepth 100000 in
theorem newC {w0 w : World} {base : Nat} (hB : Below base w0 w) (hbase : base ≤ w.heap.size) :
    Calls Try.prog 17 #[] w fun e w' => e = .returned (.pointer (some ⟨w.heap.size + 1, 0, none⟩)) ∧ Led w' base (w.heap.size + 1) (fun k => w.heap.size ≤ k) [] ∧ Below base w0 w' ∧ Below w.heap.size w w' := by
  have hmm := @run_makeMap Try.prog
  have u67 := Try.underlying67
  have u69 := Try.underlying69
  have HL := Lib.hid (led_new hbase)
  have HB1 := Lib.hid (below_alloc (below_alloc (Below.refl w.heap.size w) (.map #[] 0)) (.cells #[.slice none 0 0, .map (some w.heap.size)] 69))
  have HB := Lib.hid (below_then hB hbase HB1.out)
  clear hB hbase
  go_enter Try.func17, Try.ntmps17
  go_wp2_with fail
  go_ret
  exact ⟨rfl, HL.out, HB.out, HB1.out⟩
end led
end Go.Proofs.Ytgdojonkkfcaeaa.Q
