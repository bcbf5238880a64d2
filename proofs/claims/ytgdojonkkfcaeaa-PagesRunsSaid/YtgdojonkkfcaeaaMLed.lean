/- The ledger: its map's keys, what it holds. -/
import Derived.Test.YtgdojonkkfcaeaaQ0
import Derived.Maps.OwnSet
import Derived.Maps.RangeWalk
import Derived.DeepKeys4
import Derived.Outline
import Derived.Lib.Hide
namespace Go.Proofs.Ytgdojonkkfcaeaa.Q
open Go.RowKit Go.Maps Go.Proofs.YtgdojonkkfcaeaaW.PrintWords Go.Proofs.YtgdojonkkfcaeaaW.PrintLast Go.Proofs.YtgdojonkkfcaeaaW.PrintMore
set_option linter.unusedVariables false
set_option linter.unusedSimpArgs false
namespace led
theorem laidOut : laidOutB Try.prog = true := by kernel_rfl
theorem row66 : (66 : TypeId) < Try.prog.types.size := of_decide_eq_true (by kernel_rfl)
theorem wide66 : (match Try.prog.underlying 66 with | some (.array _ _) | some (.struct _) => true | _ => false) = true := by rw [Try.underlying66]
set_option maxRecDepth 100000 in
theorem law : Keyed Try.prog 66 := Keyed.of_law (deep_law_laid laidOut (m := 3) (by omega) row66 (by kernel_rfl) wide66)
/-- The cells of a must. -/
def keyV (r : ByteArray) (v : Int) (t : ByteArray) (s : Int) : Value := .agg #[.string r, .int .i64 v, .string t, .int .i64 s]
/-- .. as the map's key. -/
def keyL (r : ByteArray) (v : Int) (t : ByteArray) (s : Int) : Lit := .string (keyBytes [.string r.data.toList, .int .i64 v, .string t.data.toList, .int .i64 s])
theorem keyType66 : Try.prog.keyType 66 = true := by kernel_rfl
theorem formed66 (r : ByteArray) (v : Int) (t : ByteArray) (s : Int) : (keyV r v t s).formed Try.prog 66 = true := by
  have hu := Try.underlying66
  have hc : Try.prog.cellsOf 66 = 4 := by kernel_rfl
  simp [keyV, Value.formed, hu, hc]
theorem size_types : Try.prog.types.size = 161 := by kernel_rfl
theorem lits9 (d : Nat) {r : ByteArray} (hr : r.size ≤ maxLen) : Try.prog.keyLits (d + 1) 9 [.string r] = some [.string r.data.toList] := by
  unfold Program.keyLits
  rw [Try.underlying9]
  simp [hr]
theorem lits3 (d : Nat) {v : Int} (hv : (Lit.int .i64 v).wf = true) : Try.prog.keyLits (d + 1) 3 [.int .i64 v] = some [.int .i64 v] := by
  unfold Program.keyLits
  rw [Try.underlying3]
  simp [hv]
theorem cells66 : Try.prog.cellsOf 66 = 4 := by kernel_rfl
theorem cells9 : Try.prog.cellsOf 9 = 1 := by kernel_rfl
theorem cells3 : Try.prog.cellsOf 3 = 1 := by kernel_rfl
theorem lits66 (d : Nat) {r : ByteArray} {v : Int} {t : ByteArray} {s : Int} (hr : r.size ≤ maxLen) (hv : (Lit.int .i64 v).wf = true) (ht : t.size ≤ maxLen) (hs : (Lit.int .i64 s).wf = true) : Try.prog.keyLits (d + 2) 66 [.string r, .int .i64 v, .string t, .int .i64 s] = some [.string r.data.toList, .int .i64 v, .string t.data.toList, .int .i64 s] := by
  have h1 := lits9 d hr
  have h2 := lits3 d hv
  have h3 := lits9 d ht
  have h4 := lits3 d hs
  unfold Program.keyLits
  rw [Try.underlying66]
  simp [cells66, cells9, cells3, h1, h2, h3, h4]
theorem keyOf_mk {r : ByteArray} {v : Int} {t : ByteArray} {s : Int} (hr : r.size ≤ maxLen) (hv : (Lit.int .i64 v).wf = true) (ht : t.size ≤ maxLen) (hs : (Lit.int .i64 s).wf = true) : keyOf Try.prog 66 (keyV r v t s) = some (keyL r v t s) := by
  unfold keyOf
  rw [Try.underlying66]
  simp only [keyType66, formed66, Bool.and_self, if_true]
  rw [size_types]
  show ((Try.prog.keyLits (160 + 2) 66 [.string r, .int .i64 v, .string t, .int .i64 s]).map fun ls => Lit.string (keyBytes ls)) = _
  rw [lits66 160 hr hv ht hs]
  rfl
theorem keyL_inj {r : ByteArray} {v : Int} {t : ByteArray} {s : Int} {r' : ByteArray} {v' : Int} {t' : ByteArray} {s' : Int} (hr : r.size ≤ maxLen) (hv : (Lit.int .i64 v).wf = true) (ht : t.size ≤ maxLen) (hs : (Lit.int .i64 s).wf = true)
    (hr' : r'.size ≤ maxLen) (hv' : (Lit.int .i64 v').wf = true) (ht' : t'.size ≤ maxLen) (hs' : (Lit.int .i64 s').wf = true) (h : keyL r v t s = keyL r' v' t' s') : r = r' ∧ v = v' ∧ t = t' ∧ s = s' := by
  have e := law.inj (keyOf_mk hr hv ht hs) (h ▸ keyOf_mk hr' hv' ht' hs')
  simpa [keyV] using e
end led
end Go.Proofs.Ytgdojonkkfcaeaa.Q
