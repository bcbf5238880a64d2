/- What the rows' premise on alert.allowed gives: its ten cells. And the start that fits: the heap that the door's own run leaves. -/
import Derived.Test.YtbbddeilbcpmiaaDoorRows
import Derived.Test.YtbbddeilbcpmiaaDoorMBase
import Derived.ProofKit
import Derived.LaidMore
import Derived.OpenShut
import Derived.Stop.Joined
namespace Go.Proofs.YtbbddeilbcpmiaaDoor.Q
open Go.ChangeShapes Go.WideShapes Go.ChangeAt Go.RowKit
def laidL : List (String × DataW Unit) := [("intervalmon/alert.allowed", Rows.laid_intervalmon_alert_allowed)]
theorem gAllowed : Tryd.prog.globalNamed "intervalmon/alert.allowed" = some 0 := by kernel_rfl
theorem tAllowed : (Tryd.prog.globals[0]?).map (·.type) = some 71 := by kernel_rfl
theorem door_met (os : Os) (args : Array Value) : laidMetH Tryd.prog laidL ((World.doorLaid Tryd.prog 19 os).forCall (fun _ _ => 0) ⟨#[], args, []⟩).memory :=
  laidMetH_of_parts3 (fuel := 8) (laidMet_of_run' 8 (by kernel_rfl) (by kernel_rfl)) (by kernel_rfl) (by kernel_rfl)
set_option maxRecDepth 100000 in
/-- An array of two ints, as it reads. -/
theorem pair_of_trod {H : Type} {enc : TypeId × Value → H} {w : World} {base : Nat} {sp : Nat → Bool} {held : Bool} {fuel : Nat} {cs : List Value} {x : DataW H × List MemPlace} {a b : Int} (h : DataW.trod enc Tryd.prog w base sp held fuel 70 cs = some x) (hx : x.1 = .agg [.lit (.int .i64 a), .lit (.int .i64 b)]) : cs = [.int .i64 a, .int .i64 b] := by
  obtain ⟨xs, m, rfl, rfl, hl, hn, hel⟩ := DataW.trod_array Tryd.underlying70 h
  have c3 : Tryd.prog.cellsOf 3 = 1 := by kernel_rfl
  have c70 : Tryd.prog.cellsOf 70 = 2 := by kernel_rfl
  rw [c70] at hl
  match cs, hl with
  | [u, v], _ =>
    match xs, hn with
    | [x0, x1], _ =>
      have h0 := hel 0 (by decide)
      have h1 := hel 1 (by decide)
      rw [c3] at h0 h1
      obtain ⟨n0, e0, f0, _⟩ := DataW.trod_int Tryd.underlying3 (show DataW.trod enc Tryd.prog w base sp held m 3 [u] = some x0 from h0)
      obtain ⟨n1, e1, f1, _⟩ := DataW.trod_int Tryd.underlying3 (show DataW.trod enc Tryd.prog w base sp held m 3 [v] = some x1 from h1)
      subst f0 f1
      simp at hx e0 e1
      obtain ⟨rfl, rfl⟩ := hx
      rw [e0, e1]
set_option maxRecDepth 100000 in
theorem allowed_of_laid {W : World} (h : laidMetH Tryd.prog laidL W) : Allowed W := by
  rw [MakeChecks.laidMetH_plain _ _ _ (by kernel_rfl)] at h
  obtain ⟨ps, ⟨g0, t0, cs0, f0, p0, q0, hg0, ht0, hv0, hd0, _, _⟩, _, _⟩ := h
  obtain rfl := Option.some.inj (gAllowed.symm.trans hg0)
  obtain rfl := Option.some.inj (tAllowed.symm.trans ht0)
  obtain ⟨xs, m, rfl, hx, hl, hn, hel⟩ := DataW.trod_array Tryd.underlying71 hd0
  have c70 : Tryd.prog.cellsOf 70 = 2 := by kernel_rfl
  have c71 : Tryd.prog.cellsOf 71 = 10 := by kernel_rfl
  rw [c71] at hl
  obtain ⟨l⟩ := cs0
  match l, hl with
  | [u0, u1, u2, u3, u4, u5, u6, u7, u8, u9], _ =>
    match xs, hn with
    | [x0, x1, x2, x3, x4], _ =>
      have h0 := hel 0 (by decide)
      have h1 := hel 1 (by decide)
      have h2 := hel 2 (by decide)
      have h3 := hel 3 (by decide)
      have h4 := hel 4 (by decide)
      rw [c70] at h0 h1 h2 h3 h4
      simp only [Rows.laid_intervalmon_alert_allowed, Prod.mk.injEq, DataW.agg.injEq, List.map_cons, List.map_nil, List.cons.injEq, and_true] at hx
      obtain ⟨⟨g0, g1, g2, g3, g4⟩, _⟩ := hx
      have k0 := pair_of_trod (show DataW.trod _ Tryd.prog W _ _ _ m 70 [u0, u1] = some x0 from h0) g0.symm
      have k1 := pair_of_trod (show DataW.trod _ Tryd.prog W _ _ _ m 70 [u2, u3] = some x1 from h1) g1.symm
      have k2 := pair_of_trod (show DataW.trod _ Tryd.prog W _ _ _ m 70 [u4, u5] = some x2 from h2) g2.symm
      have k3 := pair_of_trod (show DataW.trod _ Tryd.prog W _ _ _ m 70 [u6, u7] = some x3 from h3) g3.symm
      have k4 := pair_of_trod (show DataW.trod _ Tryd.prog W _ _ _ m 70 [u8, u9] = some x4 from h4) g4.symm
      simp only [List.cons.injEq, and_true] at k0 k1 k2 k3 k4
      obtain ⟨rfl, rfl⟩ := k0
      obtain ⟨rfl, rfl⟩ := k1
      obtain ⟨rfl, rfl⟩ := k2
      obtain ⟨rfl, rfl⟩ := k3
      obtain ⟨rfl, rfl⟩ := k4
      refine ⟨fun j hj => ?_⟩
      have := World.var?_cell hg0 hv0 j
      rw [this]
      match j, hj with
      | 0, _ => rfl
      | 1, _ => rfl
      | 2, _ => rfl
      | 3, _ => rfl
      | 4, _ => rfl
      | 5, _ => rfl
      | 6, _ => rfl
      | 7, _ => rfl
      | 8, _ => rfl
      | 9, _ => rfl
end Go.Proofs.YtbbddeilbcpmiaaDoor.Q
