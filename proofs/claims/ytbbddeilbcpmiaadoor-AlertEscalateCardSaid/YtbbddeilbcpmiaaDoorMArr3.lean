/- An array of three ints as an argument of a law: taken apart, and put together. -/
import Derived.Laws.IdiomArrays
import Derived.OpenShut
import Derived.WideKeyArr2
import Derived.SizedLaws
namespace Go.Proofs.YtbbddeilbcpmiaaDoor.Arr3
open Go.ChangeShapes Go.WideShapes Go.RowKit
variable {H : Type} {enc : TypeId × Value → H} {P : Program} {w : World} {base : Nat} {sp : Nat → Bool} {held : Bool}
theorem open_arr3 {r : Reach} {b0 : Nat} {t e : TypeId} {q : IntKind} {v : Value} {d : DataW H} {p : List MemPlace} (ht : P.underlying t = some (.array 3 e)) (he : P.underlying e = some (.int q)) (hce : P.cellsOf e = 1) (hct : P.cellsOf t = 3)
    (hv : Value.okWide P w r b0 t v) (h : DataW.Trod enc P w base sp held t v d p) :
    ∃ x y z : Int, v = .agg #[.int q x, .int q y, .int q z] ∧ d = .agg [.lit (.int q x), .lit (.int q y), .lit (.int q z)] ∧ p = [] ∧ (Lit.int q x).wf = true ∧ (Lit.int q y).wf = true ∧ (Lit.int q z).wf = true := by
  obtain ⟨cs, rfl, hs⟩ : ∃ cs : Array Value, v = .agg cs ∧ cs.size = 3 := by
    simp only [Value.okWide, ht] at hv
    obtain ⟨cs, h1, h2, _⟩ := hv
    exact ⟨cs, h1, by rw [h2, hct]⟩
  obtain ⟨c0, c1, c2, rfl⟩ : ∃ c0 c1 c2, cs = #[c0, c1, c2] := by
    rcases cs with ⟨l⟩
    match l, hs with
    | [a, b, c], _ => exact ⟨a, b, c, rfl⟩
  obtain ⟨fuel, hf⟩ := h
  obtain ⟨y0, y1, y2, n, e1, h0, h1, h2⟩ := trod_array3 ht hce hf
  obtain ⟨x, ex, rfl, wx⟩ := DataW.trod_int he h0
  obtain ⟨y, ey, rfl, wy⟩ := DataW.trod_int he h1
  obtain ⟨z, ez, rfl, wz⟩ := DataW.trod_int he h2
  injection e1 with e2 e3
  injection ex with ex; injection ey with ey; injection ez with ez
  exact ⟨x, y, z, by rw [ex, ey, ez], by rw [e2], by rw [e3]; rfl, wx, wy, wz⟩
theorem shut_arr3 {t e : TypeId} {q : IntKind} {x y z : Int} (ht : P.underlying t = some (.array 3 e)) (he : P.underlying e = some (.int q)) (hce : P.cellsOf e = 1) (hct : P.cellsOf t = 3) (wx : (Lit.int q x).wf = true) (wy : (Lit.int q y).wf = true) (wz : (Lit.int q z).wf = true) :
    DataW.Trod enc P w base sp held t (.agg #[.int q x, .int q y, .int q z]) (.agg [.lit (.int q x), .lit (.int q y), .lit (.int q z)]) [] := by
  refine ⟨2, ?_⟩
  have r3 : List.range 3 = [0, 1, 2] := rfl
  have one : ∀ {a : Int}, (Lit.int q a).wf = true → DataW.trod enc P w base sp held 1 e [.int q a] = some (.lit (.int q a), []) := by
    intro a wa
    simp [DataW.trod, he, wa]
  unfold DataW.trod
  rw [ht]
  simp [Value.cells, hct, r3, hce, one wx, one wy, one wz]
end Go.Proofs.YtbbddeilbcpmiaaDoor.Arr3
