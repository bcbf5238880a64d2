/- slices.Sort, slices.Compact and slices.Contains over a row of ints of one's own. -/
import Derived.Test.YtgdojonkkfcaeaaMLab
namespace Go.Proofs.Ytgdojonkkfcaeaa.Q
open Go.RowKit Go.Sort Go.Proofs.YtgdojonkkfcaeaaW.PrintWords Go.Proofs.YtgdojonkkfcaeaaW.PrintLast Go.Proofs.YtgdojonkkfcaeaaW.PrintMore
set_option linter.unusedVariables false
set_option linter.unusedSimpArgs false
namespace si
def encI (x : Int) : List Value := [.int .i64 x]
theorem put1 (d : Array Int) (off : Nat) (c : Array Value) : putCells (Value.int .i64) off d c = putCells id off (flatK encI 1 d) c := by
  unfold putCells
  apply Array.ext_getElem?
  intro i
  simp only [Array.getElem?_mapIdx, size_flatK, Nat.mul_one]
  cases c[i]? with
  | none => rfl
  | some x =>
    simp only [Option.map_some]
    by_cases h : off ≤ i ∧ i < off + d.size
    · rw [if_pos h, if_pos h]
      show some _ = some ((flatK encI 1 d)[i - off]!)
      rw [get_flatK _ _ _ _ (by omega)]
      simp [encI, Nat.mod_one]
    · rw [if_neg h, if_neg h]
theorem world1 (w : World) (blk off n : Nat) (d : Array Int) (os : Array Obj) : grow (putRow (Value.int .i64) (Sort.ahead w n) blk off d) os = sortWorldK encI 1 w blk off n d os := by
  unfold sortWorldK putRowK putRow
  have : (putCells (Value.int .i64) off d) = putCells id off (flatK encI 1 d) := funext (put1 d off)
  rw [this]
theorem grown_sortK {α : Type} [Inhabited α] (enc : α → List Value) (k : Nat) {w : World} {g : Nat} (hlt : g < w.heap.size) (n : Nat) (d' : Array α) (os : Array Obj) : w.grownBy (sortWorldK enc k w g 0 n d' os) (some g) := by
  have hsz : (putRowK enc k (Sort.ahead w n) g 0 d').heap.size = w.heap.size := by
    show ((Sort.ahead w n).heap.modify g _).size = _
    simp [Sort.ahead]
  refine ⟨rfl, rfl, rfl, ?_, fun i hi hne => ?_⟩
  · show w.heap.size ≤ ((putRowK enc k (Sort.ahead w n) g 0 d').heap ++ os).size
    rw [Array.size_append, hsz]
    omega
  · show ((putRowK enc k (Sort.ahead w n) g 0 d').heap ++ os)[i]? = _
    rw [Array.getElem?_append_left (by rw [hsz]; exact hi)]
    show ((Sort.ahead w n).heap.modify g _)[i]? = _
    rw [Array.getElem?_modify, if_neg (fun e => hne (by rw [e]))]
    rfl
theorem M_int {w : World} {base : Nat} {ok : Nat → Prop} (x : Int) (cs : List Value) (h : (Kd.int .i64).M w base ok x cs) : cs = encI x := h
theorem int_M {w : World} {base : Nat} {ok : Nat → Prop} (x : Int) : (Kd.int .i64).M w base ok x (encI x) := rfl
/-- In increasing order. -/
def sortI (l : List Int) : List Int := l.mergeSort fun x y => decide (x ≤ y)
theorem sortI_length (l : List Int) : (sortI l).length = l.length := by simp [sortI]
theorem mem_sortI (l : List Int) (x : Int) : x ∈ sortI l ↔ x ∈ l := by simp [sortI]
theorem sorted_sortI (l : List Int) : (sortI l).Pairwise (· ≤ ·) := by
  have h := List.pairwise_mergeSort (le := fun x y : Int => decide (x ≤ y)) (by intro a b c; simp; omega) (by intro a b; simp; omega) l
  unfold sortI
  exact h.imp (fun h => by simpa using h)
theorem sort_int (v : Value) (l : List Int) (w0 w : World) (base : Nat) (ok : Nat → Prop) (HO : Kd.R (Kd.int .i64) 3 w base ok v l) (HB : Below base w0 w) (hl : l.length < 4611686018427387904) :
    Calls Try.prog 33 #[v] w fun e w' => e = .returned (.tuple #[]) ∧ Kd.R (Kd.int .i64) 3 w' base ok v (sortI l) ∧ Below base w0 w' ∧ w.grownBy w' v.ownBlock := by
  rcases holdsK_of_R (enc := encI) (fun _ => rfl) M_int HO with ⟨rfl, rfl⟩ | ⟨g, c, rfl, hg, hlt, hH⟩
  · refine (Try.slices_Sort_int_none _ _ _).mono ?_
    rintro e w' ⟨rfl, rfl⟩
    have e : sortI [] = [] := List.eq_nil_of_length_eq_zero (sortI_length [])
    exact ⟨rfl, by rw [e]; exact HO, HB, grown_of_below (Below.refl _ _) _⟩
  · have hH2 : Holds (Value.int .i64) w g 0 l.toArray := by
      intro j hj
      have h2 := hH j (by rw [size_flatK, show (Kd.int .i64).sz = 1 from rfl]; omega)
      have e : (flatK encI 1 l.toArray)[j]! = Value.int .i64 l.toArray[j]! := by
        rw [get_flatK _ _ _ _ (by omega)]
        simp [encI, Nat.mod_one]
      rw [show (Kd.int .i64).sz = 1 from rfl] at h2
      rw [e] at h2
      exact h2
    refine (Try.slices_Sort_int g 0 c l w hH2 hlt hl).mono ?_
    rintro e w' ⟨rfl, n, os, rfl⟩
    rw [world1]
    refine ⟨rfl, R_of_sortK (d := Kd.int .i64) (enc := encI) (fun _ => rfl) M_int int_M HO n (sortI l).toArray (by simpa using sortI_length l) os, below_sortK encI 1 HB hg hlt n _ os, grown_sortK encI 1 hlt n _ os⟩
end si
end Go.Proofs.Ytgdojonkkfcaeaa.Q
