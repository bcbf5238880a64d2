/- Between the print's word for a row of one's own (Kd.R) and the sort's words (HoldsK, sortWorldK): both ways, for elements that lead to no rows. -/
import Derived.Test.YtbbddeilbcpmiaaDoorWordsA
import Derived.Shelf.SlSortCmp.SmallK
namespace Go.Proofs.YtbbddeilbcpmiaaDoor.Q
open Go.RowKit Go.Sort Go.Proofs.YtbbddeilbcpmiaaDoorW.PrintWords
set_option linter.unusedVariables false
set_option linter.unusedSimpArgs false
theorem flat_get? {α : Type} [Inhabited α] (enc : α → List Value) (k : Nat) (d : Array α) (t : Nat) : (flatK enc k d).toList[t]? = if t < d.size * k then some ((enc d[t / k]!)[t % k]!) else none := by
  by_cases h : t < d.size * k
  · rw [if_pos h]
    have h2 : t < (flatK enc k d).size := by simpa using h
    rw [Array.getElem?_toList, Array.getElem?_eq_getElem h2]
    have := get_flatK enc k d t h
    rw [getElem!_pos _ t h2] at this
    rw [this]
  · rw [if_neg h]
    simp
    omega
theorem flat_seg {α : Type} [Inhabited α] (enc : α → List Value) (k : Nat) (hk : ∀ x, (enc x).length = k) (d : Array α) (j : Nat) (hj : j < d.size) : (((flatK enc k d).toList.drop (j * k)).take k) = enc d[j]! := by
  have hjk : j * k + k ≤ d.size * k := by
    have := Nat.mul_le_mul_right k (show j + 1 ≤ d.size from hj)
    rwa [Nat.add_mul, Nat.one_mul] at this
  apply List.ext_getElem?
  intro t
  rw [List.getElem?_take]
  by_cases ht : t < k
  · rw [if_pos ht, List.getElem?_drop, flat_get?, if_pos (by omega)]
    have k0 : 0 < k := by omega
    have e1 : (j * k + t) / k = j := (blk_iff k j _ k0).1 ⟨by omega, by omega⟩
    have e2 : (j * k + t) % k = t := by rw [Nat.mod_eq_sub_div_mul, e1]; omega
    rw [e1, e2]
    have hl : t < (enc d[j]!).length := by rw [hk]; exact ht
    rw [List.getElem?_eq_getElem hl, getElem!_pos _ t hl]
  · rw [if_neg ht, List.getElem?_eq_none (by rw [hk]; omega)]
theorem inner_flat {α : Type} [Inhabited α] {d : Kd α} {enc : α → List Value} (hk : ∀ x, (enc x).length = d.sz) {w : World} {base : Nat} {ok : Nat → Prop} {l : List α} {inner : List Value} (hM : ∀ x cs, d.M w base ok x cs → cs = enc x)
    (h : Reps (d.M w base ok) d.sz l inner) : inner = (flatK enc d.sz l.toArray).toList := by
  obtain ⟨h1, h2⟩ := h
  apply List.ext_getElem?
  intro t
  rw [flat_get?]
  by_cases ht : t < l.toArray.size * d.sz
  · rw [if_pos ht]
    have ht' : t < l.length * d.sz := by simpa using ht
    have k0 : 0 < d.sz := by
      rcases Nat.eq_zero_or_pos d.sz with e | e
      · rw [e] at ht'; simp at ht'
      · exact e
    have hj : t / d.sz < l.length := (Nat.div_lt_iff_lt_mul k0).2 ht'
    have h3 := hM _ _ (h2 (t / d.sz) _ (List.getElem?_eq_getElem hj))
    have hx : l.toArray[t / d.sz]! = l[t / d.sz] := by
      rw [getElem!_pos _ _ (by simpa using hj)]
      simp
    rw [hx]
    have hm : t % d.sz < d.sz := Nat.mod_lt _ k0
    have hl : t % d.sz < (enc l[t / d.sz]).length := by rw [hk]; exact hm
    have h4 : ((inner.drop (t / d.sz * d.sz)).take d.sz)[t % d.sz]? = (enc l[t / d.sz])[t % d.sz]? := by rw [h3]
    rw [List.getElem?_take, if_pos hm, List.getElem?_drop, Nat.div_add_mod', List.getElem?_eq_getElem hl] at h4
    rw [h4, getElem!_pos (enc l[t / d.sz]) (t % d.sz) hl]
  · rw [if_neg ht]
    have ht' : ¬ t < l.length * d.sz := by simpa using ht
    exact List.getElem?_eq_none (by omega)
/-- A row of one's own, in the sort's words. -/
theorem holdsK_of_R {α : Type} [Inhabited α] {d : Kd α} {enc : α → List Value} (hk : ∀ x, (enc x).length = d.sz) (hM : ∀ {w base ok} x cs, d.M w base ok x cs → cs = enc x) {w : World} {e base : Nat} {ok : Nat → Prop} {v : Value} {l : List α} (h : d.R e w base ok v l) :
    (v = .slice none 0 0 ∧ l = []) ∨ ∃ g c, v = .slice (some ⟨g, 0, none⟩) l.length c ∧ base ≤ g ∧ g < w.heap.size ∧ HoldsK enc d.sz w g 0 l.toArray := by
  obtain ⟨_, inner, ⟨h1, h2⟩, hr⟩ := h
  rcases h2 with ⟨rfl, h3⟩ | ⟨g, cap, cur, rfl, hb, hh, hc, hm, hs, hi⟩
  · exact .inl ⟨rfl, List.eq_nil_of_length_eq_zero h3⟩
  · refine .inr ⟨g, cap, rfl, hb, blk_lt hh, ?_⟩
    have hf := inner_flat hk (fun x cs => hM x cs) hr
    intro j hj
    rw [Nat.zero_add]
    refine ⟨?_, blk_frozen hh j⟩
    rw [blk_cell hh]
    have hj' : j < l.length * d.sz := by simpa using hj
    have e1 : inner[j]? = some ((flatK enc d.sz l.toArray)[j]!) := by
      rw [hf, flat_get?, if_pos (by simpa using hj'), get_flatK _ _ _ _ (by simpa using hj')]
    rw [← hi, List.getElem?_take, if_pos hj', Array.getElem?_toList] at e1
    exact e1
/-- .. and back: the row holds d', draws and new blocks behind it. -/
theorem R_of_sortK {α : Type} [Inhabited α] {d : Kd α} {enc : α → List Value} (hk : ∀ x, (enc x).length = d.sz) (hM : ∀ {w base ok} x cs, d.M w base ok x cs → cs = enc x) (hMk : ∀ {w base ok} x, d.M w base ok x (enc x)) {w : World} {e base : Nat} {ok : Nat → Prop} {g c : Nat} {l : List α} (h : d.R e w base ok (.slice (some ⟨g, 0, none⟩) l.length c) l) (n : Nat) (d' : Array α) (hd : d'.size = l.length) (os : Array Obj) :
    d.R e (sortWorldK enc d.sz w g 0 n d' os) base ok (.slice (some ⟨g, 0, none⟩) l.length c) d'.toList := by
  obtain ⟨h0, inner, ⟨h1, h2⟩, hr⟩ := h
  rcases h2 with ⟨h3, _⟩ | ⟨g', cap, cur, e1, hb, hh, hc, hm, hs, hi⟩
  · cases h3
  · obtain ⟨rfl, rfl⟩ : g = g' ∧ c = cap := by simpa using e1
    have hl : d'.toList.length = l.length := by simpa using hd
    refine ⟨h0, (flatK enc d.sz d').toList, ⟨by simp, .inr ⟨g, c, putCells id 0 (flatK enc d.sz d') cur, by rw [hl], hb, ?_, by rw [hl]; exact hc, hm, by simpa [putCells] using hs, ?_⟩⟩, by simp, fun j p hp => ?_⟩
    · have hlt : g < w.heap.size := blk_lt hh
      show ((putRowK enc d.sz (Sort.ahead w n) g 0 d').heap ++ os)[g]? = _
      have h5 : (putRowK enc d.sz (Sort.ahead w n) g 0 d').heap[g]? = some (.cells (putCells id 0 (flatK enc d.sz d') cur) e (0, 0)) := by
        show ((Sort.ahead w n).heap.modify g (onCells (putCells id 0 (flatK enc d.sz d'))))[g]? = _
        rw [Array.getElem?_modify, if_pos rfl]
        show Option.map _ (w.heap[g]?) = _
        rw [hh]
        rfl
      rw [Array.getElem?_append_left (Array.getElem?_eq_some_iff.1 h5).1, h5]
    · rw [hl]
      apply List.ext_getElem?
      intro t
      rw [List.getElem?_take]
      by_cases ht : t < l.length * d.sz
      · rw [if_pos ht, flat_get?, if_pos (by rw [hd]; exact ht)]
        have h6 : t < cur.size := by
          rw [hs]
          exact Nat.lt_of_lt_of_le ht (Nat.mul_le_mul_right _ hc)
        have h7 : t < (flatK enc d.sz d').size := by simp [hd]; exact ht
        simp only [putCells, Array.getElem?_toList, Array.getElem?_mapIdx, Array.getElem?_eq_getElem h6, Option.map_some, Nat.zero_le, true_and, Nat.zero_add, Nat.sub_zero]
        rw [if_pos h7, get_flatK _ _ _ _ (by rw [hd]; exact ht)]
        rfl
      · rw [if_neg ht, flat_get?, if_neg (by rw [hd]; exact ht)]
    · have hj : j < d'.size := by
        have := (List.getElem?_eq_some_iff.1 hp).1
        simpa using this
      rw [flat_seg enc d.sz hk d' j hj]
      have : d'[j]! = p := by
        rw [getElem!_pos _ j hj]
        have := (List.getElem?_eq_some_iff.1 hp).2
        simpa using this
      rw [this]
      exact hMk p
/-- What lay below the row stands behind the sort. -/
theorem below_sortK {α : Type} [Inhabited α] (enc : α → List Value) (k : Nat) {w0 w : World} {base g : Nat} (hb : Below base w0 w) (hg : base ≤ g) (hlt : g < w.heap.size) (n : Nat) (d' : Array α) (os : Array Obj) : Below base w0 (sortWorldK enc k w g 0 n d' os) := by
  have hsz : (putRowK enc k (Sort.ahead w n) g 0 d').heap.size = w.heap.size := by
    show ((Sort.ahead w n).heap.modify g _).size = _
    simp [Sort.ahead]
  refine ⟨hb.os, hb.tape, hb.output, ?_, fun i hi => ?_⟩
  · show w0.heap.size ≤ ((putRowK enc k (Sort.ahead w n) g 0 d').heap ++ os).size
    rw [Array.size_append, hsz]
    have := hb.size
    omega
  · rw [← hb.block i hi]
    show ((putRowK enc k (Sort.ahead w n) g 0 d').heap ++ os)[i]? = _
    rw [Array.getElem?_append_left (by rw [hsz]; have := hb.size; omega)]
    show ((Sort.ahead w n).heap.modify g _)[i]? = _
    rw [Array.getElem?_modify, if_neg (by omega)]
    rfl
end Go.Proofs.YtbbddeilbcpmiaaDoor.Q
