/- strings.Builder's WriteString at this program (its panicking way is cut off here), and labels.Text. -/
import Derived.Test.YtgdojonkkfcaeaaQ0
import Derived.Test.YtgdojonkkfcaeaaShelf
import Derived.Shelf.Strings.Builder1
import Derived.Outline
import Derived.Lib.Hide
namespace Go.Proofs.Ytgdojonkkfcaeaa.Q
open Go.RowKit Go.Proofs.YtgdojonkkfcaeaaW.PrintWords Go.Proofs.YtgdojonkkfcaeaaW.PrintLast Go.Proofs.YtgdojonkkfcaeaaW.PrintMore
set_option linter.unusedVariables false
set_option linter.unusedSimpArgs false
namespace tx
theorem sizeB : (Try.prog.info? 90).map (·.size) = some 2 := by kernel_rfl
theorem liesB : liesAt Try.prog Try.prog.depth 90 (2 / Try.prog.cellsOf 90) 0 90 1 = true := by kernel_rfl
set_option maxHeartbeats 1000000 in
set_option maxRecDepth 100000 in
theorem check_used (b : Nat) (w : World) (h0 : w.cell? ⟨b, 0, none⟩ = some (.pointer (some ⟨b, 0, none⟩))) :
    Calls Try.prog 76 #[.pointer (some ⟨b, 0, none⟩)] w fun e w' => e = .returned (.tuple #[]) ∧ w' = w := by
  obtain ⟨j, hj, _⟩ := Option.map_eq_some_iff.1 sizeB
  have u90 := run_underlying Try.underlying90; have u87 := run_underlying Try.underlying87
  go_enter Try.func76, Try.ntmps76
  go_wp2
  rw [Lib.run_neq_ptr_same w _ Try.underlying87 hj]
  go_wp2
  go_end0
  exact ⟨rfl, rfl⟩
set_option maxHeartbeats 1000000 in
set_option maxRecDepth 100000 in
theorem check_fresh (b : Nat) (w : World) (h0 : w.cell? ⟨b, 0, none⟩ = some (.pointer none)) (hsh : w.shape? b = some (90, 2)) (hfz : w.frozen? ⟨b, 0, none⟩ = false) :
    Calls Try.prog 76 #[.pointer (some ⟨b, 0, none⟩)] w fun e w' => e = .returned (.tuple #[]) ∧ w' = w.setCell ⟨b, 0, none⟩ (.pointer (some ⟨b, 0, none⟩)) := by
  obtain ⟨j, hj, hjs⟩ := Option.map_eq_some_iff.1 sizeB
  have u90 := run_underlying Try.underlying90; have u87 := run_underlying Try.underlying87
  go_enter Try.func76, Try.ntmps76
  go_wp2
  rw [Lib.run_to_unsafe w ⟨b, 0, none⟩ Try.underlying87 Try.underlying125 hj (by rw [hjs]; decide) hsh (Nat.zero_lt_succ 1)]
  simp only [Result.andThen]
  rw [Oper.upon_value]
  go_wp2
  rw [run_callFunc_extern Try.func93 (by kernel_rfl) (by kernel_rfl) (by kernel_rfl) (e := Extern.AbiNoEscape.same) (by kernel_rfl)]
  rw [Lib.run_noEscape]
  simp only [Result.andThen]
  rw [Oper.upon_value]
  go_wp2
  rw [Lib.run_from_unsafe w ⟨b, 0, none⟩ Try.underlying125 Try.underlying87 hj hsh liesB]
  simp only [Result.andThen]
  rw [Oper.upon_value]
  go_wp2
  go_end0
  exact ⟨rfl, rfl⟩
theorem check (B b : Nat) (bs : List Value) (w : World) (h : Lib.IsBuilder 90 5 B b bs w) :
    Calls Try.prog 76 #[.pointer (some ⟨b, 0, none⟩)] w fun e w' => e = .returned (.tuple #[]) ∧ (Lib.BuilderAt 90 5 B b (.pointer (some ⟨b, 0, none⟩)) bs w' ∧ Below B w w' ∧ ∀ g, g ≠ b → w'.heap[g]? = w.heap[g]?) := by
  rcases h with h | h
  · refine (check_fresh b w h.cell0 h.shape h.frozen0).mono ?_
    rintro e w' ⟨rfl, rfl⟩
    exact ⟨rfl, h.used _, (Below.refl B w).setCell (p := ⟨b, 0, none⟩) h.1 _, fun g hg => Below.heap_setCell w ⟨b, 0, none⟩ _ g hg⟩
  · refine (check_used b w h.cell0).mono ?_
    rintro e w' ⟨rfl, rfl⟩
    exact ⟨rfl, h, Below.refl B _, fun _ _ => rfl⟩
theorem infoB : (Try.prog.info? 5).map (fun i => (i.zero, i.size, i.bytes)) = some (some (.int .u8 0), 1, 1) := by kernel_rfl
set_option maxHeartbeats 1000000 in
set_option maxRecDepth 100000 in
theorem write (B b : Nat) (bs : List Value) (s : ByteArray) (w : World) (h : Lib.IsBuilder 90 5 B b bs w) (hlen : bs.length + s.size ≤ 140737488355328) (hBw : B ≤ w.heap.size) :
    Calls Try.prog 57 #[.pointer (some ⟨b, 0, none⟩), .string s] w fun e w' => e = .returned (.tuple #[.int .i64 s.size, .nilIface]) ∧ (Lib.BuilderAt 90 5 B b (.pointer (some ⟨b, 0, none⟩)) (bs ++ Lib.strCells s) w' ∧ Below B w w' ∧ ∀ g cs t, w.heap[g]? = some (.cells cs t (0, 0)) → t ≠ 5 → g ≠ b → w'.heap[g]? = some (.cells cs t (0, 0))) := by
  obtain ⟨i0, hi, hz0, hz1, hz2⟩ := info_parts infoB
  have u90 := run_underlying Try.underlying90; have u87 := run_underlying Try.underlying87; have u88 := run_underlying Try.underlying88
  go_enter Try.func57, Try.ntmps57
  go_wp2_with fail
  refine (check B b bs _ h).mono ?_
  rintro e w1 ⟨rfl, h1, hb1, hk1⟩
  obtain ⟨hB, v, hbk, hown, hne⟩ := h1
  have c0 : w1.cell? ⟨b, 0, none⟩ = some (.pointer (some ⟨b, 0, none⟩)) := by rw [Lib.cell_of_heap hbk]; rfl
  have c1 : w1.cell? ⟨b, 1, none⟩ = some v := by rw [Lib.cell_of_heap hbk]; rfl
  go_wp2_with (at_builtin; refine Lib.wpList_append_own_string _ rfl _ _ 88 9 rfl B 5 i0 Try.underlying88 Try.underlying9 hi hz0 hz1 hz2 _ _ _ rfl hown s rfl ?c3 ?c4 ?c5 ?_)
  case c3 => unfold maxLen; omega
  case c4 => omega
  case c5 => have := hb1.size; omega
  intro v' w2 hown' hgrow _
  have hlt : b < w1.heap.size := by
    rcases Nat.lt_or_ge b w1.heap.size with h' | h'
    · exact h'
    · simp [Array.getElem?_eq_none h'] at hbk
  have hb2 : w2.heap[b]? = some (.cells #[.pointer (some ⟨b, 0, none⟩), v] 90 (0, 0)) := by
    rw [hgrow.block b hlt (fun e => hne e.symm)]
    exact hbk
  have d0 : w2.cell? ⟨b, 0, none⟩ = some (.pointer (some ⟨b, 0, none⟩)) := by rw [Lib.cell_of_heap hb2]; rfl
  have d1 : w2.cell? ⟨b, 1, none⟩ = some v := by rw [Lib.cell_of_heap hb2]; rfl
  have f1 : w2.frozen? ⟨b, 1, none⟩ = false := Lib.frozen_of_heap hb2 1
  obtain ⟨ao, n', cap, rfl⟩ : ∃ ao n' cap, v' = .slice ao n' cap := by
    rcases hown'.2 with ⟨hv, _⟩ | ⟨g, cap, cur, hv, _⟩
    · exact ⟨_, _, _, hv⟩
    · exact ⟨_, _, _, hv⟩
  go_wp2
  go_ret2
  refine ⟨rfl, ?_, ?_, ?_⟩
  · exact Lib.BuilderAt.put (T := 90) (e := 5) hB hb2 (bs' := bs ++ Lib.strCells s) (by simpa [Lib.strCells_length] using hown') (by decide)
  · exact (hb1.grown hgrow (by have := hb1.size; omega) (fun k hk => (hown.lt k hk).1)).setCell (p := ⟨b, 1, none⟩) hB _
  · intro g cs t hg ht hne'
    rw [Below.heap_setCell _ ⟨b, 1, none⟩ _ g hne']
    have h1' : w1.heap[g]? = some (.cells cs t (0, 0)) := (hk1 g hne').trans hg
    rw [hgrow.block g (blk_lt h1') (fun e => by
      obtain ⟨cells, hc⟩ := own_typed hown g e.symm
      rw [hc] at h1'
      simp only [Option.some.injEq, Obj.cells.injEq] at h1'
      exact ht h1'.2.1.symm)]
    exact h1'
theorem writeL {b : Nat} {L : List UInt8} (s : ByteArray) (w : World) (h : Lib.IsBuilder 90 5 b b (Lib.byteCells L) w) (hlen : L.length + s.size ≤ 100000) :
    Calls Try.prog 57 #[.pointer (some ⟨b, 0, none⟩), .string s] w fun e w' => e = .returned (.tuple #[.int .i64 s.size, .nilIface]) ∧ Lib.IsBuilder 90 5 b b (Lib.byteCells (L ++ s.data.toList)) w' ∧ Below b w w' ∧ ∀ g cs t, w.heap[g]? = some (.cells cs t (0, 0)) → t ≠ 5 → g ≠ b → w'.heap[g]? = some (.cells cs t (0, 0)) := by
  have hlt : b < w.heap.size := by rcases h with h | h <;> exact h.lt
  refine (write b b _ s w h (by rw [Lib.byteCells_length]; omega) (Nat.le_of_lt hlt)).mono ?_
  rintro e w' ⟨rfl, h1, h2, h3⟩
  rw [Lib.strCells_eq, ← Lib.byteCells_append] at h1
  exact ⟨rfl, .inr h1, h2, h3⟩
/-- One label's text. -/
def el (x : S54) : ByteArray := x.f0 ++ ⟨#[61, 34]⟩ ++ x.f1 ++ ⟨#[34]⟩
def txTo (l : List S54) : Nat → List UInt8
  | 0 => []
  | k + 1 => txTo l k ++ (if k = 0 then [] else [44]) ++ (el (rd_T54 l k)).data.toList
/-- labels.Text. -/
def textB (l : List S54) : ByteArray := ⟨#[123]⟩ ++ ⟨(txTo l l.length).toArray⟩ ++ ⟨#[125]⟩
theorem isb_below {T e : TypeId} {B b : Nat} {bs : List Value} {w w' : World} (h : Lib.IsBuilder T e B b bs w) (hb : Below w.heap.size w w') : Lib.IsBuilder T e B b bs w' := by
  have key : ∀ p, Lib.BuilderAt T e B b p bs w → Lib.BuilderAt T e B b p bs w' := by
    rintro p ⟨h1, v, h2, h3, h4⟩
    exact ⟨h1, v, (hb.block b (blk_lt h2)).trans h2, own_move h3 (fun k hk => hb.block k (h3.lt k hk).2), h4⟩
  rcases h with h | h
  · exact .inl (key _ h)
  · exact .inr (key _ h)
theorem size_el (x : S54) (h0 : x.f0.size ≤ 16) (h1 : x.f1.size ≤ 16) : (el x).size ≤ 35 := by
  unfold el
  simp only [ByteArray.size_append]
  show x.f0.size + 2 + x.f1.size + 1 ≤ 35
  omega
theorem rd_mem {l : List S54} {k : Nat} (h : k < l.length) : rd_T54 l k ∈ l := by
  unfold rd_T54
  rw [Int.toNat_natCast, List.getD_eq_getElem?_getD, List.getElem?_eq_getElem h]
  exact List.getElem_mem h
theorem len_tx (l : List S54) (hx : ∀ x ∈ l, x.f0.size ≤ 16 ∧ x.f1.size ≤ 16) : ∀ k, k ≤ l.length → (txTo l k).length ≤ 36 * k
  | 0, _ => by simp [txTo]
  | k + 1, h => by
    have := len_tx l hx k (by omega)
    have h2 := hx _ (rd_mem (l := l) (k := k) (by omega))
    have h3 := size_el _ h2.1 h2.2
    have h4 : (if k = 0 then ([] : List UInt8) else [44]).length ≤ 1 := by split <;> simp
    simp only [txTo, List.length_append]
    have h5 : (el (rd_T54 l k)).data.toList.length = (el (rd_T54 l k)).size := rfl
    omega
end tx
end Go.Proofs.Ytgdojonkkfcaeaa.Q
