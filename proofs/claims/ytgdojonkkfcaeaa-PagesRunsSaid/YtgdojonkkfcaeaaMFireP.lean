/- What the ledger's map says of a must. -/
import Derived.Test.YtgdojonkkfcaeaaMNew
import Derived.Test.YtgdojonkkfcaeaaMValid
namespace Go.Proofs.Ytgdojonkkfcaeaa.Q
open Go.RowKit Go.Maps Go.Proofs.YtgdojonkkfcaeaaW.PrintWords Go.Proofs.YtgdojonkkfcaeaaW.PrintLast Go.Proofs.YtgdojonkkfcaeaaW.PrintMore
set_option linter.unusedVariables false
set_option linter.unusedSimpArgs false
namespace led
attribute [local instance] Classical.propDecidable
/-- Is the must paged (some true), undone (some false) or unknown (none)? -/
noncomputable def lastB (es : List S31) (kl : Lit) : Option Bool := es.foldl (fun a x => if keyP x = kl then some (x.f0 != 1) else a) none
theorem lastB_snoc (es : List S31) (x : S31) (kl : Lit) : lastB (es ++ [x]) kl = if keyP x = kl then some (x.f0 != 1) else lastB es kl := by
  unfold lastB
  rw [List.foldl_append]
  rfl
theorem snoc_ind {motive : List S31 → Prop} (h0 : motive []) (h1 : ∀ es x, motive es → motive (es ++ [x])) (es : List S31) : motive es := by
  rw [← List.reverse_reverse es]
  induction es.reverse with
  | nil => exact h0
  | cons x xs ih => rw [List.reverse_cons]; exact h1 _ _ ih
theorem pb_inv {v : Value} {b : Bool} {ps : List MemPlace} (h : plainElem (H := Unit) Try.prog 4 v = some (.lit (.bool b), ps)) : v = .bool b := by
  have u := Try.underlying4
  unfold plainElem at h
  simp only [u] at h
  cases v with
  | bool x => simp at h; rw [h.1]
  | _ => simp at h
theorem isKey (x : S31) : WideAt.IsKeyLit (keyP x) := trivial
theorem isMap_mapOf (es : List S31) : IsMap (mapOf es) := by
  induction es using snoc_ind with
  | h0 => exact isMap_empty
  | h1 es x ih => rw [mapOf_snoc]; exact ih.put _ _
theorem has_mapOf (es : List S31) (kl : Lit) : Maps.has (mapOf es) kl = (lastB es kl).isSome := by
  induction es using snoc_ind with
  | h0 => rfl
  | h1 es x ih =>
    rw [mapOf_snoc, lastB_snoc]
    by_cases h : keyP x = kl
    · rw [if_pos h, ← h, has_put_same (isMap_mapOf es) (isKey x)]; rfl
    · rw [if_neg h, has_put_other (fun e => h e.symm), ih]
theorem at_mapOf (es : List S31) (kl : Lit) (z : DataW Unit) : (mapOf es).atKey kl z = match lastB es kl with | some b => .lit (.bool b) | none => z := by
  induction es using snoc_ind with
  | h0 => rfl
  | h1 es x ih =>
    rw [mapOf_snoc, lastB_snoc]
    by_cases h : keyP x = kl
    · rw [if_pos h, ← h, atKey_put_same (isMap_mapOf es) (isKey x)]
    · rw [if_neg h, atKey_put_other (fun e => h e.symm), ih]
theorem led_below {W W' : World} {base p : Nat} {S : Nat → Prop} {es : List S31} (h : Led W base p S es) (hb : Below W.heap.size W W') : Led W' base p S es := by
  obtain ⟨bm, hp, h1, h2, h3, h4, hR, hM⟩ := h
  have hp' := blk_below hp hb
  have e : tgc W' p 0 = tgc W p 0 := by
    rw [tgc, show W'.cell? ⟨p, 0, none⟩ = some (tgc W p 0) from (blk_cell hp' 0).trans rfl]; rfl
  exact ⟨bm, by rw [e]; exact hp', h1, h2, h3, h4, by rw [e]; exact Kd.R_below hR hb, hM.kept (grown_of hb) (by simp)⟩
/-- The look-up, at this ledger's map. -/
theorem look {w : World} {bm n : Nat} {es : List S31} (hM : w.ownsMap Try.prog 66 (plainElem (H := Unit) Try.prog 4) bm n (mapOf es)) {key : Value} {kl : Lit} (hk : keyOf Try.prog 66 key = some kl) (b : Bool) :
    (Instr.lookup 67 (.map (some bm)) key true).run Try.prog w = .ok (.tuple #[.bool ((lastB es kl).getD false), .bool (lastB es kl).isSome]) w := by
  have hz : ∀ w, (zeroValue 4).run Try.prog w = .ok (.bool false) w := fun w => Try.zeroValue4 w
  obtain ⟨v, ps, hrun, hv⟩ := hM.look_ok law Try.underlying67 (hz w) (plainElem_bool Try.underlying4 false) hk
  rw [hrun, has_mapOf]
  rw [at_mapOf] at hv
  have e : v = .bool ((lastB es kl).getD false) := by
    cases hl : lastB es kl with
    | none => rw [hl] at hv; simp only at hv; exact pb_inv hv
    | some b => rw [hl] at hv; simp only at hv; exact pb_inv hv
  rw [e]
end led
end Go.Proofs.Ytgdojonkkfcaeaa.Q
