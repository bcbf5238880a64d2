/- What Amend comes to, in plain lists. -/
import Derived.Test.YtgdojonkkfcaeaaMAm
namespace Go.Proofs.Ytgdojonkkfcaeaa.Q
open Go.RowKit Go.Maps Go.Proofs.YtgdojonkkfcaeaaW.PrintWords Go.Proofs.YtgdojonkkfcaeaaW.PrintLast Go.Proofs.YtgdojonkkfcaeaaW.PrintMore
set_option linter.unusedVariables false
set_option linter.unusedSimpArgs false
namespace led
set_option linter.unusedSectionVars false
attribute [local instance] Classical.propDecidable
theorem snoc_indI {motive : List Int → Prop} (h0 : motive []) (h1 : ∀ es x, motive es → motive (es ++ [x])) (es : List Int) : motive es := by
  rw [← List.reverse_reverse es]
  induction es.reverse with
  | nil => exact h0
  | cons x xs ih => rw [List.reverse_cons]; exact h1 _ _ ih
section
variable {r : ByteArray} {v : Int} {l : List S54} {sent : Int} {ss : List Int}
theorem keyP_amX (t : Int) : keyP (amX r v l sent ss t) = keyL r v (tx.textB l) t := rfl
theorem amX_kind (t : Int) : ((amX r v l sent ss t).f0 != 1) = ss.contains t := by
  unfold amX
  cases ss.contains t <;> rfl
variable (hrs : r.size ≤ maxLen) (hv : (Lit.int .i64 v).wf = true) (ht : (tx.textB l).size ≤ maxLen)
include hrs hv ht
theorem key_ne {s t : Int} (hs : (Lit.int .i64 s).wf = true) (hwt : (Lit.int .i64 t).wf = true) (h : s ≠ t) : keyL r v (tx.textB l) s ≠ keyL r v (tx.textB l) t := fun e => h (keyL_inj hrs hv ht hs hrs hv ht hwt e).2.2.2
theorem lastB_amX (es : List S31) {us : List Int} (hu : ∀ t ∈ us, (Lit.int .i64 t).wf = true) {s : Int} (hs : (Lit.int .i64 s).wf = true) : lastB (es ++ us.map (amX r v l sent ss)) (keyL r v (tx.textB l) s) = if s ∈ us then some (ss.contains s) else lastB es (keyL r v (tx.textB l) s) := by
  induction us using snoc_indI with
  | h0 => simp
  | h1 us t ih =>
    rw [List.map_append, ← List.append_assoc, List.map_cons, List.map_nil, lastB_snoc, keyP_amX, amX_kind, ih (fun t ht => hu t (by simp [ht]))]
    by_cases h : s = t
    · subst h
      rw [if_pos rfl, if_pos (by simp)]
    · rw [if_neg (fun e => key_ne hrs hv ht (hu t (by simp)) hs (fun e => h e.symm) e)]
      simp [h]
theorem paged_amX (es : List S31) {t s : Int} (hwt : (Lit.int .i64 t).wf = true) (hs : (Lit.int .i64 s).wf = true) (h : s ≠ t) : pagedB (es ++ [amX r v l sent ss t]) r v l s = pagedB es r v l s := by
  have h2 := lastB_amX (sent := sent) (ss := ss) hrs hv ht es (us := [t]) (fun x hx => by simp at hx; rw [hx]; exact hwt) hs
  unfold pagedB
  rw [show es ++ [amX r v l sent ss t] = es ++ [t].map (amX r v l sent ss) from rfl, h2, if_neg (by simp [h])]
/-- The starts that change. -/
noncomputable def amF (es : List S31) (r : ByteArray) (v : Int) (l : List S54) (ss ts : List Int) : List Int := ts.filter fun t => pagedB es r v l t != ss.contains t
omit hrs hv ht in
theorem mem_amF {es : List S31} {ts : List Int} {t : Int} : t ∈ amF es r v l ss ts ↔ t ∈ ts ∧ pagedB es r v l t ≠ ss.contains t := by
  unfold amF
  rw [List.mem_filter, bne_iff_ne]
theorem amRun_go : ∀ (ts : List Int) (es out : List S31), ts.Nodup → (∀ t ∈ ts, (Lit.int .i64 t).wf = true) → ts.foldl (amStep r v l sent ss) (es, out) = (es ++ (amF es r v l ss ts).map (amX r v l sent ss), out ++ (amF es r v l ss ts).map (amX r v l sent ss))
  | [], es, out, _, _ => by simp [amF]
  | t :: ts, es, out, hn, hw => by
    rw [List.nodup_cons] at hn
    rw [List.foldl_cons]
    have hc : ∀ es', (∀ s ∈ ts, pagedB es' r v l s = pagedB es r v l s) → amF es' r v l ss ts = amF es r v l ss ts := fun es' h => by
      unfold amF
      exact List.filter_congr (fun s hs => by rw [h s hs])
    by_cases h : pagedB es r v l t = ss.contains t
    · have e : amStep r v l sent ss (es, out) t = (es, out) := by unfold amStep; rw [if_pos h]
      have e2 : amF es r v l ss (t :: ts) = amF es r v l ss ts := by unfold amF; rw [List.filter_cons_of_neg (by simp [h])]
      rw [e, amRun_go ts es out hn.2 (fun s hs => hw s (List.mem_cons_of_mem _ hs)), e2]
    · have e : amStep r v l sent ss (es, out) t = (es ++ [amX r v l sent ss t], out ++ [amX r v l sent ss t]) := by unfold amStep; rw [if_neg h]
      have e2 : amF es r v l ss (t :: ts) = t :: amF es r v l ss ts := by unfold amF; rw [List.filter_cons_of_pos (by simpa using h)]
      have e3 : amF (es ++ [amX r v l sent ss t]) r v l ss ts = amF es r v l ss ts := hc _ (fun s hs => paged_amX hrs hv ht es (hw t (by simp)) (hw s (List.mem_cons_of_mem _ hs)) (fun e => hn.1 (e ▸ hs)))
      rw [e, amRun_go ts _ _ hn.2 (fun s hs => hw s (List.mem_cons_of_mem _ hs)), e2, e3]
      simp
end
section
variable {es : List S31} {b : Bool} {r : ByteArray} {v : Int} {l : List S54} {sent : Int} {ss zs : List Int}
theorem inc_amTs : (amTs zs ss).Pairwise (· < ·) := si.inc_compact _ (si.sorted_sortI _)
theorem nodup_of_inc {l : List Int} (h : l.Pairwise (· < ·)) : l.Nodup := List.nodup_iff_pairwise_ne.2 (h.imp (fun h => by omega))
theorem mem_amTs {s : Int} : s ∈ amTs zs ss ↔ s ∈ zs ∨ s ∈ ss := by unfold amTs; rw [si.mem_compact, si.mem_sortI, List.mem_append]
theorem amOK_ticks (h : amOK b r v sent ss = true) : ∀ t ∈ ss, (Lit.int .i64 t).wf = true := fun t ht => by
  unfold amOK at h
  rw [Bool.and_eq_true, List.all_eq_true] at h
  exact tick_wf (h.1 t ht)
theorem amOK_parts (h : amOK b r v sent ss = true) : r.size ≤ 16 ∧ b = true ∧ 1 ≤ v := by
  unfold amOK okB nameB at h
  simp only [Bool.and_eq_true, decide_eq_true_eq] at h
  obtain ⟨_, ⟨⟨⟨⟨⟨⟨_, h1⟩, _⟩, h2⟩, h3⟩, _⟩, _⟩, _⟩ := h
  exact ⟨h1, h3, h2⟩
variable (hrs : r.size ≤ maxLen) (hv : (Lit.int .i64 v).wf = true) (ht : (tx.textB l).size ≤ maxLen) (hz : Vals es r v (tx.textB l) zs) (hok : amOK b r v sent ss = true)
include hrs hv ht hz hok
theorem wf_amTs : ∀ t ∈ amTs zs ss, (Lit.int .i64 t).wf = true := fun t h => by
  rcases mem_amTs.1 h with h | h
  · exact ((hz.2 t).1 h).1
  · exact amOK_ticks hok t h
theorem amRun_eq : amRun es r v l sent ss (amTs zs ss) = (es ++ (amF es r v l ss (amTs zs ss)).map (amX r v l sent ss), (amF es r v l ss (amTs zs ss)).map (amX r v l sent ss)) := by
  unfold amRun
  rw [amRun_go hrs hv ht (amTs zs ss) es [] (nodup_of_inc inc_amTs) (wf_amTs hrs hv ht hz hok), List.nil_append]
theorem amOut_eq : amOut es b r v l sent ss zs = (amF es r v l ss (amTs zs ss)).map (amX r v l sent ss) := by
  unfold amOut
  rw [if_pos hok, amRun_eq hrs hv ht hz hok]
theorem amEs_eq : amEs es b r v l sent ss zs = es ++ (amF es r v l ss (amTs zs ss)).map (amX r v l sent ss) := by
  unfold amEs
  rw [if_pos hok, amRun_eq hrs hv ht hz hok]
omit hrs hv ht hok in
theorem paged_iff {s : Int} (hs : (Lit.int .i64 s).wf = true) : pagedB es r v l s = zs.contains s := by
  rw [Bool.eq_iff_iff, List.contains_iff_mem, hz.2 s]
  unfold pagedB Pg
  constructor
  · intro h
    cases hl : lastB es (keyL r v (tx.textB l) s) with
    | none => rw [hl] at h; cases h
    | some b => rw [hl] at h; simp at h; exact ⟨hs, by rw [h]⟩
  · rintro ⟨_, h⟩
    rw [h]; rfl
theorem mem_amF_ts {s : Int} : s ∈ amF es r v l ss (amTs zs ss) ↔ (s ∈ zs ∧ s ∉ ss) ∨ (s ∉ zs ∧ s ∈ ss) := by
  rw [mem_amF, mem_amTs]
  constructor
  · rintro ⟨h, hne⟩
    have hs := wf_amTs hrs hv ht hz hok s (mem_amTs.2 h)
    rw [paged_iff hz hs] at hne
    by_cases h1 : s ∈ zs
    · by_cases h2 : s ∈ ss
      · rw [List.contains_iff_mem.2 h1, List.contains_iff_mem.2 h2] at hne; exact absurd rfl hne
      · exact .inl ⟨h1, h2⟩
    · exact .inr ⟨h1, h.resolve_left h1⟩
  · intro h
    have h0 : s ∈ zs ∨ s ∈ ss := by exact h.imp (fun h => h.1) (fun h => h.2)
    have hs := wf_amTs hrs hv ht hz hok s (mem_amTs.2 h0)
    refine ⟨h0, ?_⟩
    rw [paged_iff hz hs]
    rcases h with ⟨h1, h2⟩ | ⟨h1, h2⟩
    · rw [List.contains_iff_mem.2 h1, show ss.contains s = false from by simpa using h2]; simp
    · rw [List.contains_iff_mem.2 h2, show zs.contains s = false from by simpa using h1]; simp
/-- What the map says behind Amend, of this must. -/
theorem lastB_amEs {s : Int} (hs : (Lit.int .i64 s).wf = true) : lastB (amEs es b r v l sent ss zs) (keyL r v (tx.textB l) s) = if s ∈ amF es r v l ss (amTs zs ss) then some (ss.contains s) else lastB es (keyL r v (tx.textB l) s) := by
  rw [amEs_eq hrs hv ht hz hok]
  exact lastB_amX hrs hv ht es (fun t h => wf_amTs hrs hv ht hz hok t (mem_amF.1 h).1) hs
/-- Behind Amend the starts that are paged are those given. -/
theorem vals_amEs : Vals (amEs es b r v l sent ss zs) r v (tx.textB l) (Lib.compact (si.sortI ss)) := by
  refine ⟨si.inc_compact _ (si.sorted_sortI _), fun s => ?_⟩
  rw [si.mem_compact, si.mem_sortI]
  unfold Pg
  constructor
  · intro h
    have hs := amOK_ticks hok s h
    refine ⟨hs, ?_⟩
    rw [lastB_amEs hrs hv ht hz hok hs]
    by_cases hF : s ∈ amF es r v l ss (amTs zs ss)
    · rw [if_pos hF, List.contains_iff_mem.2 h]
    · rw [if_neg hF]
      rw [mem_amF_ts hrs hv ht hz hok] at hF
      have hzs : s ∈ zs := Classical.byContradiction fun h2 => hF (.inr ⟨h2, h⟩)
      exact ((hz.2 s).1 hzs).2
  · rintro ⟨hs, h⟩
    rw [lastB_amEs hrs hv ht hz hok hs] at h
    by_cases hF : s ∈ amF es r v l ss (amTs zs ss)
    · rw [if_pos hF] at h
      exact List.contains_iff_mem.1 (Option.some.inj h)
    · rw [if_neg hF] at h
      have hzs := (hz.2 s).2 ⟨hs, h⟩
      rw [mem_amF_ts hrs hv ht hz hok] at hF
      exact Classical.byContradiction fun h2 => hF (.inl ⟨hzs, h2⟩)
theorem mem_amOut {x : S31} : x ∈ amOut es b r v l sent ss zs → ∃ t, x = amX r v l sent ss t ∧ ((t ∈ zs ∧ t ∉ ss) ∨ (t ∉ zs ∧ t ∈ ss)) := fun h => by
  rw [amOut_eq hrs hv ht hz hok] at h
  obtain ⟨t, h1, rfl⟩ := List.mem_map.1 h
  exact ⟨t, rfl, (mem_amF_ts hrs hv ht hz hok).1 h1⟩
end
end led
end Go.Proofs.Ytgdojonkkfcaeaa.Q
