/- pages.Ledger.Amend. -/
import Derived.Test.YtgdojonkkfcaeaaMAmP
namespace Go.Proofs.Ytgdojonkkfcaeaa.Q
open Go.RowKit Go.Maps Go.Proofs.YtgdojonkkfcaeaaW.PrintWords Go.Proofs.YtgdojonkkfcaeaaW.PrintLast Go.Proofs.YtgdojonkkfcaeaaW.PrintMore
set_option linter.unusedVariables false
set_option linter.unusedSimpArgs false
namespace led
/-- Is the must paged? -/
noncomputable def pagedB (es : List S31) (r : ByteArray) (v : Int) (l : List S54) (t : Int) : Bool := (lastB es (keyL r v (tx.textB l) t)).getD false
/-- The amendment for one start. -/
def amX (r : ByteArray) (v : Int) (l : List S54) (sent : Int) (ss : List Int) (t : Int) : S31 := ⟨if ss.contains t then 2 else 1, r, v, l, t, sent, ⟨#[]⟩⟩
/-- One start: the entries and the amendments behind it. -/
noncomputable def amStep (r : ByteArray) (v : Int) (l : List S54) (sent : Int) (ss : List Int) (st : List S31 × List S31) (t : Int) : List S31 × List S31 :=
  if pagedB st.1 r v l t = ss.contains t then st else (st.1 ++ [amX r v l sent ss t], st.2 ++ [amX r v l sent ss t])
noncomputable def amRun (es : List S31) (r : ByteArray) (v : Int) (l : List S54) (sent : Int) (ss ts : List Int) : List S31 × List S31 := ts.foldl (amStep r v l sent ss) (es, [])
/-- All starts that are paged or known. -/
def amTs (zs ss : List Int) : List Int := Lib.compact (si.sortI (zs ++ ss))
def amOK (b : Bool) (r : ByteArray) (v : Int) (sent : Int) (ss : List Int) : Bool := ss.all tickB && okB b r v 0 sent ⟨#[]⟩
/-- What Amend returns, and the entries behind it. -/
noncomputable def amOut (es : List S31) (b : Bool) (r : ByteArray) (v : Int) (l : List S54) (sent : Int) (ss zs : List Int) : List S31 := if amOK b r v sent ss = true then (amRun es r v l sent ss (amTs zs ss)).2 else []
noncomputable def amEs (es : List S31) (b : Bool) (r : ByteArray) (v : Int) (l : List S54) (sent : Int) (ss zs : List Int) : List S31 := if amOK b r v sent ss = true then (amRun es r v l sent ss (amTs zs ss)).1 else es
theorem tick_wf {t : Int} (h : tickB t = true) : (Lit.int .i64 t).wf = true := by
  unfold tickB at h
  simp only [Bool.and_eq_true, decide_eq_true_eq] at h
  have e1 : IntKind.i64.min = -9223372036854775808 := rfl
  have e2 : IntKind.i64.max = 9223372036854775807 := rfl
  simp [Lit.wf, e1, e2]
  omega
theorem all_upto {ss : List Int} (n : Nat) (h : ∀ j, j < n → tickB (ss.getD j 0) = true) (hn : ss.length ≤ n) : ss.all tickB = true := by
  rw [List.all_eq_true]
  intro x hx
  obtain ⟨j, hj, rfl⟩ := List.mem_iff_getElem.1 hx
  have := h j (by omega)
  rwa [List.getD_eq_getElem?_getD, List.getElem?_eq_getElem hj] at this
theorem no_all {ss : List Int} {j : Nat} (hj : j < ss.length) (h : tickB (ss.getD j 0) = false) : ss.all tickB = false := by
  rw [List.all_eq_false]
  rw [List.getD_eq_getElem?_getD, List.getElem?_eq_getElem hj] at h
  exact ⟨ss[j], List.getElem_mem hj, by simpa using h⟩
theorem led_bound {W : World} {base p : Nat} {S : Nat → Prop} {es : List S31} (h : Led W base p S es) : Led W base p (fun k => S k ∧ k < W.heap.size) es := by
  obtain ⟨bm, hp, h1, h2, h3, h4, hR, hM⟩ := h
  exact ⟨bm, hp, h1, ⟨h2, blk_lt hp⟩, h3, ⟨h4, hM.lt⟩, Kd.R_mono (Kd.R_bound hR) (fun k hk => ⟨hk.1, hk.2.2.1⟩), hM⟩
def AT18 : Bool × List (List Nat × List Nat) := (true,
  [([], []), ([0], [0]), ([1], [1]), ([2], [2]), ([], []), ([4], [4]), ([3, 5], [3, 5]), ([], []), ([], []),
    ([7, 8, 5], [7, 8]), ([6, 9, 0, 1, 2, 3, 4, 5, 6], [6]), ([9, 10, 0, 1, 2, 3, 4, 5, 6, 7, 8, 9, 10], [9])])
def AG18 : List Nat := [0, 1, 3, 7, 0, 16, 63, 0, 0, 432, 1023, 2047]
theorem atab18 : rtab .any (opsOf Try.f14 18) = AT18 := by kernel_rfl
theorem abits18 : waitsOk AT18.2 AG18 = true := by kernel_rfl
theorem keep8 {g p jj : Nat} {w w' : World} {c0 c1 c2 c3 c4 c5 c6 c7 : Value} {X X' : Prop} (h : w.cell? ⟨g, 0, none⟩ = some c0 ∧ w.cell? ⟨g, 1, none⟩ = some c1 ∧ w.cell? ⟨g, 2, none⟩ = some c2 ∧ w.cell? ⟨g, 3, none⟩ = some c3 ∧ w.cell? ⟨g, 4, none⟩ = some c4 ∧ w.cell? ⟨g, 5, none⟩ = some c5 ∧ w.cell? ⟨g, 6, none⟩ = some c6 ∧ w.cell? ⟨p, jj, none⟩ = some c7 ∧ X) (hb : Below w.heap.size w w') (hx : X') :
    w'.cell? ⟨g, 0, none⟩ = some c0 ∧ w'.cell? ⟨g, 1, none⟩ = some c1 ∧ w'.cell? ⟨g, 2, none⟩ = some c2 ∧ w'.cell? ⟨g, 3, none⟩ = some c3 ∧ w'.cell? ⟨g, 4, none⟩ = some c4 ∧ w'.cell? ⟨g, 5, none⟩ = some c5 ∧ w'.cell? ⟨g, 6, none⟩ = some c6 ∧ w'.cell? ⟨p, jj, none⟩ = some c7 ∧ X' := by
  obtain ⟨a0, a1, a2, a3, a4, a5, a6, a7, _⟩ := h
  exact ⟨pw_cell_below hb a0, pw_cell_below hb a1, pw_cell_below hb a2, pw_cell_below hb a3, pw_cell_below hb a4, pw_cell_below hb a5, pw_cell_below hb a6, pw_cell_below hb a7, hx⟩
theorem led_grown {W W' : World} {base p : Nat} {S : Nat → Prop} {es : List S31} {row : Option Nat} (h : Led W base p S es) (hg : W.grownBy W' row) (hr : ∀ k, row = some k → ¬ S k) : Led W' base p S es := by
  obtain ⟨bm, hp, h1, h2, h3, h4, hR, hM⟩ := h
  have hp' := blk_grown hp hg (fun e => hr _ e.symm h2)
  have e : tgc W' p 0 = tgc W p 0 := by
    rw [tgc, show W'.cell? ⟨p, 0, none⟩ = some (tgc W p 0) from (blk_cell hp' 0).trans rfl]; rfl
  exact ⟨bm, by rw [e]; exact hp', h1, h2, h3, h4, by rw [e]; exact Kd.R_grown hR hg (fun k hk e => hr _ e.symm hk), hM.kept hg (fun e => hr _ e.symm h4)⟩
theorem amRun_len (r : ByteArray) (v : Int) (l : List S54) (sent : Int) (ss : List Int) : ∀ (ts : List Int) (st : List S31 × List S31), (ts.foldl (amStep r v l sent ss) st).1.length ≤ st.1.length + ts.length ∧ (ts.foldl (amStep r v l sent ss) st).2.length ≤ st.2.length + ts.length
  | [], st => ⟨by simp, by simp⟩
  | t :: ts, st => by
    have h := amRun_len r v l sent ss ts (amStep r v l sent ss st t)
    have h2 : (amStep r v l sent ss st t).1.length ≤ st.1.length + 1 ∧ (amStep r v l sent ss st t).2.length ≤ st.2.length + 1 := by
      unfold amStep
      split <;> simp
    simp only [List.foldl_cons, List.length_cons]
    omega
/-- The look-up without 'ok', at this ledger's map. -/
theorem look1 {w : World} {bm n : Nat} {es : List S31} (hM : w.ownsMap Try.prog 66 (plainElem (H := Unit) Try.prog 4) bm n (mapOf es)) {key : Value} {kl : Lit} (hk : keyOf Try.prog 66 key = some kl) :
    (Instr.lookup 67 (.map (some bm)) key false).run Try.prog w = .ok (.bool ((lastB es kl).getD false)) w := by
  have hz : ∀ w, (zeroValue 4).run Try.prog w = .ok (.bool false) w := fun w => Try.zeroValue4 w
  obtain ⟨v, ps, hrun, hv⟩ := hM.lookup law Try.underlying67 (hz w) (plainElem_bool Try.underlying4 false) hk
  rw [hrun]
  rw [at_mapOf] at hv
  have e : v = .bool ((lastB es kl).getD false) := by
    cases hl : lastB es kl with
    | none => rw [hl] at hv; simp only at hv; exact pb_inv hv
    | some b => rw [hl] at hv; simp only at hv; exact pb_inv hv
  rw [e]
/-- What holds while Amend goes through the starts. -/
def AmI (w0 w : World) (base p : Nat) (S : Nat → Prop) (g : Nat) (r : ByteArray) (v : Int) (lv : Value) (sent : Int) (tv : Value) (ts : List Int) (st : List S31 × List S31) (u : Value) (wl : World) : Prop :=
  ∃ S' : Nat → Prop, Led wl base p S' st.1 ∧ (∀ k, S' k → S k ∨ w.heap.size ≤ k) ∧ (∀ k, S' k → k < wl.heap.size) ∧ Kept w wl S ∧ Below base w0 wl ∧ Kd.R k31 31 wl w.heap.size (fun k => ¬ S' k ∧ k ≠ g) u st.2 ∧
    Kd.R (Kd.int .i64) 3 wl w.heap.size (fun k => ¬ S' k ∧ k ≠ g) tv ts ∧ ¬ S' g ∧ wl.heap[g]? = some (.cells #[.int .i64 0, .string r, .int .i64 v, lv, .int .i64 0, .int .i64 sent, .string ⟨#[]⟩] 31 (0, 0))
set_option maxHeartbeats 4000000 in
set_option maxRecDepth 100000 in
theorem amendC {w0 w : World} {base p : Nat} {S : Nat → Prop} {es : List S31} {b : Bool} (r : ByteArray) (v : Int) (A : Option Addr) (c : Nat) (l : List S54) (As : Option Addr) (cs : Nat) (ss : List Int) (sent : Int) (zs : List Int)
    (hL : Led w base p S es) (hB : Below base w0 w) (hbase : base ≤ w.heap.size) (hrK : ∀ W, Kept w W S → Kd.C k54 W A l.length l) (hc : l.length ≤ c) (hsK : ∀ W, Kept w W S → Kd.C (Kd.int .i64) W As ss.length ss) (hcs : ss.length ≤ cs) (hV : ∃ k, labels_Valid.f k l = some b)
    (hb : b = true → l.length ≤ 8 ∧ ∀ x ∈ l, x.f0.size ≤ 16 ∧ x.f1.size ≤ 16) (h1 : b = true → Vals es r v (tx.textB l) zs) (h0 : b = false → zs = []) (hv : (Lit.int .i64 v).wf = true) (hn : es.length + ss.length < 100000) :
    Calls Try.prog 14 #[.pointer (some ⟨p, 0, none⟩), .string r, .int .i64 v, .slice A l.length c, .slice As ss.length cs, .int .i64 sent] w fun e w' => ∃ u S', e = .returned u ∧ Kd.R k31 31 w' w.heap.size (fun k => ¬ S' k) u (amOut es b r v l sent ss zs) ∧ Led w' base p S' (amEs es b r v l sent ss zs) ∧ (∀ g, S' g → S g ∨ w.heap.size ≤ g) ∧ Kept w w' S ∧ Below base w0 w' := by
  have HL := Lib.hid hL
  have HB := Lib.hid hB
  have HBS := Lib.hid hbase
  have HC := Lib.hid (hsK w (Kept.refl _ _))
  have OUT := Lib.hid (fun (W : World) (h : Below w.heap.size w W) => (⟨_, Kd.R_nil _ _ _ _ _, led_below hL h, fun _ hg => .inl hg, Kept.of_below h S, below_then hB hbase h⟩ : ∃ S', Kd.R k31 31 W w.heap.size (fun k => ¬ S' k) (.slice none 0 0) [] ∧ Led W base p S' es ∧ (∀ g, S' g → S g ∨ w.heap.size ≤ g) ∧ Kept w W S ∧ Below base w0 W))
  have V := Lib.hid (fun W (h : Below w.heap.size w W) => validC 0 r v A c l 0 sent ⟨#[]⟩ W (hrK W (Kept.of_below h S)) hc hV)
  have hsl : ss.length < 100000 := by omega
  cases hall : ss.all tickB with
  | false =>
    have e1 : amOut es b r v l sent ss zs = [] := by unfold amOut amOK; rw [hall]; simp
    have e2 : amEs es b r v l sent ss zs = es := by unfold amEs amOK; rw [hall]; simp
    rw [e1, e2]
    have HA := Lib.hid hall
    clear e1 e2 hL hB hbase hrK hc hsK hcs hV hb h1 h0 hv hn hall V
    go_enter Try.func14, Try.ntmps14
    go_wp2_with fail
    go_loopw [25] (fun v25 wr => ∃ i : Nat, v25 = .int .i64 i ∧ i ≤ ss.length ∧ Hid (∀ j, j < i → tickB (ss.getD j 0) = true) ∧ Hid (Below w.heap.size w wr)) (fun v25 _ => ss.length - (intOf v25).toNat)
    case atStart => exact ⟨0, rfl, Nat.zero_le _, Lib.hid (fun j hj => by omega), Lib.hid (Below.refl _ _)⟩
    case round =>
      obtain ⟨i, rfl, hi, HJ, HBw⟩ := hrel
      by_cases hlt : i < ss.length
      · have HCr := Lib.hid (Kd.C_below HC.out HBw.out)
        obtain ⟨ad, rfl, hcell⟩ := Kd.at_int HCr.out (i : Int) (by omega) (by omega)
        rw [Int.toNat_natCast, show YtgdojonkkfcaeaaW.PrintWords.rd ss (i : Int) = ss.getD i 0 from rfl] at hcell
        generalize hx : ss.getD i 0 = x at hcell
        cases ht : tickB x with
        | false =>
          have T := Lib.hid (tickC x false ht wr)
          clear HCr HJ ht hx
          go_wp2_with fail
          refine T.out.mono ?_
          rintro e w1 ⟨rfl, hb1⟩
          have HB1 := Lib.hid (below_step HBw.out hb1)
          clear hb1 T HBw
          go_wp2_with fail
          go_ret
          obtain ⟨S', o1, o2, o3, o4, o5⟩ := OUT.out _ HB1.out
          exact ⟨_, S', rfl, o1, o2, o3, o4, o5⟩
        | true =>
          have HJ2 := Lib.hid (show ∀ j, j < i + 1 → tickB (ss.getD j 0) = true from fun j hj => by
            by_cases e : j = i
            · rw [e, hx, ht]
            · exact HJ.out j (by omega))
          have T := Lib.hid (tickC x true ht wr)
          clear HCr HJ ht hx
          go_wp2_with fail
          refine T.out.mono ?_
          rintro e w1 ⟨rfl, hb1⟩
          have HB1 := Lib.hid (below_step HBw.out hb1)
          clear hb1 T HBw hcell
          go_wp2_with fail
          go_roundw
          case rel => exact ⟨i + 1, by go_num, by omega, HJ2, HB1⟩
          case measure => simp [intOf]; omega
      · exact absurd (all_upto i HJ.out (by omega)) (by rw [HA.out]; simp)
  | true =>
    have TK : ∀ i, i < ss.length → tickB (ss.getD i 0) = true := fun i hi => by
      rw [List.getD_eq_getElem?_getD, List.getElem?_eq_getElem hi]
      exact List.all_eq_true.1 hall _ (List.getElem_mem hi)
    have HTK := Lib.hid TK
    have HALL := Lib.hid hall
    clear TK hall
    unfold pgV at V
    go_enter Try.func14, Try.ntmps14
    go_wp2_with fail
    go_loopw [25] (fun v25 wr => ∃ i : Nat, v25 = .int .i64 i ∧ i ≤ ss.length ∧ Hid (Below w.heap.size w wr)) (fun v25 _ => ss.length - (intOf v25).toNat)
    case atStart => exact ⟨0, rfl, Nat.zero_le _, Lib.hid (Below.refl _ _)⟩
    case round =>
      obtain ⟨i, rfl, hi, HBw⟩ := hrel
      by_cases hlt : i < ss.length
      · have HCr := Lib.hid (Kd.C_below HC.out HBw.out)
        obtain ⟨ad, rfl, hcell⟩ := Kd.at_int HCr.out (i : Int) (by omega) (by omega)
        rw [Int.toNat_natCast, show YtgdojonkkfcaeaaW.PrintWords.rd ss (i : Int) = ss.getD i 0 from rfl] at hcell
        have ht := HTK.out i hlt
        generalize ss.getD i 0 = x at hcell ht
        have T := Lib.hid (tickC x true ht wr)
        clear HCr ht
        go_wp2_with fail
        refine T.out.mono ?_
        rintro e w1 ⟨rfl, hb1⟩
        have HB1 := Lib.hid (below_step HBw.out hb1)
        clear hb1 T HBw hcell
        go_wp2_with fail
        go_roundw
        case rel => exact ⟨i + 1, by go_num, by omega, HB1⟩
        case measure => simp [intOf]; omega
      · cases hok : okB b r v 0 sent ⟨#[]⟩ with
        | false =>
          have e1 : amOut es b r v l sent ss zs = [] := by unfold amOut amOK; rw [hok]; simp
          have e2 : amEs es b r v l sent ss zs = es := by unfold amEs amOK; rw [hok]; simp
          have E1 := Lib.hid e1
          have E2 := Lib.hid e2
          rw [hok] at V
          clear e1 e2 hok
          have BX := Lib.hid (heap_alloc_new wr (.cells #[.int .i64 0, .string r, .int .i64 v, .slice A l.length c, .int .i64 0, .int .i64 sent, .string ⟨#[]⟩] 31))
          have HB0 := Lib.hid (below_alloc HBw.out (.cells #[.int .i64 0, .string r, .int .i64 v, .slice A l.length c, .int .i64 0, .int .i64 sent, .string ⟨#[]⟩] 31))
          obtain ⟨x0, x1, x2, x3, x4, x5, x6⟩ := blk7 BX.out
          go_wp2_with fail
          refine (V.out _ HB0.out).mono ?_
          rintro e w1 ⟨rfl, hb1⟩
          have HB1 := Lib.hid (below_step HB0.out hb1)
          clear hb1 x0 x1 x2 x3 x4 x5 x6
          go_wp2_with fail
          go_ret
          obtain ⟨S', o1, o2, o3, o4, o5⟩ := OUT.out _ HB1.out
          exact ⟨_, S', rfl, by rw [E1.out]; exact o1, by rw [E2.out]; exact o2, o3, o4, o5⟩
        | true =>
          have hok2 := hok
          unfold okB at hok2
          simp only [Bool.and_eq_true, decide_eq_true_eq] at hok2
          obtain ⟨⟨⟨⟨⟨hnm, _⟩, hbt⟩, _⟩, _⟩, _⟩ := hok2
          have hrs : r.size ≤ maxLen := by
            unfold nameB at hnm
            simp only [Bool.and_eq_true, decide_eq_true_eq] at hnm
            unfold maxLen
            omega
          rw [hok] at V
          have E1 := Lib.hid (show amOut es b r v l sent ss zs = (amRun es r v l sent ss (amTs zs ss)).2 from by unfold amOut amOK; rw [HALL.out, hok]; rfl)
          have E2 := Lib.hid (show amEs es b r v l sent ss zs = (amRun es r v l sent ss (amTs zs ss)).1 from by unfold amEs amOK; rw [HALL.out, hok]; rfl)
          have BX := Lib.hid (heap_alloc_new wr (.cells #[.int .i64 0, .string r, .int .i64 v, .slice A l.length c, .int .i64 0, .int .i64 sent, .string ⟨#[]⟩] 31))
          have HB0 := Lib.hid (below_alloc HBw.out (.cells #[.int .i64 0, .string r, .int .i64 v, .slice A l.length c, .int .i64 0, .int .i64 sent, .string ⟨#[]⟩] 31))
          have VAL := Lib.hid (fun W (h : Below w.heap.size w W) => valC (w := W) r v A c l zs (led_below hL h) (hrK W (Kept.of_below h S)) hc hV hb (by omega) h1 h0 hrs hv)
          obtain ⟨x0, x1, x2, x3, x4, x5, x6⟩ := blk7 BX.out
          have HG := Lib.hid (show w.heap.size ≤ wr.heap.size from HBw.out.size)
          clear HBw hnm hok
          go_wp2_with fail
          refine (V.out _ HB0.out).mono ?_
          rintro e w1 ⟨rfl, hb1⟩
          have HB1 := Lib.hid (below_step HB0.out hb1)
          have BX1 := Lib.hid (blk_below BX.out hb1)
          clear hb1 x0 x1 x2 x3 x4 x5 x6 HB0 BX
          go_wp2_with fail
          refine (VAL.out _ HB1.out).mono ?_
          rintro e w2 ⟨u2, rfl, hr2, hb2⟩
          have HR2 := Lib.hid (Kd.R_lower (Kd.R_mono (ok' := fun k => w.heap.size ≤ k ∧ k ≠ wr.heap.size) (Kd.R_bound hr2) (fun k hk => by have h3 := hk.2.1; have h4 := HB1.out.size; have h5 := blk_lt BX1.out; exact ⟨by omega, by omega⟩)) HB1.out.size)
          have BX2 := Lib.hid (blk_below BX1.out hb2)
          have HB2 := Lib.hid (below_step HB1.out hb2)
          have HC2 := Lib.hid (Kd.C_below HC.out HB2.out)
          have hzl : zs.length ≤ es.length := by
            have hz := h1 hbt
            have hnd : zs.Nodup := List.nodup_iff_pairwise_ne.2 (hz.1.imp (fun h => by omega))
            exact outs_le hnd (fun s hs => (hz.2 s).1 hs) hrs hv (size_text l (hb hbt).1 (hb hbt).2)
          have HZL := Lib.hid hzl
          clear hr2 hb2 HB1 BX1 V VAL
          go_wp2_with ((with_reducible refine gate_builtin (b := .append) (xs := #[.tmp 45, .tmp 46]) rfl ?_); at_builtin; refine Kd.R_append_rows (Kd.int .i64) (w0 := w) w.heap.size rfl (.tmp 45) (.tmp 46) 22 3 (.int .i64 0) 8 rfl Try.underlying22 info3 rfl (by decide) (by omega) u2 zs ss _ _ _ (fun k => w.heap.size ≤ k ∧ k ≠ wr.heap.size) (fun _ => False) rfl rfl HR2.out HC2.out (fun _ _ h => h) (fun _ h => h.elim) ?aF HB2.out HB2.out.size ?aL ?_; (case aF => exact (fun k hk => by have h3 := blk_lt BX2.out; have h4 := HG.out; exact ⟨by omega, by omega⟩)); (case aL => (have := HZL.out; omega)); intro v3 w3 ho3 hb3 hg3 ha3)
          have HR3 := Lib.hid ho3
          have HB3 := Lib.hid hb3
          have BX3 := Lib.hid (blk_grown BX2.out hg3 (fun e => (HR2.out.1 _ e.symm).2 rfl))
          clear ho3 hb3 hg3 ha3 HR2 HB2 BX2 HC2
          have SO := Lib.hid (si.sort_int _ _ w w3 w.heap.size _ HR3.out HB3.out (by have := HZL.out; simp; omega))
          have SLEN : (si.sortI (zs ++ ss)).length < 200000 := by rw [si.sortI_length, List.length_append]; omega
          go_wp2_with fail
          refine SO.out.mono ?_
          rintro e w4 ⟨rfl, hr4, hb4, hg4⟩
          have HR4 := Lib.hid hr4
          have HB4 := Lib.hid hb4
          have BX4 := Lib.hid (blk_grown BX3.out hg4 (fun e => (HR3.out.1 _ e.symm).2 rfl))
          clear hr4 hb4 hg4 HR3 HB3 BX3 SO
          have CO := Lib.hid (si.compact_int _ _ w w4 w.heap.size _ HR4.out HB4.out (by omega))
          go_wp2_with fail
          refine CO.out.mono ?_
          rintro e w5 ⟨u5, rfl, hr5, hb5, hg5⟩
          obtain ⟨A5, c5, rfl⟩ := Kd.R_slice hr5
          have HAM := Lib.hid (show AmI w0 w base p S wr.heap.size r v (.slice A l.length c) sent (.slice A5 (amTs zs ss).length c5) (amTs zs ss) (es, []) (.slice none 0 0) w5 from
            ⟨fun k => S k ∧ k < w.heap.size, led_below (led_bound HL.out) hb5, fun g hg => .inl hg.1, fun g hg => Nat.lt_of_lt_of_le hg.2 hb5.size, Kept.of_below hb5 S, below_then HB.out HBS.out hb5, Kd.R_nil _ _ _ _ _,
              Kd.R_mono (Kd.R_bound hr5) (fun k hk => ⟨fun h => by have := hk.2.1; omega, hk.1.2⟩), fun h => by have := HG.out; omega, blk_grown BX4.out hg5 (fun e => (HR4.out.1 _ e.symm).2 rfl)⟩)
          have HTL := Lib.hid (show (amTs zs ss).length < 200000 from Nat.lt_of_le_of_lt (si.compact_length _) SLEN)
          rw [show (Lib.compact (si.sortI (zs ++ ss))).length = (amTs zs ss).length from rfl]
          clear hr5 hb5 hg5 HR4 HB4 BX4 CO SLEN
          have HWF := Lib.hid (show ∀ t ∈ amTs zs ss, (Lit.int .i64 t).wf = true from fun t ht => by
            unfold amTs at ht
            rw [si.mem_compact, si.mem_sortI, List.mem_append] at ht
            rcases ht with ht | ht
            · exact (((h1 hbt).2 t).1 ht).1
            · exact tick_wf (List.all_eq_true.1 HALL.out t ht))
          generalize hts : amTs zs ss = ts at HAM HTL E1 E2 HWF ⊢
          clear hts
          go_wp2_with fail
          obtain ⟨wq, rfl⟩ : ∃ wq : World, wq = wr := ⟨_, rfl⟩
          have H8 := Lib.hid (hb hbt).1
          have HXX := Lib.hid (hb hbt).2
          have HTS := Lib.hid (size_text l H8.out HXX.out)
          go_loopw [17, 53] (fun v17 v53 wl => ∃ i : Nat, v53 = .int .i64 i ∧ i ≤ ts.length ∧ Hid (AmI w0 w base p S wq.heap.size r v (.slice A l.length c) sent (.slice A5 ts.length c5) ts ((ts.take i).foldl (amStep r v l sent ss) (es, [])) v17 wl)) (fun _ v53 _ => ts.length - (intOf v53).toNat)
          case atStart => exact ⟨0, rfl, Nat.zero_le _, HAM⟩
          case round =>
            obtain ⟨i, rfl, hi, HI⟩ := hrel
            by_cases hlt : i < ts.length
            · obtain ⟨S', hL', hS', hSl, hK', hB', hR', hT', hSg, hX'⟩ := HI.out
              have HL1 := Lib.hid hL'
              have HS1 := Lib.hid hS'
              have HSL := Lib.hid hSl
              have HK1 := Lib.hid hK'
              have HB1 := Lib.hid hB'
              have HR1 := Lib.hid hR'
              have HT1 := Lib.hid hT'
              have HSG := Lib.hid hSg
              have HX1 := Lib.hid hX'
              have HC1 := Lib.hid (Kd.R_reads' hT').2.2
              have HGL := Lib.hid (blk_lt hX')
              clear hL' hS' hSl hK' hB' hR' hT' hSg hX' HI HAM
              obtain ⟨ad, rfl, hcell⟩ := Kd.at_int HC1.out (i : Int) (by omega) (by omega)
              rw [Int.toNat_natCast, show YtgdojonkkfcaeaaW.PrintWords.rd ts (i : Int) = ts.getD i 0 from rfl] at hcell
              have HTI := Lib.hid (show ts.take (i + 1) = ts.take i ++ [ts.getD i 0] from by
                rw [List.take_succ_eq_append_getElem hlt, List.getD_eq_getElem?_getD, List.getElem?_eq_getElem hlt]; rfl)
              generalize ts.getD i 0 = t at hcell HTI
              have CL := Lib.hid (fun W (h : Below wr.heap.size wr W) => clone_lab A c l W (hrK W (Kept.below HK1.out h)) (by have := H8.out; omega))
              obtain ⟨x0, x1, x2, x3, x4, x5, x6⟩ := blk7 HX1.out
              have BP := Lib.hid (heap_alloc_new wr (.cells #[.int .i64 0, .string r, .int .i64 v, .slice A l.length c, .int .i64 0, .int .i64 sent, .string ⟨#[]⟩] 31))
              have HB2 := Lib.hid (below_alloc (Below.refl wr.heap.size wr) (.cells #[.int .i64 0, .string r, .int .i64 v, .slice A l.length c, .int .i64 0, .int .i64 sent, .string ⟨#[]⟩] 31))
              go_wp2_with fail
              refine (CL.out _ HB2.out).mono ?_
              rintro e w6 ⟨lv, rfl, hlr, hb6⟩
              obtain ⟨A6, c6, rfl⟩ := Kd.R_slice hlr
              have HB6 := Lib.hid (below_step HB2.out hb6)
              have BP6 := Lib.hid (blk_below BP.out hb6)
              have HLR6 := Lib.hid (Kd.R_lower (Kd.R_mono (ok' := fun k => wr.heap.size + 1 ≤ k) (Kd.R_bound hlr) (fun k hk => by have := hk.2.1; simp at this; omega)) (show wr.heap.size ≤ _ by simp))
              clear hlr hb6 CL HB2 BP hcell x0 x1 x2 x3 x4 x5 x6
              obtain ⟨x0, x1, x2, x3, x4, x5, x6⟩ := blk7 BP6.out
              have zf3 := blk_frozen BP6.out 3
              have zf4 := blk_frozen BP6.out 4
              have zl := blk_lt BP6.out
              go_wp2_with fail
              obtain ⟨w7, hw7⟩ : ∃ w7, w7 = (w6.setCell ⟨wr.heap.size, 4, none⟩ (.int .i64 t)).setCell ⟨wr.heap.size, 3, none⟩ (.slice A6 l.length c6) := ⟨_, rfl⟩
              have BP7 := Lib.hid (blk_set (blk_set BP6.out 4 (.int .i64 t)) 3 (.slice A6 l.length c6))
              have HB7 := Lib.hid (below_set (j := 3) (v := .slice A6 l.length c6) (below_set (j := 4) (v := .int .i64 t) HB6.out (g := wr.heap.size) (Nat.le_refl _)) (g := wr.heap.size) (Nat.le_refl _))
              have HLR7 := Lib.hid (Kd.R_set (Kd.R_set HLR6.out BP6.out (by decide) 4 (.int .i64 t)) (blk_set BP6.out 4 (.int .i64 t)) (by decide) 3 (.slice A6 l.length c6))
              rw [← hw7] at BP7 HB7 HLR7 ⊢
              clear hw7 x0 x1 x2 x3 x4 x5 x6 zf3 zf4 zl HB6 BP6 HLR6
              obtain ⟨bm, hp, _, _, _, _, _, hM⟩ := led_below HL1.out HB7.out
              have HP7 := Lib.hid hp
              have HM7 := Lib.hid hM
              clear hp hM
              have hwt := HWF.out t (by have h := HTI.out; exact List.mem_of_mem_take (h ▸ List.mem_append_right _ (List.mem_singleton.2 rfl)))
              have HK := Lib.hid (keyOf_mk hrs hv HTS.out hwt)
              have HWT := Lib.hid hwt
              generalize hpb : (lastB ((ts.take i).foldl (amStep r v l sent ss) (es, [])).1 (keyL r v (tx.textB l) t)).getD false = pb
              have HPB := Lib.hid hpb
              have CN := Lib.hid (fun W (h : Below w7.heap.size w7 W) => si.contains_int As cs ss t W (hsK W (Kept.below HK1.out (below_step HB7.out h))) hcs (by omega))
              generalize hkb : ss.contains t = kb at CN
              have HKB := Lib.hid hkb
              have OF := Lib.hid (fun W (h : Below w7.heap.size w7 W) => ofC 0 r v A6 c6 l t sent ⟨#[]⟩ W (Kd.C_below (Kd.R_reads' HLR7.out).2.2 h) (Kd.R_reads' HLR7.out).2.1 H8.out HXX.out)
              unfold pgV keyV at OF
              unfold keyV at HK
              clear hpb hkb hwt
              obtain ⟨x0, x1, x2, x3, x4, x5, x6⟩ := blk7 BP7.out
              have xp : w7.cell? ⟨p, 1, none⟩ = some (.map (some bm)) := (blk_cell HP7.out 1).trans rfl
              refine start_ (n := 12) (S := (fun w' => w'.cell? ⟨wr.heap.size, 0, none⟩ = some (.int .i64 0) ∧ w'.cell? ⟨wr.heap.size, 1, none⟩ = some (.string r) ∧ w'.cell? ⟨wr.heap.size, 2, none⟩ = some (.int .i64 v) ∧ w'.cell? ⟨wr.heap.size, 3, none⟩ = some (.slice A6 l.length c6) ∧ w'.cell? ⟨wr.heap.size, 4, none⟩ = some (.int .i64 t) ∧ w'.cell? ⟨wr.heap.size, 5, none⟩ = some (.int .i64 sent) ∧ w'.cell? ⟨wr.heap.size, 6, none⟩ = some (.string ⟨#[]⟩) ∧ w'.cell? ⟨p, 1, none⟩ = some (.map (some bm)) ∧ (Instr.lookup 67 (.map (some bm)) (.agg #[.string r, .int .i64 v, .string (tx.textB l), .int .i64 t]) false).run Try.prog w' = .ok (.bool pb) w')) (ds := []) #[false, false, false, false, false, false, false, false, false, false, false, false] (by kernel_rfl) rfl rfl ⟨x0, x1, x2, x3, x4, x5, x6, xp, (look1 HM7.out.drew HK.out).trans (by rw [HPB.out])⟩ (fun hHeld => ?_)
              refine with_tabW atab18 abits18 (fun HT_ HW_ => ?_)
              clear x0 x1 x2 x3 x4 x5 x6 xp
              refine pure_ (i := 0) (N := some 63) (v := ?_) (a' := ?_) #[true, false, false, false, false, false, false, false, false, false, false, false] rfl rfl (any_of HT_.out (by kernel_rfl)) (fun _ _ _ h => h) (Or.inl ⟨by rfl, ?_⟩) ?_ ?_
              rotate_left
              · intro w'
                go_simp
                with_reducible rfl
              rotate_left
              · simp only [Act.put, List.setIfInBounds_toArray, List.set_cons_zero, List.set_cons_succ, i64_w, i32_w]
                rfl
              refine pure_ (i := 1) (N := some 64) (v := ?_) (a' := ?_) #[true, true, false, false, false, false, false, false, false, false, false, false] rfl rfl (any_of HT_.out (by kernel_rfl)) (fun _ _ _ h => h) (Or.inl ⟨by rfl, ?_⟩) ?_ ?_
              rotate_left
              · intro w'
                go_simp
                with_reducible rfl
              rotate_left
              · simp only [Act.put, List.setIfInBounds_toArray, List.set_cons_zero, List.set_cons_succ, i64_w, i32_w]
                rfl
              refine pure_ (i := 2) (N := some 65) (v := ?_) (a' := ?_) #[true, true, true, false, false, false, false, false, false, false, false, false] rfl rfl (any_of HT_.out (by kernel_rfl)) (fun _ _ _ h => h) (Or.inl ⟨by rfl, ?_⟩) ?_ ?_
              rotate_left
              · intro w'
                go_simp
                with_reducible rfl
              rotate_left
              · simp only [Act.put, List.setIfInBounds_toArray, List.set_cons_zero, List.set_cons_succ, i64_w, i32_w]
                rfl
              refine take_ (i := 3) (N := some 66) (v := ?_) (a' := ?_) #[true, true, true, true, false, false, false, false, false, false, false, false] rfl rfl (take_ofW HT_.out HW_.out (by kernel_rfl)) (fun _ _ _ h => h) (Or.inl ⟨by rfl, ?_⟩) hHeld ?_ ?_
              rotate_left
              · rintro w' ⟨s0, s1, s2, s3, s4, s5, s6, s7, s8⟩
                go_simp
                with_reducible rfl
              rotate_left
              · simp only [Act.put, List.setIfInBounds_toArray, List.set_cons_zero, List.set_cons_succ, i64_w, i32_w]
                rfl
              refine take_ (i := 4) (N := some 67) (v := ?_) (a' := ?_) #[true, true, true, true, true, false, false, false, false, false, false, false] rfl rfl (take_ofW HT_.out HW_.out (by kernel_rfl)) (fun _ _ _ h => h) (Or.inl ⟨by rfl, ?_⟩) hHeld ?_ ?_
              rotate_left
              · rintro w' ⟨s0, s1, s2, s3, s4, s5, s6, s7, s8⟩
                go_simp
                with_reducible rfl
              rotate_left
              · simp only [Act.put, List.setIfInBounds_toArray, List.set_cons_zero, List.set_cons_succ, i64_w, i32_w]
                rfl
              refine pure_ (i := 7) (N := some 70) (v := ?_) (a' := ?_) #[true, true, true, true, true, false, false, true, false, false, false, false] rfl rfl (any_of HT_.out (by kernel_rfl)) (fun _ _ _ h => h) (Or.inl ⟨by rfl, ?_⟩) ?_ ?_
              rotate_left
              · intro w'
                go_simp
                with_reducible rfl
              rotate_left
              · simp only [Act.put, List.setIfInBounds_toArray, List.set_cons_zero, List.set_cons_succ, i64_w, i32_w]
                rfl
              refine pure_ (i := 8) (N := some 71) (v := ?_) (a' := ?_) #[true, true, true, true, true, false, false, true, true, false, false, false] rfl rfl (any_of HT_.out (by kernel_rfl)) (fun _ _ _ h => h) (Or.inl ⟨by rfl, ?_⟩) ?_ ?_
              rotate_left
              · intro w'
                go_simp
                with_reducible rfl
              rotate_left
              · simp only [Act.put, List.setIfInBounds_toArray, List.set_cons_zero, List.set_cons_succ, i64_w, i32_w]
                rfl
              refine one_ (i := 5) (N := some 68) #[true, true, true, true, true, true, false, true, true, false, false, false] rfl rfl (one_of HT_.out (by kernel_rfl)) (by decide) (fun K hK => ?_)
              refine goes_ Try.func38 (by kernel_rfl) rfl #[.agg #[.int .i64 0, .string r, .int .i64 v, .slice A6 l.length c6, .int .i64 t, .int .i64 sent, .string ⟨#[]⟩]] (by rfl) rfl rfl (by (try simp only [List.map_toArray, List.map_cons, List.map_nil]); first | done | rfl) ?_
              refine (OF.out _ (below_drew1 (Below.refl _ _))).mono ?_
              rintro e w' ⟨rfl, hb8⟩
              have HB8 := Lib.hid (below_step (below_drew1 (Below.refl w7.heap.size w7)) hb8)
              have HM8 := Lib.hid ((HM7.out.drew).kept (grown_of hb8) (by simp))
              have HLK8 := Lib.hid ((look1 HM8.out HK.out).trans (by rw [HPB.out]))
              refine ⟨_, rfl, ?_⟩
              refine hK.out _ _ (keep8 hHeld hb8 HLK8.out) (fun hHeld => ?_)
              clear hK K
              refine norm_ (a' := ?_) ?_ ?_
              rotate_left
              · show Act.put _ (some 68) _ = _
                simp only [Act.put, List.setIfInBounds_toArray, List.set_cons_zero, List.set_cons_succ, i64_w, i32_w]
                rfl
              refine take_ (i := 6) (N := some 69) (v := ?_) (a' := ?_) #[true, true, true, true, true, true, true, true, true, false, false, false] rfl rfl (take_ofW HT_.out HW_.out (by kernel_rfl)) (fun _ _ _ h => h) (Or.inl ⟨by rfl, ?_⟩) hHeld ?_ ?_
              rotate_left
              · rintro w' ⟨s0, s1, s2, s3, s4, s5, s6, s7, s8⟩
                go_simp
                with_reducible rfl
              rotate_left
              · simp only [Act.put, List.setIfInBounds_toArray, List.set_cons_zero, List.set_cons_succ, i64_w, i32_w]
                rfl
              refine one_ (i := 9) (N := some 72) #[true, true, true, true, true, true, true, true, true, true, false, false] rfl rfl (one_of HT_.out (by kernel_rfl)) (by decide) (fun K hK => ?_)
              refine goes_ Try.func39 (by kernel_rfl) rfl #[.slice As ss.length cs, .int .i64 t] (by rfl) rfl rfl (by (try simp only [List.map_toArray, List.map_cons, List.map_nil]); first | done | rfl) ?_
              refine (CN.out _ HB8.out).mono ?_
              rintro e w' ⟨rfl, hb9⟩
              have HB9 := Lib.hid (below_step HB8.out hb9)
              have HM9 := Lib.hid (HM8.out.kept (grown_of hb9) (by simp))
              have HLK9 := Lib.hid ((look1 HM9.out HK.out).trans (by rw [HPB.out]))
              refine ⟨_, rfl, ?_⟩
              refine hK.out _ _ (keep8 hHeld hb9 HLK9.out) (fun hHeld => ?_)
              clear hK K
              refine norm_ (a' := ?_) ?_ ?_
              rotate_left
              · show Act.put _ (some 72) _ = _
                simp only [Act.put, List.setIfInBounds_toArray, List.set_cons_zero, List.set_cons_succ, i64_w, i32_w]
                rfl
              refine pure_ (i := 10) (N := some 21) (v := ?_) (a' := ?_) #[true, true, true, true, true, true, true, true, true, true, true, false] rfl rfl (any_of HT_.out (by kernel_rfl)) (fun _ _ _ h => h) (Or.inl ⟨by rfl, ?_⟩) ?_ ?_
              rotate_left
              · intro w'
                go_simp
                with_reducible rfl
              rotate_left
              · simp only [Act.put, List.setIfInBounds_toArray, List.set_cons_zero, List.set_cons_succ, i64_w, i32_w]
                rfl
              refine pure_ (i := 11) (N := some 22) (v := ?_) (a' := ?_) #[true, true, true, true, true, true, true, true, true, true, true, true] rfl rfl (any_of HT_.out (by kernel_rfl)) (fun _ _ _ h => h) (Or.inl ⟨by rfl, ?_⟩) ?_ ?_
              rotate_left
              · intro w'
                go_simp
                with_reducible rfl
              rotate_left
              · simp only [Act.put, List.setIfInBounds_toArray, List.set_cons_zero, List.set_cons_succ, i64_w, i32_w]
                rfl
              refine done_ (done_of HT_.out (by kernel_rfl)) ?_
              clear HT_ HW_
              have HLT2 := Lib.hid hlt
              have hib : i < 200000 := by have := HTL.out; omega
              have HBX := Lib.hid (below_step HB7.out HB9.out)
              have BP9 := Lib.hid (blk_below BP7.out HB9.out)
              have HLR9 := Lib.hid (Kd.R_below HLR7.out HB9.out)
              have HBR := Lib.hid (Nat.le_trans HBS.out HK1.out.1)
              have HSTEP := Lib.hid (show (ts.take (i + 1)).foldl (amStep r v l sent ss) (es, []) = amStep r v l sent ss ((ts.take i).foldl (amStep r v l sent ss) (es, [])) t from by rw [HTI.out, List.foldl_append]; rfl)
              have HLEN := Lib.hid (show ((ts.take i).foldl (amStep r v l sent ss) (es, [])).1.length < 1000000 from by have h2 := (amRun_len r v l sent ss (ts.take i) (es, [])).1; have h3 := HTL.out; rw [List.length_take] at h2; simp only at h2; omega)
              have HLEN2 := Lib.hid (show ((ts.take i).foldl (amStep r v l sent ss) (es, [])).2.length < 1000000 from by have h2 := (amRun_len r v l sent ss (ts.take i) (es, [])).2; have h3 := HTL.out; rw [List.length_take] at h2; simp only [List.length_nil] at h2; omega)
              generalize (ts.take i).foldl (amStep r v l sent ss) (es, []) = st at HL1 HR1 HPB HSTEP HLEN HLEN2
              clear hHeld HM7 HB7 BP7 HLR7 HP7 HB9 CN OF HK
              by_cases hpk : pb = kb
              · have E := HSTEP.out
                unfold amStep pagedB at E
                rw [HPB.out, HKB.out, if_pos hpk] at E
                have HI2 := Lib.hid (show AmI w0 w base p S wq.heap.size r v (.slice A l.length c) sent (.slice (some ad) ts.length c5) ts st u17 w' from ⟨S', led_below HL1.out HBX.out, HS1.out, fun k hk => Nat.lt_of_lt_of_le (HSL.out k hk) HBX.out.size, HK1.out.below HBX.out, below_then HB1.out HBR.out HBX.out, Kd.R_below HR1.out HBX.out, Kd.R_below HT1.out HBX.out, HSG.out, blk_below HX1.out HBX.out⟩)
                rw [← E] at HI2
                subst hpk
                clear E HL1 HS1 HSL HK1 HB1 HR1 HT1 HSG HX1 HC1 HSTEP HPB HKB
                cases pb with
                | false =>
                  go_wp2_with fail
                  go_roundw
                  case rel => exact ⟨i + 1, by go_num, (by have := HLT2.out; omega), HI2⟩
                  case measure => have := HLT2.out; simp [intOf]; omega
                | true =>
                  go_wp2_with fail
                  go_roundw
                  case rel => exact ⟨i + 1, by go_num, (by have := HLT2.out; omega), HI2⟩
                  case measure => have := HLT2.out; simp [intOf]; omega
              · cases kb with
                | false =>
                  obtain rfl : pb = true := by cases pb <;> simp at hpk ⊢
                  clear hpk
                  have EX : amX r v l sent ss t = (⟨1, r, v, l, t, sent, ⟨#[]⟩⟩ : S31) := by unfold amX; rw [HKB.out]; rfl
                  have E := HSTEP.out
                  unfold amStep pagedB at E
                  rw [HPB.out, HKB.out, if_neg (by decide), EX] at E
                  have HE := Lib.hid E
                  have ADD := Lib.hid (fun W (h : Below wr.heap.size wr W) (hl : Kd.R k54 54 W wr.heap.size (fun k => wr.heap.size + 1 ≤ k) (.slice A6 l.length c6) l) => addC (w0 := w0) (w := W) 1 r v A6 c6 l t sent ⟨#[]⟩ (led_below HL1.out h) (below_then HB1.out HBR.out h) (Nat.le_trans HBR.out h.size) (Kd.R_reads' hl).2.2 (Kd.R_reads' hl).2.1 H8.out HXX.out hrs hv HWT.out HLEN.out)
                  unfold pgV at ADD
                  have BPA := Lib.hid (blk_set BP9.out 0 (.int .i64 1))
                  have HBA := Lib.hid (below_set (j := 0) (v := .int .i64 1) HBX.out (g := wr.heap.size) (Nat.le_refl _))
                  have HLA := Lib.hid (Kd.R_set HLR9.out BP9.out (by decide) 0 (.int .i64 1))
                  clear EX E
                  obtain ⟨x0, x1, x2, x3, x4, x5, x6⟩ := blk7 BP9.out
                  have zf0 := blk_frozen BP9.out 0
                  have zl := blk_lt BP9.out
                  go_wp2_with fail
                  refine (ADD.out _ HBA.out HLA.out).mono ?_
                  rintro e wA ⟨rfl, SA, hLA, hSA, hKA, hBA⟩
                  have hwaz : wr.heap.size < wA.heap.size := Nat.lt_of_lt_of_le (blk_lt BPA.out) hKA.1
                  have hwq : wq.heap.size < wr.heap.size := HGL.out
                  have hBPB := blk_kept BPA.out hKA (fun h => by have := HSL.out _ h; omega)
                  have hnS : ∀ k, ¬ S' k → k < ((w'.setCell ⟨wr.heap.size, 0, none⟩ (.int .i64 1)) : World).heap.size → ¬ (SA k ∧ k < wA.heap.size) := fun k h1 h2 h3 => by rcases hSA k h3.1 with h4 | h4 <;> first | exact h1 h4 | omega
                  have hLR := Kd.R_kept (Kd.R_bound HLA.out) hKA (fun k hk h => by have h2 := hk.1; have h3 := HSL.out _ h; omega)
                  have hR := Kd.R_kept (Kd.R_bound (Kd.R_below HR1.out HBA.out)) hKA (fun k hk => hk.1.1)
                  have hT := Kd.R_kept (Kd.R_bound (Kd.R_below HT1.out HBA.out)) hKA (fun k hk => hk.1.1)
                  have HRA := Lib.hid (Kd.R_mono (ok' := fun k => ¬ (SA k ∧ k < wA.heap.size) ∧ k ≠ wq.heap.size) hR (fun k hk => ⟨hnS k hk.1.1 hk.2.2.1, hk.1.2⟩))
                  have HTA := Lib.hid (Kd.R_mono (ok' := fun k => ¬ (SA k ∧ k < wA.heap.size) ∧ k ≠ wq.heap.size) hT (fun k hk => ⟨hnS k hk.1.1 hk.2.2.1, hk.1.2⟩))
                  have HLRA := Lib.hid (Kd.R_lower (Kd.R_mono (ok' := fun k => (¬ (SA k ∧ k < wA.heap.size) ∧ k ≠ wq.heap.size) ∧ some k ≠ u17.ownBlock) hLR (fun k hk => ⟨⟨hnS k (fun h => by have h2 := hk.1; have h3 := HSL.out _ h; omega) hk.2.2.1, by have h2 := hk.1; omega⟩, fun e => by have h2 := hk.1; have h3 := Kd.R_lt HR1.out k e.symm; omega⟩)) (Nat.le_trans HG.out (Nat.le_of_lt hwq)))
                  have HLED := Lib.hid (led_bound hLA)
                  have HSB := Lib.hid (show ∀ k, (SA k ∧ k < wA.heap.size) → S k ∨ w.heap.size ≤ k from fun k hk => by rcases hSA k hk.1 with h | h <;> first | exact HS1.out k h | exact .inr (by have h5 := HBA.out.size; have h6 := HG.out; omega))
                  have HKB2 := Lib.hid ((Kept.below HK1.out HBA.out).then_ hKA (fun k hk => HS1.out k hk))
                  have HBB := Lib.hid hBA
                  have HBPB := Lib.hid hBPB
                  have HXA := Lib.hid (blk_kept (blk_below HX1.out HBA.out) hKA HSG.out)
                  have HSGA := Lib.hid (hnS _ HSG.out (blk_lt (blk_below HX1.out HBA.out)))
                  have HWAZ := Lib.hid hwaz
                  clear hLA hSA hKA hBA hBPB hnS hLR hR hT hwaz x0 x1 x2 x3 x4 x5 x6 zf0 zl ADD HBA HLA BPA BP9 HLR9 HBX
                  obtain ⟨x0, x1, x2, x3, x4, x5, x6⟩ := blk7 HBPB.out
                  go_wp2_with ((with_reducible refine gate_builtin (b := .append) (xs := #[.tmp 82, .tmp 84]) rfl ?_); at_builtin; refine Kd.R_append k31 (w0 := wA) w.heap.size rfl (.tmp 82) (.tmp 84) 25 31 (.agg #[(.int .i64 0), (.string ⟨#[]⟩), (.int .i64 0), (.slice none 0 0), (.int .i64 0), (.int .i64 0), (.string ⟨#[]⟩)]) 88 rfl Try.underlying25 info31 rfl (by decide) (by omega) u17 st.2 (⟨1, r, v, l, t, sent, ⟨#[]⟩⟩ : S31) [.int .i64 1, .string r, .int .i64 v, .slice A6 l.length c6, .int .i64 t, .int .i64 sent, .string ⟨#[]⟩] _ (fun k => (¬ (SA k ∧ k < wA.heap.size) ∧ k ≠ wq.heap.size) ∧ some k ≠ u17.ownBlock) rfl (by first | rfl | (simp; rfl)) ?aP (fun k hk => hk) ?aF HRA.out (Below.refl _ _) ?aS ?aL ?_; (case aP => exact k31_mkM _ _ _ (⟨1, r, v, l, t, sent, ⟨#[]⟩⟩ : S31) HLRA.out); (case aF => exact (fun k hk => ⟨fun h => by have h2 := h.2; omega, by have h2 := HWAZ.out; have h3 := HGL.out; omega⟩)); (case aS => (have h2 := HWAZ.out; have h3 := HGL.out; have h4 := HG.out; omega)); (case aL => (have h5 := HLEN.out; have h6 := HLEN2.out; omega)); intro v9 w9 ho9 hb9 hg9 ha9)
                  have hne : ∀ k, u17.ownBlock = some k → ¬ (SA k ∧ k < wA.heap.size) := fun k hk => (HRA.out.1 k hk).1
                  have HI2 := Lib.hid (show AmI w0 w base p S wq.heap.size r v (.slice A l.length c) sent (.slice (some ad) ts.length c5) ts (st.1 ++ [(⟨1, r, v, l, t, sent, ⟨#[]⟩⟩ : S31)], st.2 ++ [(⟨1, r, v, l, t, sent, ⟨#[]⟩⟩ : S31)]) v9 w9 from ⟨fun k => SA k ∧ k < wA.heap.size, led_grown HLED.out hg9 hne, HSB.out, fun k hk => Nat.lt_of_lt_of_le hk.2 hg9.size, Kept.of_grown hg9 HKB2.out (fun k hk => .inr (Kd.R_base HRA.out k hk)), HBB.out.grown hg9 (Nat.le_trans HBR.out (Nat.le_of_lt HWAZ.out)) (fun k hk => Nat.le_trans HBS.out (Kd.R_base HRA.out k hk)), ho9, Kd.R_over HTA.out HRA.out (by decide) hg9, HSGA.out, blk_grown HXA.out hg9 (fun e => (HRA.out.1 _ e.symm).2 rfl)⟩)
                  rw [← HE.out] at HI2
                  clear ho9 hb9 hg9 ha9 hne x0 x1 x2 x3 x4 x5 x6 HRA HTA HLRA HLED HSB HKB2 HBB HBPB HXA HSGA HE HSTEP
                  go_wp2_with fail
                  go_roundw
                  case rel => exact ⟨i + 1, by go_num, (by have := HLT2.out; omega), HI2⟩
                  case measure => have := HLT2.out; simp [intOf]; omega
                | true =>
                  obtain rfl : pb = false := by cases pb <;> simp at hpk ⊢
                  clear hpk
                  have EX : amX r v l sent ss t = (⟨2, r, v, l, t, sent, ⟨#[]⟩⟩ : S31) := by unfold amX; rw [HKB.out]; rfl
                  have E := HSTEP.out
                  unfold amStep pagedB at E
                  rw [HPB.out, HKB.out, if_neg (by decide), EX] at E
                  have HE := Lib.hid E
                  have ADD := Lib.hid (fun W (h : Below wr.heap.size wr W) (hl : Kd.R k54 54 W wr.heap.size (fun k => wr.heap.size + 1 ≤ k) (.slice A6 l.length c6) l) => addC (w0 := w0) (w := W) 2 r v A6 c6 l t sent ⟨#[]⟩ (led_below HL1.out h) (below_then HB1.out HBR.out h) (Nat.le_trans HBR.out h.size) (Kd.R_reads' hl).2.2 (Kd.R_reads' hl).2.1 H8.out HXX.out hrs hv HWT.out HLEN.out)
                  unfold pgV at ADD
                  have BPA := Lib.hid (blk_set (blk_set BP9.out 0 (.int .i64 1)) 0 (.int .i64 2))
                  have HBA := Lib.hid (below_set (j := 0) (v := .int .i64 2) (below_set (j := 0) (v := .int .i64 1) HBX.out (g := wr.heap.size) (Nat.le_refl _)) (g := wr.heap.size) (Nat.le_refl _))
                  have HLA := Lib.hid (Kd.R_set (Kd.R_set HLR9.out BP9.out (by decide) 0 (.int .i64 1)) (blk_set BP9.out 0 (.int .i64 1)) (by decide) 0 (.int .i64 2))
                  clear EX E
                  obtain ⟨x0, x1, x2, x3, x4, x5, x6⟩ := blk7 BP9.out
                  have zf0 := blk_frozen BP9.out 0
                  have zl := blk_lt BP9.out
                  go_wp2_with fail
                  refine (ADD.out _ HBA.out HLA.out).mono ?_
                  rintro e wA ⟨rfl, SA, hLA, hSA, hKA, hBA⟩
                  have hwaz : wr.heap.size < wA.heap.size := Nat.lt_of_lt_of_le (blk_lt BPA.out) hKA.1
                  have hwq : wq.heap.size < wr.heap.size := HGL.out
                  have hBPB := blk_kept BPA.out hKA (fun h => by have := HSL.out _ h; omega)
                  have hnS : ∀ k, ¬ S' k → k < (((w'.setCell ⟨wr.heap.size, 0, none⟩ (.int .i64 1)).setCell ⟨wr.heap.size, 0, none⟩ (.int .i64 2)) : World).heap.size → ¬ (SA k ∧ k < wA.heap.size) := fun k h1 h2 h3 => by rcases hSA k h3.1 with h4 | h4 <;> first | exact h1 h4 | omega
                  have hLR := Kd.R_kept (Kd.R_bound HLA.out) hKA (fun k hk h => by have h2 := hk.1; have h3 := HSL.out _ h; omega)
                  have hR := Kd.R_kept (Kd.R_bound (Kd.R_below HR1.out HBA.out)) hKA (fun k hk => hk.1.1)
                  have hT := Kd.R_kept (Kd.R_bound (Kd.R_below HT1.out HBA.out)) hKA (fun k hk => hk.1.1)
                  have HRA := Lib.hid (Kd.R_mono (ok' := fun k => ¬ (SA k ∧ k < wA.heap.size) ∧ k ≠ wq.heap.size) hR (fun k hk => ⟨hnS k hk.1.1 hk.2.2.1, hk.1.2⟩))
                  have HTA := Lib.hid (Kd.R_mono (ok' := fun k => ¬ (SA k ∧ k < wA.heap.size) ∧ k ≠ wq.heap.size) hT (fun k hk => ⟨hnS k hk.1.1 hk.2.2.1, hk.1.2⟩))
                  have HLRA := Lib.hid (Kd.R_lower (Kd.R_mono (ok' := fun k => (¬ (SA k ∧ k < wA.heap.size) ∧ k ≠ wq.heap.size) ∧ some k ≠ u17.ownBlock) hLR (fun k hk => ⟨⟨hnS k (fun h => by have h2 := hk.1; have h3 := HSL.out _ h; omega) hk.2.2.1, by have h2 := hk.1; omega⟩, fun e => by have h2 := hk.1; have h3 := Kd.R_lt HR1.out k e.symm; omega⟩)) (Nat.le_trans HG.out (Nat.le_of_lt hwq)))
                  have HLED := Lib.hid (led_bound hLA)
                  have HSB := Lib.hid (show ∀ k, (SA k ∧ k < wA.heap.size) → S k ∨ w.heap.size ≤ k from fun k hk => by rcases hSA k hk.1 with h | h <;> first | exact HS1.out k h | exact .inr (by have h5 := HBA.out.size; have h6 := HG.out; omega))
                  have HKB2 := Lib.hid ((Kept.below HK1.out HBA.out).then_ hKA (fun k hk => HS1.out k hk))
                  have HBB := Lib.hid hBA
                  have HBPB := Lib.hid hBPB
                  have HXA := Lib.hid (blk_kept (blk_below HX1.out HBA.out) hKA HSG.out)
                  have HSGA := Lib.hid (hnS _ HSG.out (blk_lt (blk_below HX1.out HBA.out)))
                  have HWAZ := Lib.hid hwaz
                  clear hLA hSA hKA hBA hBPB hnS hLR hR hT hwaz x0 x1 x2 x3 x4 x5 x6 zf0 zl ADD HBA HLA BPA BP9 HLR9 HBX
                  obtain ⟨x0, x1, x2, x3, x4, x5, x6⟩ := blk7 HBPB.out
                  go_wp2_with ((with_reducible refine gate_builtin (b := .append) (xs := #[.tmp 82, .tmp 84]) rfl ?_); at_builtin; refine Kd.R_append k31 (w0 := wA) w.heap.size rfl (.tmp 82) (.tmp 84) 25 31 (.agg #[(.int .i64 0), (.string ⟨#[]⟩), (.int .i64 0), (.slice none 0 0), (.int .i64 0), (.int .i64 0), (.string ⟨#[]⟩)]) 88 rfl Try.underlying25 info31 rfl (by decide) (by omega) u17 st.2 (⟨2, r, v, l, t, sent, ⟨#[]⟩⟩ : S31) [.int .i64 2, .string r, .int .i64 v, .slice A6 l.length c6, .int .i64 t, .int .i64 sent, .string ⟨#[]⟩] _ (fun k => (¬ (SA k ∧ k < wA.heap.size) ∧ k ≠ wq.heap.size) ∧ some k ≠ u17.ownBlock) rfl (by first | rfl | (simp; rfl)) ?aP (fun k hk => hk) ?aF HRA.out (Below.refl _ _) ?aS ?aL ?_; (case aP => exact k31_mkM _ _ _ (⟨2, r, v, l, t, sent, ⟨#[]⟩⟩ : S31) HLRA.out); (case aF => exact (fun k hk => ⟨fun h => by have h2 := h.2; omega, by have h2 := HWAZ.out; have h3 := HGL.out; omega⟩)); (case aS => (have h2 := HWAZ.out; have h3 := HGL.out; have h4 := HG.out; omega)); (case aL => (have h5 := HLEN.out; have h6 := HLEN2.out; omega)); intro v9 w9 ho9 hb9 hg9 ha9)
                  have hne : ∀ k, u17.ownBlock = some k → ¬ (SA k ∧ k < wA.heap.size) := fun k hk => (HRA.out.1 k hk).1
                  have HI2 := Lib.hid (show AmI w0 w base p S wq.heap.size r v (.slice A l.length c) sent (.slice (some ad) ts.length c5) ts (st.1 ++ [(⟨2, r, v, l, t, sent, ⟨#[]⟩⟩ : S31)], st.2 ++ [(⟨2, r, v, l, t, sent, ⟨#[]⟩⟩ : S31)]) v9 w9 from ⟨fun k => SA k ∧ k < wA.heap.size, led_grown HLED.out hg9 hne, HSB.out, fun k hk => Nat.lt_of_lt_of_le hk.2 hg9.size, Kept.of_grown hg9 HKB2.out (fun k hk => .inr (Kd.R_base HRA.out k hk)), HBB.out.grown hg9 (Nat.le_trans HBR.out (Nat.le_of_lt HWAZ.out)) (fun k hk => Nat.le_trans HBS.out (Kd.R_base HRA.out k hk)), ho9, Kd.R_over HTA.out HRA.out (by decide) hg9, HSGA.out, blk_grown HXA.out hg9 (fun e => (HRA.out.1 _ e.symm).2 rfl)⟩)
                  rw [← HE.out] at HI2
                  clear ho9 hb9 hg9 ha9 hne x0 x1 x2 x3 x4 x5 x6 HRA HTA HLRA HLED HSB HKB2 HBB HBPB HXA HSGA HE HSTEP
                  go_wp2_with fail
                  go_roundw
                  case rel => exact ⟨i + 1, by go_num, (by have := HLT2.out; omega), HI2⟩
                  case measure => have := HLT2.out; simp [intOf]; omega
            · obtain rfl : i = ts.length := by omega
              go_wp2_with fail
              go_ret
              obtain ⟨S', hL', hS', hSl, hK', hB', hR', hT', hSg, hX'⟩ := HI.out
              rw [List.take_length] at hL' hR'
              exact ⟨_, S', rfl, by rw [E1.out]; exact Kd.R_mono hR' (fun k hk => hk.1), by rw [E2.out]; exact hL', hS', hK', hB'⟩
end led
end Go.Proofs.Ytgdojonkkfcaeaa.Q
