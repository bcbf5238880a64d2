/- The contracts that the law functions on single alerts use, each with 'nothing that existed has changed'. -/
import Derived.Test.YtbbddeilbcpmiaaDoorQ6
import Derived.Test.YtbbddeilbcpmiaaDoorQ8
import Derived.Test.YtbbddeilbcpmiaaDoorQ20
import Derived.Test.YtbbddeilbcpmiaaDoorMLives28
import Derived.Outline
import Derived.Lib.Hide
namespace Go.Proofs.YtbbddeilbcpmiaaDoor.Q
open Go.RowKit Go.Proofs.YtbbddeilbcpmiaaDoorW.PrintWords Go.Proofs.YtbbddeilbcpmiaaDoorW.PrintLast Go.Proofs.YtbbddeilbcpmiaaDoorW.PrintMore
namespace lk
/-- The cells of an alert. -/
def cells (n : ByteArray) (v : Int) (A : Option Addr) (L : List S35) (c : Nat) (st si lv : Int) : Array Value := #[.string n, .int .i64 v, .slice A L.length c, .int .i64 st, .int .i64 si, .int .i64 lv]
theorem below_of_kept {w0 W W2 : World} (hB : Below w0.heap.size w0 W) (hb : Below w0.heap.size w0 W2) (hk : Kept W W2 (fun (_ : Nat) => False)) : Below W.heap.size W W2 :=
  ⟨hb.os.trans hB.os.symm, hb.tape.trans hB.tape.symm, hb.output.trans hB.output.symm, hk.1, fun i hi => hk.2 i hi (fun h => h)⟩
/-- A row of labels of the call's own. -/
abbrev LR (W : World) (base : Nat) (A : Option Addr) (c : Nat) (L : List S35) : Prop := Kd.R k35 35 W base (fun _ => True) (.slice A L.length c) L
theorem lr_of {W : World} {base : Nat} {P : Nat → Prop} {v : Value} {L : List S35} (h : Kd.R k35 35 W base P v L) : ∃ A c, v = .slice A L.length c ∧ LR W base A c L := by
  obtain ⟨A, c, rfl⟩ := Kd.R_slice h
  exact ⟨A, c, rfl, Kd.R_mono h (fun _ _ => trivial)⟩
theorem lr_C {W : World} {base : Nat} {A : Option Addr} {c : Nat} {L : List S35} (h : LR W base A c L) : Kd.C k35 W A L.length L := (Kd.R_reads' h).2.2
theorem lr_le {W : World} {base : Nat} {A : Option Addr} {c : Nat} {L : List S35} (h : LR W base A c L) : L.length ≤ c := (Kd.R_reads' h).2.1
theorem lr_below {W W2 : World} {base : Nat} {A : Option Addr} {c : Nat} {L : List S35} (h : LR W base A c L) (hb : Below W.heap.size W W2) : LR W2 base A c L := Kd.R_below h hb

theorem c13 {k : Nat} {l0 : List Int} {A0 : Option Addr} {c0 : Nat} {n : ByteArray} {v : Int} {L : List S35} {st si lv : Int} (w0 W : World) (hB : Below w0.heap.size w0 W) (hr : Kd.C (Kd.int .i64) w0 A0 l0.length l0) (hc : l0.length ≤ c0) (h : intervalmonref28_Alert.f k l0 = some (n, v, L, st, si, lv)) :
    Calls Tryd.prog 13 #[.slice A0 l0.length c0] W fun e w' => ∃ A c, e = .returned (.agg #[.string n, .int .i64 v, .slice A L.length c, .int .i64 st, .int .i64 si, .int .i64 lv]) ∧ LR w' w0.heap.size A c L ∧ Below W.heap.size W w' := by
  refine (intervalmonref28_Alert.calls k A0 c0 l0 n v L st si lv W (Kd.C_below hr hB) hc h).mono ?_
  rintro e w' ⟨u, rfl, hR, hb⟩
  obtain ⟨A, c, rfl, hR2⟩ := lr_of hR
  exact ⟨A, c, rfl, Kd.R_lower hR2 hB.size, hb⟩
theorem c14 {k : Nat} {l0 : List Int} {A0 : Option Addr} {c0 : Nat} {n n' : ByteArray} {v v' : Int} {A : Option Addr} {c : Nat} {L L' : List S35} {st si lv st' si' lv' a1 a2 : Int} (w0 W : World) (hB : Below w0.heap.size w0 W) (hR : LR W w0.heap.size A c L) (hr : Kd.C (Kd.int .i64) w0 A0 l0.length l0) (hc : l0.length ≤ c0) (h : intervalmonlaw28_bent.f k n v L st si lv a1 a2 l0 = some (n', v', L', st', si', lv')) :
    Calls Tryd.prog 14 #[.agg #[.string n, .int .i64 v, .slice A L.length c, .int .i64 st, .int .i64 si, .int .i64 lv], .int .i64 a1, .int .i64 a2, .slice A0 l0.length c0] W fun e w' => ∃ A' c', e = .returned (.agg #[.string n', .int .i64 v', .slice A' L'.length c', .int .i64 st', .int .i64 si', .int .i64 lv']) ∧ LR w' w0.heap.size A' c' L' ∧ Below W.heap.size W w' := by
  refine (intervalmonlaw28_bent.calls k n v (fun _ => True) _ L st si lv a1 a2 A0 c0 l0 n' v' L' st' si' lv' w0 W hB hR (Kd.C_kept_came (Kd.heap_int .i64) hr hB (fun _ hk => hk.elim)) hc h).mono ?_
  · rintro e w' ⟨u, rfl, hR, hb, hk⟩
    obtain ⟨A', c', rfl, hR2⟩ := lr_of hR
    exact ⟨A', c', rfl, hR2, below_of_kept hB hb hk⟩
theorem c20 {k : Nat} {n n' : ByteArray} {v v' : Int} {A A' : Option Addr} {c c' : Nat} {L L' : List S35} {st si lv st' si' lv' : Int} {b b' : Nat} {r : Bool} (W : World) (hR : LR W b A c L) (hR' : LR W b' A' c' L') (h : intervalmonref28_Same.f k n v L st si lv n' v' L' st' si' lv' = some r) :
    Calls Tryd.prog 20 #[.agg #[.string n, .int .i64 v, .slice A L.length c, .int .i64 st, .int .i64 si, .int .i64 lv], .agg #[.string n', .int .i64 v', .slice A' L'.length c', .int .i64 st', .int .i64 si', .int .i64 lv']] W fun e w' => e = .returned (.bool r) ∧ Below W.heap.size W w' :=
  intervalmonref28_Same.calls k n v A c L st si lv n' v' A' c' L' st' si' lv' r W (lr_C hR) (lr_le hR) (lr_C hR') (lr_le hR') h
theorem c17 (W : World) (hLd : Allowed W) (h : intervalmonlaw28_lives.f = some true) : Calls Tryd.prog 17 #[] W fun e w' => e = .returned (.bool true) ∧ Below W.heap.size W w' :=
  intervalmonlaw28_lives.calls true W hLd h
theorem blk6 {W : World} {g : Nat} {v0 v1 v2 v3 v4 v5 : Value} (h : W.heap[g]? = some (.cells #[v0, v1, v2, v3, v4, v5] 25 (0, 0))) : W.cell? ⟨g, 0, none⟩ = some v0 ∧ W.cell? ⟨g, 1, none⟩ = some v1 ∧ W.cell? ⟨g, 2, none⟩ = some v2 ∧ W.cell? ⟨g, 3, none⟩ = some v3 ∧ W.cell? ⟨g, 4, none⟩ = some v4 ∧ W.cell? ⟨g, 5, none⟩ = some v5 :=
  ⟨(blk_cell h 0).trans rfl, (blk_cell h 1).trans rfl, (blk_cell h 2).trans rfl, (blk_cell h 3).trans rfl, (blk_cell h 4).trans rfl, (blk_cell h 5).trans rfl⟩
theorem blk_new (W : World) (cs : Array Value) (t : TypeId) : (W.alloc (.cells cs t)).heap[W.heap.size]? = some (.cells cs t (0, 0)) := heap_alloc_new W _
theorem blk_old {W : World} {g : Nat} {x : Obj} (h : W.heap[g]? = some x) (o : Obj) : (W.alloc o).heap[g]? = some x := blk_alloc h o
/-- A whole alert stored into a block. -/
theorem six_R {W : World} {base : Nat} {g : Nat} {v0 v1 v2 v3 v4 v5 u : Value} {L : List S35} {cs : Array Value} (h : Kd.R k35 35 W base (fun _ => True) u L) (hb : W.heap[g]? = some (.cells cs 25 (0, 0))) : Kd.R k35 35 ((((((W.setCell ⟨g, 0, none⟩ v0).setCell ⟨g, 1, none⟩ v1).setCell ⟨g, 2, none⟩ v2).setCell ⟨g, 3, none⟩ v3).setCell ⟨g, 4, none⟩ v4).setCell ⟨g, 5, none⟩ v5) base (fun _ => True) u L :=
  Kd.R_mono (Kd.R_far (p := ⟨g, 5, none⟩) (Kd.R_far (p := ⟨g, 4, none⟩) (Kd.R_far (p := ⟨g, 3, none⟩) (Kd.R_far (p := ⟨g, 2, none⟩) (Kd.R_far (p := ⟨g, 1, none⟩) (Kd.R_far (p := ⟨g, 0, none⟩) (Kd.R_types h hb (by decide)) (fun _ hk => hk.2) v0) (fun _ hk => hk.2) v1) (fun _ hk => hk.2) v2) (fun _ hk => hk.2) v3) (fun _ hk => hk.2) v4) (fun _ hk => hk.2) v5) (fun _ _ => trivial)
theorem six_B {w W : World} {g : Nat} {v0 v1 v2 v3 v4 v5 : Value} (hB : Below w.heap.size w W) (hg : w.heap.size ≤ g) : Below w.heap.size w ((((((W.setCell ⟨g, 0, none⟩ v0).setCell ⟨g, 1, none⟩ v1).setCell ⟨g, 2, none⟩ v2).setCell ⟨g, 3, none⟩ v3).setCell ⟨g, 4, none⟩ v4).setCell ⟨g, 5, none⟩ v5) := below_set (below_set (below_set (below_set (below_set (below_set (hB) hg) hg) hg) hg) hg) hg
theorem six_K {W : World} {g : Nat} {u0 u1 u2 u3 u4 u5 v0 v1 v2 v3 v4 v5 : Value} (hb : W.heap[g]? = some (.cells #[u0, u1, u2, u3, u4, u5] 25 (0, 0))) : ((((((W.setCell ⟨g, 0, none⟩ v0).setCell ⟨g, 1, none⟩ v1).setCell ⟨g, 2, none⟩ v2).setCell ⟨g, 3, none⟩ v3).setCell ⟨g, 4, none⟩ v4).setCell ⟨g, 5, none⟩ v5).heap[g]? = some (.cells #[v0, v1, v2, v3, v4, v5] 25 (0, 0)) := by
  have e := blk_set (blk_set (blk_set (blk_set (blk_set (blk_set hb 0 v0) 1 v1) 2 v2) 3 v3) 4 v4) 5 v5
  exact e
/-- The first label of a row of the call's own: where it lies. -/
theorem lr_form {W : World} {base : Nat} {A : Option Addr} {c : Nat} {L : List S35} (h : LR W base A c L) (hL : 0 < L.length) : ∃ g cur, A = some ⟨g, 0, none⟩ ∧ base ≤ g ∧ W.heap[g]? = some (.cells cur 35 (0, 0)) ∧ W.cell? ⟨g, 1, none⟩ = some (.string (rd_T35 L 0).f1) := by
  obtain ⟨ad, hA, _, h1⟩ := at_T35 (lr_C h) 0 (by omega) (by omega)
  obtain ⟨_, inner, ⟨_, ho⟩, _⟩ := h
  rcases ho with ⟨_, h0⟩ | ⟨g, cap, cur, e, hg, hh, _⟩
  · omega
  · injection e with e1 _ _
    have e2 : ad = ⟨g, 0, none⟩ := Option.some.inj (hA.symm.trans e1)
    subst e2
    exact ⟨g, cur, e1, hg, hh, by rw [add_plain] at h1; exact h1⟩
theorem six_O {W : World} {g b : Nat} {t : TypeId} {cs : Array Value} {v0 v1 v2 v3 v4 v5 : Value} (h : W.heap[b]? = some (.cells cs t (0, 0))) (hne : b ≠ g) : ((((((W.setCell ⟨g, 0, none⟩ v0).setCell ⟨g, 1, none⟩ v1).setCell ⟨g, 2, none⟩ v2).setCell ⟨g, 3, none⟩ v3).setCell ⟨g, 4, none⟩ v4).setCell ⟨g, 5, none⟩ v5).heap[b]? = some (.cells cs t (0, 0)) := blk_far (blk_far (blk_far (blk_far (blk_far (blk_far (h) hne v0) hne v1) hne v2) hne v3) hne v4) hne v5
end lk
end Go.Proofs.YtbbddeilbcpmiaaDoor.Q
