/- intervalmonref28.At and with: as the laws on single alerts use them. -/
import Derived.Test.YtbbddeilbcpmiaaDoorMLawKit
import Derived.Test.YtbbddeilbcpmiaaDoorQ18
namespace Go.Proofs.YtbbddeilbcpmiaaDoor.Q
open Go.RowKit Go.Proofs.YtbbddeilbcpmiaaDoorW.PrintWords Go.Proofs.YtbbddeilbcpmiaaDoorW.PrintLast Go.Proofs.YtbbddeilbcpmiaaDoorW.PrintMore
namespace lk
theorem c51 {k : Nat} {n : ByteArray} {v : Int} {A : Option Addr} {c : Nat} {L : List S35} {st si lv a1 : Int} {r : Bool} (W : World) {base : Nat} (hR : LR W base A c L) (h : intervalmonref28_At.f k n v L st si lv a1 = some r) :
    Calls Tryd.prog 51 #[.agg #[.string n, .int .i64 v, .slice A L.length c, .int .i64 st, .int .i64 si, .int .i64 lv], .int .i64 a1] W fun e w' => e = .returned (.bool r) ∧ Below W.heap.size W w' :=
  intervalmonref28_At.calls k n v A c L st si lv a1 r W (lr_C hR) (lr_le hR) h
theorem c52 {n : ByteArray} {v : Int} {A : Option Addr} {c : Nat} {L : List S35} {st si lv a1 a2 a3 : Int} (W : World) :
    Calls Tryd.prog 52 #[.agg #[.string n, .int .i64 v, .slice A L.length c, .int .i64 st, .int .i64 si, .int .i64 lv], .int .i64 a1, .int .i64 a2, .int .i64 a3] W fun e w' => e = .returned (.agg #[.string n, .int .i64 v, .slice A L.length c, .int .i64 a1, .int .i64 a2, .int .i64 a3]) ∧ Below W.heap.size W w' := by
  go_enter Tryd.func52, Tryd.ntmps52
  go_wp2
  exact bodyPost_ret (v := .agg #[.string n, .int .i64 v, .slice A L.length c, .int .i64 a1, .int .i64 a2, .int .i64 a3]) (by simp [results, Tryd.results52, go_sem]) rfl ⟨rfl, below_alloc (below_alloc (Below.refl _ _) _) _⟩
end lk
end Go.Proofs.YtbbddeilbcpmiaaDoor.Q
