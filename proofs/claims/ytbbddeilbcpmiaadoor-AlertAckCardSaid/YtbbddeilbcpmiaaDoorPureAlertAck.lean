/- The plain law of AlertAck. -/
import Derived.Test.YtbbddeilbcpmiaaDoorPureOne
import Derived.Test.YtbbddeilbcpmiaaDoorMLawAck
namespace Go.Proofs.YtbbddeilbcpmiaaDoor.Pure
open Go.RowKit Go.Proofs.YtbbddeilbcpmiaaDoor.Q Go.Proofs.YtbbddeilbcpmiaaDoorW.PrintWords Go.Proofs.YtbbddeilbcpmiaaDoorW.PrintLast Go.Proofs.YtbbddeilbcpmiaaDoorW.PrintMore
theorem ack_good (n : ByteArray) (v : Int) {L : List S35} (hL : L.length ≤ 11) (st si lv t : Int) : ∃ K, ∀ k, K ≤ k → AckGood k n v L st si lv t := by
  obtain ⟨b, K, h⟩ := at_both n v L st si lv t
  refine ⟨K + 101, fun k hk => ?_⟩
  obtain ⟨h1, h2⟩ := h k (by omega)
  have hs := fun st si lv => same_refl n v (L := L) (by omega) st si lv (k := k) (by omega)
  have hz := same_refl (⟨#[]⟩ : ByteArray) 0 (L := []) (by decide) 0 0 0 (k := k) (by omega)
  have hc := fun a b c => changed_ok n v (L := L) (by omega) st si lv a b c
  have hw := fun a b c => with_ok n v L st si lv a b c
  cases b
  · refine ⟨⟨_, _, _, _, _, _, _, _, _, _, _, _, 1, ?_, ?_, hz⟩⟩
    · unfold alert_Ack.f; rw [h1]; rfl
    · unfold intervalmonref28_Ack.f; rw [h2]; rfl
  · by_cases c2 : st = 2
    · refine ⟨⟨_, _, _, _, _, _, _, _, _, _, _, _, 0, ?_, ?_, hs 3 t lv⟩⟩
      · unfold alert_Ack.f; rw [h1, Option.bind_some, if_pos rfl, if_pos c2, hc]; rfl
      · unfold intervalmonref28_Ack.f; rw [h2, Option.bind_some, if_pos rfl, if_pos c2, hw]; rfl
    · by_cases c4 : st = 4
      · refine ⟨⟨_, _, _, _, _, _, _, _, _, _, _, _, 0, ?_, ?_, hs 3 t lv⟩⟩
        · unfold alert_Ack.f; rw [h1, Option.bind_some, if_pos rfl, if_neg c2, if_pos c4, hc]; rfl
        · unfold intervalmonref28_Ack.f; rw [h2, Option.bind_some, if_pos rfl, if_neg c2, if_pos c4, hw]; rfl
      · refine ⟨⟨_, _, _, _, _, _, _, _, _, _, _, _, 20, ?_, ?_, hz⟩⟩
        · unfold alert_Ack.f; rw [h1, Option.bind_some, if_pos rfl, if_neg c2, if_neg c4]
        · unfold intervalmonref28_Ack.f; rw [h2, Option.bind_some, if_pos rfl, if_neg c2, if_neg c4]
theorem AlertAck : intervalmonlaw28_AlertAck.Pure := by
  intro l0 a1 a2 a3 _ _ hw h1 h2 h3
  obtain ⟨v, L, st, si, lv, hA, hg, hx, hr⟩ := alert_ok2 hw
  obtain ⟨n', v', L', st', si', lv', hB, hl', hx'⟩ := bent_ok2 hw h1 h2 hot v (by have := hg.1; omega) hx st si lv
  obtain ⟨K1, g1⟩ := ack_good hot v (L := L) (by have := hg.1; omega) st si lv a3
  obtain ⟨K2, g2⟩ := ack_good n' v' hl' st' si' lv' a3
  exact ⟨K1 + K2 + 20, hot, v, L, st, si, lv, n', v', L', st', si', lv', hA _ (by omega), hB _ (by omega), g1 _ (by omega), g2 _ (by omega)⟩
end Go.Proofs.YtbbddeilbcpmiaaDoor.Pure
