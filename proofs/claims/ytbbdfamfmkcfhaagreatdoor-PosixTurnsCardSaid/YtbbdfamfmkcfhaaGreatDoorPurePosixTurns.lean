/- Whether any path is fine, and its URL, are what the document says; no condition but that of the statement itself. -/
import Derived.Test.YtbbdfamfmkcfhaaGreatDoorPx11
import Derived.Test.YtbbdfamfmkcfhaaGreatDoorPsT
namespace Go.Proofs.YtbbdfamfmkcfhaaGreatDoor.Pure
open Go.RowKit Go.Proofs.YtbbdfamfmkcfhaaGreatDoor.P Go.Proofs.YtbbdfamfmkcfhaaGreatDoor.Pl Go.Proofs.YtbbdfamfmkcfhaaGreatDoor.Spl Go.Proofs.YtbbdfamfmkcfhaaGreatDoor.Ps Go.Proofs.YtbbdfamfmkcfhaaGreatDoorW.PrintWords Go.Proofs.YtbbdfamfmkcfhaaGreatDoorW.PrintLast Go.Proofs.YtbbdfamfmkcfhaaGreatDoorW.PrintMore
theorem PosixTurns : carryalllaw15_PosixTurns.Pure := by
  intro s _
  by_cases hl : s.size ≤ 500
  · obtain ⟨k0, hk0⟩ := rfine_f s (by omega)
    refine ⟨k0 + 10001, ?_⟩
    have hz2 : (s.extract 1 s.size).size ≤ s.size := by rw [ByteArray.size_extract]; omega
    have hln := lst_len (s.extract 1 s.size)
    unfold carryalllaw15_PosixTurns.f
    rw [awake_at _ (by omega), Option.bind_some, if_pos rfl, decide_eq_false (by omega), carryalllaw15_PosixTurns.j0, if_neg Bool.false_ne_true, rurl_f s hl _ (by omega) (hk0 _ (by omega)), hk0 _ (by omega), fine_f s (by omega) _ (by omega), seg_f s (by omega), rseg_f s (by omega) _ (by omega)]
    cases hf : fineB s with
    | true =>
      rw [url_f s (by omega) _ (by omega) hf, if_pos rfl, Option.bind_some, Option.bind_some, Option.bind_some, Option.bind_some]
      dsimp only
      rw [if_pos (by decide), if_pos (by decide), if_pos rfl, same_f _ _ _ _ _ _ _ _ (by rw [List.length_map]; omega) _ _ _ (by rw [List.length_map]; omega), Option.bind_some, if_pos rfl, Option.bind_some, Option.bind_some]
      simp
    | false =>
      rw [url_no s (by omega) _ (by omega) hf, if_neg Bool.false_ne_true, Option.bind_some, Option.bind_some, Option.bind_some, Option.bind_some]
      dsimp only
      rw [if_pos (by decide), if_pos (by decide), if_neg Bool.false_ne_true, if_pos rfl, same_f _ _ _ _ _ _ _ _ (by simp) _ _ _ (by simp), Option.bind_some, if_pos rfl, Option.bind_some, Option.bind_some]
      simp
  · refine ⟨200, ?_⟩
    unfold carryalllaw15_PosixTurns.f
    rw [awake_at _ (by omega), Option.bind_some, if_pos rfl, decide_eq_true (by omega), carryalllaw15_PosixTurns.j0, if_pos rfl, awake_at _ (by omega)]
    rfl
end Go.Proofs.YtbbdfamfmkcfhaaGreatDoor.Pure
