/- What is a token, what may stand in quotes, texts without blanks at their ends, are what the document says; no condition but that of the statement itself. -/
import Derived.Test.YtflhnhjbbddgmaaDoorPx6
import Derived.Test.YtflhnhjbbddgmaaDoorTokT
namespace Go.Proofs.YtflhnhjbbddgmaaDoor.Pure
open Go.RowKit Go.Proofs.YtflhnhjbbddgmaaDoor.P Go.Proofs.YtflhnhjbbddgmaaDoor.Pl Go.Proofs.YtflhnhjbbddgmaaDoor.Tok Go.Proofs.YtflhnhjbbddgmaaDoorW.PrintWords Go.Proofs.YtflhnhjbbddgmaaDoorW.PrintLast
theorem TokenTells : carryalllaw04_TokenTells.Pure := by
  intro s _
  unfold carryalllaw04_TokenTells.f
  by_cases hn : (s.size : Int) > 500
  · refine ⟨50, ?_⟩
    rw [awake_at 50 (by omega), Option.bind_some, if_pos rfl, decide_eq_true hn, carryalllaw04_TokenTells.j0, if_pos rfl, awake_at 49 (by omega)]
    rfl
  · have hs : s.size ≤ 500 := by omega
    obtain ⟨k0, h0⟩ := quo_same s (by omega)
    have hz : s.data.toList.length = s.size := size_data s
    have r1 := rtrim_f s.data.toList (k0 + 3000) (by omega) (by omega)
    have r2 := rright_f s.data.toList (k0 + 3000) (by omega) (by omega)
    rw [Tok.mk_of] at r1 r2
    have q : token_Quotable.f s = some (Quo.quoB s) := by unfold token_Quotable.f; rw [if_pos (by omega)]
    refine ⟨k0 + 3000 + 1, ?_⟩
    rw [awake_at _ (by omega), Option.bind_some, if_pos rfl, decide_eq_false hn, carryalllaw04_TokenTells.j0, if_neg Bool.false_ne_true, is_f (by omega) (by omega), Option.bind_some, ris_f (by omega) (by omega), Option.bind_some, if_pos (by simp), q, Option.bind_some, h0 _ (by omega), Option.bind_some, if_pos (by simp), trim_f (by omega), Option.bind_some]
    show (carryallref01_Trim.f (k0 + 3000) s BL).bind _ = _
    rw [r1, Option.bind_some, if_pos rfl, right_f (by omega), Option.bind_some]
    show (carryallref01_Right.f (k0 + 3000) s BL).bind _ = _
    rw [r2, Option.bind_some]
    simp
end Go.Proofs.YtflhnhjbbddgmaaDoor.Pure
