/- A quoted string's value, and how far it goes, and a text in quotes, are what the document says; no condition but that of the statement itself. -/
import Derived.Test.YtflhnhjbbddgmaaDoorPx2
import Derived.Test.YtflhnhjbbddgmaaDoorQtp
namespace Go.Proofs.YtflhnhjbbddgmaaDoor.Pure
open Go.RowKit Go.Proofs.YtflhnhjbbddgmaaDoor.P Go.Proofs.YtflhnhjbbddgmaaDoor.Pl Go.Proofs.YtflhnhjbbddgmaaDoor.Qt Go.Proofs.YtflhnhjbbddgmaaDoorW.PrintWords Go.Proofs.YtflhnhjbbddgmaaDoorW.PrintLast
theorem TokenQuotes : carryalllaw04_TokenQuotes.Pure := by
  intro s _
  unfold carryalllaw04_TokenQuotes.f
  refine ⟨3000 + 1, ?_⟩
  by_cases hn : (s.size : Int) > 500
  · rw [awake_at _ (by omega), Option.bind_some, if_pos rfl, decide_eq_true hn, carryalllaw04_TokenQuotes.j0, if_pos rfl, awake_at _ (by omega)]
    rfl
  · have hs : s.size ≤ 500 := by omega
    have e1 : (⟨#[34]⟩ : ByteArray).size = 1 := rfl
    have hz : ((⟨#[34]⟩ : ByteArray) ++ s).size ≤ 501 := by rw [ByteArray.size_append]; omega
    rw [awake_at _ (by omega), Option.bind_some, if_pos rfl, decide_eq_false hn, carryalllaw04_TokenQuotes.j0, if_neg Bool.false_ne_true, quoted_f s (by omega) _ (by omega), Option.bind_some, rquoted_f s (by omega) _ (by omega), Option.bind_some, if_pos (by omega), quoted_f _ (by omega) _ (by omega), Option.bind_some, rquoted_f _ (by omega) _ (by omega), Option.bind_some, if_pos rfl, if_pos rfl, if_pos rfl, if_pos rfl, quote_f s (by omega), Option.bind_some, rquote_f s (by omega) _ (by omega), Option.bind_some]
    simp
end Go.Proofs.YtflhnhjbbddgmaaDoor.Pure
