/- Which range any text is, or that it is none, is what the reference says. -/
import Derived.Test.YtpgdafckelecjaaDoorPx5
import Derived.Test.YtpgdafckelecjaaDoorSpan
import Derived.Test.YtpgdafckelecjaaDoorSpanAwake
namespace Go.Proofs.YtpgdafckelecjaaDoor.Pure
open Go.RowKit Go.Proofs.YtpgdafckelecjaaDoor.P Go.Proofs.YtpgdafckelecjaaDoor.Pl Go.Proofs.YtpgdafckelecjaaDoor.Span Go.Proofs.YtpgdafckelecjaaDoorW.PrintWords Go.Proofs.YtpgdafckelecjaaDoorW.PrintLast
theorem SpanReads : carryalllaw20_SpanReads.Pure := by
  intro s hs
  obtain ⟨K, hK⟩ : ∃ K : Nat, 1000 ≤ K := ⟨1000, Nat.le_refl _⟩
  refine ⟨K + 1, ?_⟩
  unfold carryalllaw20_SpanReads.f
  rw [awake_at (K + 1) (by omega), Option.bind_some, if_pos rfl]
  by_cases hn : s.size ≤ 300
  · rw [decide_eq_false (by omega), carryalllaw20_SpanReads.j0, if_neg Bool.false_ne_true, parse_f hs (by omega), Option.bind_some, rparse_f hs (by omega), Option.bind_some]
    simp
  · rw [decide_eq_true (by omega), carryalllaw20_SpanReads.j0, if_pos rfl, awake_at K (by omega)]
    rfl
end Go.Proofs.YtpgdafckelecjaaDoor.Pure
