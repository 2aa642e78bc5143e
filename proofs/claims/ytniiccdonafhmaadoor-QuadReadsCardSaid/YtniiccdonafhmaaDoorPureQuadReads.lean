/- Whether any text ends in a number, and its address, are what the reference says. -/
import Derived.Test.YtniiccdonafhmaaDoorPx5
import Derived.Test.YtniiccdonafhmaaDoorQuadP
import Derived.Test.YtniiccdonafhmaaDoorQuadAwake
namespace Go.Proofs.YtniiccdonafhmaaDoor.Pure
open Go.RowKit Go.Proofs.YtniiccdonafhmaaDoor.P Go.Proofs.YtniiccdonafhmaaDoor.Pl Go.Proofs.YtniiccdonafhmaaDoor.Quad Go.Proofs.YtniiccdonafhmaaDoorW.PrintWords Go.Proofs.YtniiccdonafhmaaDoorW.PrintLast
theorem QuadReads : carryalllaw07_QuadReads.Pure := by
  intro s hs
  obtain ⟨K, hK⟩ : ∃ K : Nat, 2000 ≤ K := ⟨2000, Nat.le_refl _⟩
  refine ⟨K + 1, ?_⟩
  unfold carryalllaw07_QuadReads.f
  rw [awake_at (K + 1) (by omega), Option.bind_some, if_pos rfl]
  by_cases hn : s.size ≤ 300
  · rw [decide_eq_false (by omega), carryalllaw07_QuadReads.j0, if_neg Bool.false_ne_true, parse_f s (by omega) K (by omega), Option.bind_some, rparse_f s (by omega) K (by omega), Option.bind_some, ends_f s (by omega) K (by omega), rends_f s (by omega) K (by omega)]
    simp
  · rw [decide_eq_true (by omega), carryalllaw07_QuadReads.j0, if_pos rfl, awake_at K (by omega)]
    rfl
end Go.Proofs.YtniiccdonafhmaaDoor.Pure
