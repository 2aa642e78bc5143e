/- quad's law package: its awake answers true, with however many rounds from 80 on. -/
import Derived.Test.YtniiccdonafhmaaDoorPx2
namespace Go.Proofs.YtniiccdonafhmaaDoor.Quad
open Go.RowKit Go.Proofs.YtniiccdonafhmaaDoor.P Go.Proofs.YtniiccdonafhmaaDoorW.PrintWords Go.Proofs.YtniiccdonafhmaaDoorW.PrintLast
theorem awake_at : ∀ (k : Nat), 80 ≤ k → carryalllaw07_awake.f k = some true := by
  intro k hk
  induction k with
  | zero => omega
  | succ k ih =>
    rcases Nat.lt_or_ge k 80 with h | h
    · obtain rfl : k = 79 := by omega
      decide +kernel
    · exact carryalllaw07_awake.mono k _ (ih h)
end Go.Proofs.YtniiccdonafhmaaDoor.Quad
