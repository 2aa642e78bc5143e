/- span's law package: its awake answers true, with however many rounds from 40 on. -/
import Derived.Test.YtpgdafckelecjaaDoorPx3
namespace Go.Proofs.YtpgdafckelecjaaDoor.Span
open Go.RowKit Go.Proofs.YtpgdafckelecjaaDoor.P Go.Proofs.YtpgdafckelecjaaDoorW.PrintWords Go.Proofs.YtpgdafckelecjaaDoorW.PrintLast
theorem awake_at : ∀ (k : Nat), 40 ≤ k → carryalllaw20_awake.f k = some true := by
  intro k hk
  induction k with
  | zero => omega
  | succ k ih =>
    rcases Nat.lt_or_ge k 40 with h | h
    · obtain rfl : k = 39 := by omega
      decide +kernel
    · exact carryalllaw20_awake.mono k _ (ih h)
end Go.Proofs.YtpgdafckelecjaaDoor.Span
