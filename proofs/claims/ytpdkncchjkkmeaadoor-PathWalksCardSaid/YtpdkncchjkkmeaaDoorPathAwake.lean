/- path's law package: its awake answers true, with however many rounds from 60 on. -/
import Derived.Test.YtpdkncchjkkmeaaDoorPx3
namespace Go.Proofs.YtpdkncchjkkmeaaDoor.Path
open Go.RowKit Go.Proofs.YtpdkncchjkkmeaaDoor.P Go.Proofs.YtpdkncchjkkmeaaDoorW.PrintWords Go.Proofs.YtpdkncchjkkmeaaDoorW.PrintLast
theorem awake_at : ∀ (k : Nat), 60 ≤ k → carryalllaw10_awake.f k = some true := by
  intro k hk
  induction k with
  | zero => omega
  | succ k ih =>
    rcases Nat.lt_or_ge k 60 with h | h
    · obtain rfl : k = 59 := by omega
      decide +kernel
    · exact carryalllaw10_awake.mono k _ (ih h)
end Go.Proofs.YtpdkncchjkkmeaaDoor.Path
