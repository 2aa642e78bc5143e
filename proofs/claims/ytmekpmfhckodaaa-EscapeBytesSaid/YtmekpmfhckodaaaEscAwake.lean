/- The law package of escape: its awake answers true, with however many rounds from 60 on. -/
import Derived.Test.YtmekpmfhckodaaaPx2
namespace Go.Proofs.Ytmekpmfhckodaaa.Esc
open Go.RowKit Go.Proofs.Ytmekpmfhckodaaa.P Go.Proofs.YtmekpmfhckodaaaW.PrintWords Go.Proofs.YtmekpmfhckodaaaW.PrintLast

theorem awake_at : ∀ (k : Nat), 60 ≤ k → carryalllaw02_awake.f k = some true := by
  intro k hk
  induction k with
  | zero => omega
  | succ k ih =>
    rcases Nat.lt_or_ge k 60 with h | h
    · obtain rfl : k = 59 := by omega
      decide +kernel
    · exact carryalllaw02_awake.mono k _ (ih h)
end Go.Proofs.Ytmekpmfhckodaaa.Esc
