/- The law package of url: its awake answers true, with however many rounds from 20 on. -/
import Derived.Test.YtamoggikjaoanaaDoorPx2
namespace Go.Proofs.YtamoggikjaoanaaDoor.UrlP
open Go.RowKit Go.Proofs.YtamoggikjaoanaaDoor.P Go.Proofs.YtamoggikjaoanaaDoorW.PrintWords Go.Proofs.YtamoggikjaoanaaDoorW.PrintLast
theorem awake_at : ∀ (k : Nat), 20 ≤ k → carryalllaw11_awake.f k = some true := by
  intro k hk
  induction k with
  | zero => omega
  | succ k ih =>
    rcases Nat.lt_or_ge k 20 with h | h
    · obtain rfl : k = 19 := by omega
      decide +kernel
    · exact carryalllaw11_awake.mono k _ (ih h)
end Go.Proofs.YtamoggikjaoanaaDoor.UrlP
