/- Of a letter the digit it is makes no difference to its case; small letters are lower. -/
import Derived.Test.YtkoddcihcoekgaaDoorPx3
import Derived.Test.YtkoddcihcoekgaaDoorUtf
import Derived.Test.YtkoddcihcoekgaaDoorRef01
namespace Go.Proofs.YtkoddcihcoekgaaDoor.Pure
open Go.RowKit Go.Proofs.YtkoddcihcoekgaaDoor.P Go.Proofs.YtkoddcihcoekgaaDoor.Pl Go.Proofs.YtkoddcihcoekgaaDoor.Utf Go.Proofs.YtkoddcihcoekgaaDoor.Ref01 Go.Proofs.YtkoddcihcoekgaaDoorW.PrintWords Go.Proofs.YtkoddcihcoekgaaDoorW.PrintLast
theorem UtfCase : carryalllaw01_UtfCase.Pure := by
  intro c hc
  have hb := byte_of hc
  obtain ⟨n, rfl, hn⟩ := nat_of hb
  refine ⟨30, ?_⟩
  have H : ∀ n : Nat, n < 256 → carryalllaw01_UtfCase.f 30 (n : Int) = some true := by decide +kernel
  exact H n hn
end Go.Proofs.YtkoddcihcoekgaaDoor.Pure
