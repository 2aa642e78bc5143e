/- Each set has what the ones ahead of it on the way have, for every byte: what the printed functions answer, worked out by the kernel at all 256 bytes. No condition. -/
import Derived.Test.YtmekpmfhckodaaaPx7
import Derived.Test.YtmekpmfhckodaaaPl
namespace Go.Proofs.Ytmekpmfhckodaaa.Pure
open Go.RowKit Go.Proofs.Ytmekpmfhckodaaa.P Go.Proofs.YtmekpmfhckodaaaW.PrintWords Go.Proofs.YtmekpmfhckodaaaW.PrintLast

theorem EscapeGrows : carryalllaw02_EscapeGrows.Pure := by
  intro a0 h
  obtain ⟨n, rfl, hn⟩ := Pl.u8_of h
  have H : ∀ n : Nat, n < 256 → carryalllaw02_EscapeGrows.f 60 (n : Int) = some true := by decide +kernel
  exact ⟨60, H n hn⟩
end Go.Proofs.Ytmekpmfhckodaaa.Pure
