/- Each byte is meant by its two digits, of either letters: what the printed functions answer, worked out by the kernel at all 256 bytes. No condition. -/
import Derived.Test.YtmekpmfhckodaaaPx9
import Derived.Test.YtmekpmfhckodaaaPl
namespace Go.Proofs.Ytmekpmfhckodaaa.Pure
open Go.RowKit Go.Proofs.Ytmekpmfhckodaaa.P Go.Proofs.YtmekpmfhckodaaaW.PrintWords Go.Proofs.YtmekpmfhckodaaaW.PrintLast

theorem EscapeDigits : carryalllaw02_EscapeDigits.Pure := by
  intro a0 h
  obtain ⟨n, rfl, hn⟩ := Pl.u8_of h
  have H : ∀ n : Nat, n < 256 → carryalllaw02_EscapeDigits.f 60 (n : Int) = some true := by decide +kernel
  exact ⟨60, H n hn⟩
end Go.Proofs.Ytmekpmfhckodaaa.Pure
