/- The reference's number of a letter is its place in the alphabet. -/
import Derived.Test.YtbobbbpjphkooaaDoorPx1
import Derived.Test.YtbobbbpjphkooaaDoorPx2
import Derived.Test.YtbobbbpjphkooaaDoorBaG
namespace Go.Proofs.YtbobbbpjphkooaaDoor.BaR
open Go.RowKit Go.Proofs.YtbobbbpjphkooaaDoor.P Go.Proofs.YtbobbbpjphkooaaDoor.Pl Go.Proofs.YtbobbbpjphkooaaDoor.BaG Go.Proofs.YtbobbbpjphkooaaDoorW.PrintWords Go.Proofs.YtbobbbpjphkooaaDoorW.PrintLast Go.Proofs.YtbobbbpjphkooaaDoorW.PrintMore
set_option maxRecDepth 100000 in
theorem num_65 : ∀ n : Nat, n < 256 → carryallref03_number.f 65 (n : Int) = some (idx (n : Int)) := by decide +kernel
theorem num_f (n : Nat) (h : n < 256) : ∀ k : Nat, 65 ≤ k → carryallref03_number.f k (n : Int) = some (idx (n : Int)) := by
  intro k hk
  induction k with
  | zero => omega
  | succ k ih =>
    rcases Nat.lt_or_ge k 65 with h1 | h1
    · obtain rfl : k = 64 := by omega
      exact num_65 n h
    · have := carryallref03_number.mono (n : Int) k
      exact this _ (ih h1)
end Go.Proofs.YtbobbbpjphkooaaDoor.BaR
