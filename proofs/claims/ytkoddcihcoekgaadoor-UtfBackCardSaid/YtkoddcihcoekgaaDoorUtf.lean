/- Digits, letters of bytes: the program's are the reference's; the law package's awake. -/
import Derived.Test.YtkoddcihcoekgaaDoorPx1
import Derived.Test.YtkoddcihcoekgaaDoorPx5
import Derived.Test.YtkoddcihcoekgaaDoorPx6
import Derived.Test.YtkoddcihcoekgaaDoorPl
namespace Go.Proofs.YtkoddcihcoekgaaDoor.Utf
open Go.RowKit Go.Proofs.YtkoddcihcoekgaaDoor.P Go.Proofs.YtkoddcihcoekgaaDoor.Pl Go.Proofs.YtkoddcihcoekgaaDoorW.PrintWords Go.Proofs.YtkoddcihcoekgaaDoorW.PrintLast
set_option linter.unusedVariables false
def hexv (c : Int) : Int := if 48 ≤ c ∧ c ≤ 57 then c - 48 else if 97 ≤ c ∧ c ≤ 102 then c - 87 else if 65 ≤ c ∧ c ≤ 70 then c - 55 else -1
def letB (c : Int) : Bool := (decide (65 ≤ c) && decide (c ≤ 90)) || (decide (97 ≤ c) && decide (c ≤ 122))
def digB (c : Int) : Bool := decide (48 ≤ c) && decide (c ≤ 57)
theorem nat_of {c : Int} (h : byte c) : ∃ n : Nat, c = n ∧ n < 256 := by
  obtain ⟨h0, h1⟩ := h
  exact ⟨c.toNat, by omega, by omega⟩
theorem hex_f {c : Int} (hb : byte c) : ∀ k, 1 ≤ k → utf_Hex.f k c = some (hexv c) := by
  intro k hk
  induction k with
  | zero => omega
  | succ k ih =>
    rcases Nat.lt_or_ge k 1 with h | h
    · obtain rfl : k = 0 := by omega
      obtain ⟨n, rfl, hn⟩ := nat_of hb
      have H : ∀ n : Nat, n < 256 → utf_Hex.f 1 (n : Int) = some (hexv (n : Int)) := by decide +kernel
      exact H n hn
    · exact utf_Hex.mono _ k _ (ih h)
theorem rhex_f {c : Int} (hb : byte c) : ∀ k, 17 ≤ k → carryallref01_Hex.f k c = some (hexv c) := by
  intro k hk
  induction k with
  | zero => omega
  | succ k ih =>
    rcases Nat.lt_or_ge k 17 with h | h
    · obtain rfl : k = 16 := by omega
      obtain ⟨n, rfl, hn⟩ := nat_of hb
      have H : ∀ n : Nat, n < 256 → carryallref01_Hex.f 17 (n : Int) = some (hexv (n : Int)) := by decide +kernel
      exact H n hn
    · exact carryallref01_Hex.mono _ k _ (ih h)
theorem let_f {c : Int} (hb : byte c) : utf_Letter.f c = some (letB c) := by
  obtain ⟨n, rfl, hn⟩ := nat_of hb
  have H : ∀ n : Nat, n < 256 → utf_Letter.f (n : Int) = some (letB (n : Int)) := by decide +kernel
  exact H n hn
theorem rlet_f {c : Int} (hb : byte c) : carryallref01_Letter.f c = some (letB c) := by
  obtain ⟨n, rfl, hn⟩ := nat_of hb
  have H : ∀ n : Nat, n < 256 → carryallref01_Letter.f (n : Int) = some (letB (n : Int)) := by decide +kernel
  exact H n hn
theorem dig_f {c : Int} (hb : byte c) : utf_Digit.f c = some (digB c) := by
  obtain ⟨n, rfl, hn⟩ := nat_of hb
  have H : ∀ n : Nat, n < 256 → utf_Digit.f (n : Int) = some (digB (n : Int)) := by decide +kernel
  exact H n hn
theorem rdig_f {c : Int} (hb : byte c) : carryallref01_Digit.f c = some (digB c) := by
  obtain ⟨n, rfl, hn⟩ := nat_of hb
  have H : ∀ n : Nat, n < 256 → carryallref01_Digit.f (n : Int) = some (digB (n : Int)) := by decide +kernel
  exact H n hn
theorem awake_at : ∀ (k : Nat), 20 ≤ k → carryalllaw01_awake.f k = some true := by
  intro k hk
  induction k with
  | zero => omega
  | succ k ih =>
    rcases Nat.lt_or_ge k 20 with h | h
    · obtain rfl : k = 19 := by omega
      decide +kernel
    · exact carryalllaw01_awake.mono k _ (ih h)
end Go.Proofs.YtkoddcihcoekgaaDoor.Utf
