/- What is printed of an address is read as it, ends in a number, and is what the reference says; also as one number, and with a point behind. -/
import Derived.Test.YtniiccdonafhmaaDoorPx5
import Derived.Test.YtniiccdonafhmaaDoorQuadB
import Derived.Test.YtniiccdonafhmaaDoorQuadAwake
namespace Go.Proofs.YtniiccdonafhmaaDoor.Pure
open Go.RowKit Go.Proofs.YtniiccdonafhmaaDoor.P Go.Proofs.YtniiccdonafhmaaDoor.Pl Go.Proofs.YtniiccdonafhmaaDoor.Quad Go.Proofs.YtniiccdonafhmaaDoorW.PrintWords Go.Proofs.YtniiccdonafhmaaDoorW.PrintLast
theorem QuadBack : carryalllaw07_QuadBack.Pure := by
  intro a hw
  have hr : 0 ≤ a ∧ a ≤ 4294967295 := by simpa [Lit.wf, IntKind.min, IntKind.max, IntKind.bits, IntKind.signed] using hw
  obtain ⟨n, rfl⟩ := Int.eq_ofNat_of_zero_le hr.1
  have hn : n < 4294967296 := by omega
  obtain ⟨K, hK⟩ : ∃ K : Nat, 2000 ≤ K := ⟨2000, Nat.le_refl _⟩
  refine ⟨K, ?_⟩
  obtain ⟨S, f1, b1, z1⟩ := print_f n K hn (by omega)
  obtain ⟨R, f2, b2, z2⟩ := rprint_f n K hn (by omega)
  obtain ⟨D, f3, b3, z3⟩ := decimal n K (by omega) (by omega)
  obtain rfl : S = R := bytes_inj (b1.trans b2.symm)
  obtain ⟨q1, q2⟩ := print_back hn b1
  have l1 : (⟨#[46]⟩ : ByteArray).size = 1 := rfl
  have hd : bytesOf (S ++ (⟨#[46]⟩ : ByteArray)) = printQ n ++ [46] := by rw [bytes_append, b1]; rfl
  obtain ⟨q3, q4⟩ := print_dot hn hd
  have q5 := one_back hn b3
  have zd : (S ++ (⟨#[46]⟩ : ByteArray)).size ≤ 16 := by rw [ByteArray.size_append, l1]; omega
  unfold carryalllaw07_QuadBack.f
  rw [awake_at K (by omega), Option.bind_some, if_pos rfl, f1, Option.bind_some, parse_f S (by omega) K (by omega), Option.bind_some, if_pos (by omega), parse_f _ (by omega) K (by omega), Option.bind_some, IntWalk.u64_in _ (by omega), f3, Option.bind_some, parse_f D (by omega) K (by omega), Option.bind_some, f2, Option.bind_some, q1, q3, q5, ends_f S (by omega) K (by omega), ends_f _ (by omega) K (by omega), q2, q4]
  simp
end Go.Proofs.YtniiccdonafhmaaDoor.Pure
