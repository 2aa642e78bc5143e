/- Which bytes each set has is what the document says, for every set and every byte: the sets that there are by the kernel, at all bytes; any other number has none. No condition. -/
import Derived.Test.YtmekpmfhckodaaaPx4
import Derived.Test.YtmekpmfhckodaaaPl
namespace Go.Proofs.Ytmekpmfhckodaaa.Pure
open Go.RowKit Go.Proofs.Ytmekpmfhckodaaa.P Go.Proofs.YtmekpmfhckodaaaW.PrintWords Go.Proofs.YtmekpmfhckodaaaW.PrintLast

theorem EscapeSets : carryalllaw02_EscapeSets.Pure := by
  intro a0 a1 _ h
  obtain ⟨n, rfl, hn⟩ := Pl.u8_of h
  refine ⟨60, ?_⟩
  by_cases h0 : 0 ≤ a0 ∧ a0 ≤ 6
  · obtain ⟨m, rfl⟩ := Int.eq_ofNat_of_zero_le h0.1
    have H : ∀ m : Nat, m < 7 → ∀ n : Nat, n < 256 → carryalllaw02_EscapeSets.f 60 (m : Int) (n : Int) = some true := by decide +kernel
    exact H m (by omega) n hn
  · have ha : carryalllaw02_awake.f 60 = some true := by decide +kernel
    have hi : ∀ c, escape_In.f 60 a0 c = some false := by
      intro c
      unfold escape_In.f
      by_cases hn : a0 < 0
      · rw [if_pos hn]; rfl
      · rw [if_neg hn, decide_eq_true (by omega : a0 > 6)]; rfl
    have hr : ∀ c, carryallref02_In.f 60 a0 c = some false := by
      intro c
      unfold carryallref02_In.f
      by_cases hn : a0 < 0
      · rw [if_pos hn]; rfl
      · rw [if_neg hn, decide_eq_true (by omega : a0 > 6)]; rfl
    unfold carryalllaw02_EscapeSets.f
    rw [ha, Option.bind_some, if_pos rfl, hi, hr]
    rfl
end Go.Proofs.Ytmekpmfhckodaaa.Pure
