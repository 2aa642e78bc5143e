/- Any bytes, escaped, and any text, meant, are what the document says: for every set and all bytes. No condition. -/
import Derived.Test.YtmekpmfhckodaaaPx6
import Derived.Test.YtmekpmfhckodaaaEscRef
import Derived.Test.YtmekpmfhckodaaaEscAwake
namespace Go.Proofs.Ytmekpmfhckodaaa.Pure
open Go.RowKit Go.Proofs.Ytmekpmfhckodaaa.P Go.Proofs.Ytmekpmfhckodaaa.Pl Go.Proofs.Ytmekpmfhckodaaa.Esc Go.Proofs.YtmekpmfhckodaaaW.PrintWords Go.Proofs.YtmekpmfhckodaaaW.PrintLast

theorem EscapeBytes : carryalllaw02_EscapeBytes.Pure := by
  intro a0 l _ _ _ hw
  have hl : ∀ x ∈ l, byte x := fun x hx => byte_of (hw x hx)
  obtain ⟨K, hK⟩ : ∃ K : Nat, 3000 ≤ K := ⟨3000, Nat.le_refl _⟩
  refine ⟨K + 1, ?_⟩
  unfold carryalllaw02_EscapeBytes.f
  rw [awake_at (K + 1) (by omega), Option.bind_some, if_pos rfl]
  by_cases hn : l.length ≤ 1000
  · have hs : (strOfNums l).size = l.length := size_str l
    rw [decide_eq_false (show ¬ ((l.length : Int) > 1000) by omega)]
    simp only [carryalllaw02_EscapeBytes.j0, Bool.false_eq_true, if_false]
    rw [enc_f hl (by omega), Option.bind_some, ref_enc (by omega) (by omega), Option.bind_some, bytes_str l hl, if_pos rfl, dec_f (by omega) (by omega), Option.bind_some, ref_dec (by omega) (by omega), Option.bind_some]
    simp
  · rw [decide_eq_true (show ((l.length : Int) > 1000) by omega)]
    show ((carryalllaw02_awake.f K).bind fun t => some t) = some true
    rw [awake_at K (by omega)]
    rfl
end Go.Proofs.Ytmekpmfhckodaaa.Pure
