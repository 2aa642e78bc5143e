/- Valid bytes ahead of others make no difference to how these are read. -/
import Derived.Test.YtkoddcihcoekgaaDoorPx7
import Derived.Test.YtkoddcihcoekgaaDoorDec
namespace Go.Proofs.YtkoddcihcoekgaaDoor.Pure
open Go.RowKit Go.Proofs.YtkoddcihcoekgaaDoor.P Go.Proofs.YtkoddcihcoekgaaDoor.Pl Go.Proofs.YtkoddcihcoekgaaDoor.Utf Go.Proofs.YtkoddcihcoekgaaDoor.Dec Go.Proofs.YtkoddcihcoekgaaDoorW.PrintWords Go.Proofs.YtkoddcihcoekgaaDoorW.PrintLast
theorem UtfJoins : carryalllaw01_UtfJoins.Pure := by
  intro a b _ ha wa _ hb wb
  have ba : Dec.bytes a := fun x hx => byte_of (wa x hx)
  have bb : Dec.bytes b := fun x hx => byte_of (wb x hx)
  unfold carryalllaw01_UtfJoins.f
  have hw : wrap64 ((a.length : Int) + (b.length : Int)) = (a.length : Int) + (b.length : Int) := wrap_in (by omega) (by omega)
  rw [hw]
  by_cases hn : (a.length : Int) + (b.length : Int) > 1000
  · refine ⟨50, ?_⟩
    rw [awake_at 50 (by omega), Option.bind_some, if_pos rfl, if_pos hn, carryalllaw01_UtfJoins.j0, if_pos rfl, awake_at 49 (by omega)]
    rfl
  · obtain ⟨kv, v, hv, hC⟩ := valid_any a ba (by omega)
    cases v with
    | false =>
      refine ⟨kv + 50, ?_⟩
      rw [awake_at (kv + 50) (by omega), Option.bind_some, if_pos rfl, if_neg hn, hv _ (by omega), Option.bind_some, carryalllaw01_UtfJoins.j0, if_pos (by decide), awake_at (kv + 49) (by omega)]
      rfl
    | true =>
      obtain ⟨C, hc, rfl⟩ := hC rfl
      obtain ⟨L, hL, hLl⟩ := reads_any _ b rfl bb
      have r1 := reads_chars C hc bb hL
      have r0 := reads_chars C hc (t := []) (by intro x hx; cases hx) reads_nil
      rw [List.append_nil, List.append_nil] at r0
      obtain ⟨k1, h1⟩ := reads_f r1 (by rw [List.length_append]; omega)
      obtain ⟨k0, h0⟩ := reads_f r0 (by omega)
      obtain ⟨k2, h2⟩ := reads_f hL (by omega)
      have hCl := flat_len C
      refine ⟨kv + k0 + k1 + k2 + 3000, ?_⟩
      rw [awake_at _ (by omega), Option.bind_some, if_pos rfl, if_neg hn, hv _ (by omega), Option.bind_some]
      show carryalllaw01_UtfJoins.j0 (kv + k0 + k1 + k2 + 2999 + 1) _ _ _ = _
      rw [carryalllaw01_UtfJoins.j0, if_neg (by decide), Option.bind_some, if_pos (by rw [List.length_nil]; omega), Option.bind_some, List.nil_append, if_pos (by omega), h1 _ (by omega), Option.bind_some, h0 _ (by omega), Option.bind_some, h2 _ (by omega), Option.bind_some, if_pos (by omega), same_f (C ++ L) (by rw [List.length_append]; omega) _ (by rw [List.length_append]; omega)]
      rfl
end Go.Proofs.YtkoddcihcoekgaaDoor.Pure
