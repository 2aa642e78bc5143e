/- Which characters any bytes are read as, and whether they are characters', is what the document says; no condition but that of the statement itself. -/
import Derived.Test.YtkoddcihcoekgaaDoorPx5
import Derived.Test.YtkoddcihcoekgaaDoorDecT
namespace Go.Proofs.YtkoddcihcoekgaaDoor.Pure
open Go.RowKit Go.Proofs.YtkoddcihcoekgaaDoor.P Go.Proofs.YtkoddcihcoekgaaDoor.Pl Go.Proofs.YtkoddcihcoekgaaDoor.Utf Go.Proofs.YtkoddcihcoekgaaDoor.Dec Go.Proofs.YtkoddcihcoekgaaDoorW.PrintWords Go.Proofs.YtkoddcihcoekgaaDoorW.PrintLast
theorem UtfReads : carryalllaw01_UtfReads.Pure := by
  intro b _ _ wb
  have bb : Dec.bytes b := fun x hx => byte_of (wb x hx)
  unfold carryalllaw01_UtfReads.f
  by_cases hn : (b.length : Int) > 2000
  · refine ⟨50, ?_⟩
    rw [awake_at 50 (by omega), Option.bind_some, if_pos rfl, decide_eq_true hn, carryalllaw01_UtfReads.j0, if_pos rfl, awake_at 49 (by omega)]
    rfl
  · obtain ⟨L, hR, hE, hL, hC, hF, hV⟩ := both _ b rfl bb (by omega)
    obtain ⟨k1, h1⟩ := reads_f hR (by omega)
    have hE0 := hE [] (by simp; omega)
    rw [List.nil_append] at hE0
    obtain ⟨k2, h2⟩ := hE0
    obtain ⟨k3, h3⟩ := rvalid_f bb (by omega) hL ⟨k2, h2⟩ hV
    refine ⟨k1 + k2 + k3 + 3000 + 1, ?_⟩
    rw [awake_at _ (by omega), Option.bind_some, if_pos rfl, decide_eq_false hn, carryalllaw01_UtfReads.j0, if_neg Bool.false_ne_true, h1 _ (by omega), Option.bind_some]
    have hd : carryallref01_Decode.f (k1 + k2 + k3 + 3000) b = some L := by unfold carryallref01_Decode.f; exact h2 _ (by omega)
    rw [hd, Option.bind_some, same_f L (by omega) _ (by omega), Option.bind_some, if_pos rfl, uvalid_f bb, Option.bind_some, h3 _ (by omega), Option.bind_some]
    simp
end Go.Proofs.YtkoddcihcoekgaaDoor.Pure
