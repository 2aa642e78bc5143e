/- Which bytes any text is forgiven as: what the document says. -/
import Derived.Test.YtbobbbpjphkooaaDoorPx4
import Derived.Test.YtbobbbpjphkooaaDoorBaV
namespace Go.Proofs.YtbobbbpjphkooaaDoor.Pure
open Go.RowKit Go.Proofs.YtbobbbpjphkooaaDoor.P Go.Proofs.YtbobbbpjphkooaaDoor.Pl Go.Proofs.YtbobbbpjphkooaaDoor.Mp Go.Proofs.YtbobbbpjphkooaaDoor.BaG Go.Proofs.YtbobbbpjphkooaaDoor.BaP2 Go.Proofs.YtbobbbpjphkooaaDoor.BaT Go.Proofs.YtbobbbpjphkooaaDoor.BaV Go.Proofs.YtbobbbpjphkooaaDoorW.PrintWords Go.Proofs.YtbobbbpjphkooaaDoorW.PrintLast Go.Proofs.YtbobbbpjphkooaaDoorW.PrintMore
theorem BaseReads : carryalllaw03_BaseReads.Pure := by
  intro s _
  refine ⟨60001, ?_⟩
  unfold carryalllaw03_BaseReads.f carryalllaw03_awake.f
  rw [Option.bind_some, if_pos rfl]
  by_cases hl : s.size ≤ 400
  · have hr : carryallref03_Decode.f 60000 s = some (decB (bytesOf (sqz s))) := by
      unfold carryallref03_Decode.f
      have := l0_f s (by omega) s.size 60000 0 [] (by omega) (by simp; omega) (by simp) (by omega)
      rw [dec_same]
      simpa using this
    rw [decide_eq_false (by omega), carryalllaw03_BaseReads.j0, if_neg Bool.false_ne_true, dec_small s _ (by omega) (by omega), Option.bind_some, hr, Option.bind_some, if_pos (by simp), if_pos rfl]
    by_cases h : (decB (bytesOf (sqz s))).2 = true
    · rw [if_pos h]
    · rw [if_neg h, dec_false _ (by simpa using h)]
      rfl
  · rw [decide_eq_true (by omega), carryalllaw03_BaseReads.j0, if_pos rfl]
    rfl
end Go.Proofs.YtbobbbpjphkooaaDoor.Pure
