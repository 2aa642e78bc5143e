/- What segments and texts are is what the reference says. -/
import Derived.Test.YtpdkncchjkkmeaaDoorPx3
import Derived.Test.YtpdkncchjkkmeaaDoorPx4
import Derived.Test.YtpdkncchjkkmeaaDoorPath
import Derived.Test.YtpdkncchjkkmeaaDoorPathAwake
namespace Go.Proofs.YtpdkncchjkkmeaaDoor.Path
open Go.RowKit Go.Proofs.YtpdkncchjkkmeaaDoor.P Go.Proofs.YtpdkncchjkkmeaaDoor.Pl Go.Proofs.YtpdkncchjkkmeaaDoorW.PrintWords Go.Proofs.YtpdkncchjkkmeaaDoorW.PrintLast
theorem begins_eq (s : ByteArray) : ∃ b, path_Begins.f s = some b ∧ carryallref10_Begins.f s = some b := by
  by_cases h1 : (s.size : Int) > 1
  · have d1 := drv_f (s.extract 0 2)
    have d2 := rdrv_f (s.extract 0 2)
    generalize drvB (bytesOf (s.extract 0 2)) = b at d1 d2
    obtain ⟨n, hn, hn2⟩ := nat_of (bt_byte s 2)
    have H : ∀ n : Nat, n < 256 → ∃ b, ((strings_IndexByte.f (⟨#[47, 92, 63, 35]⟩ : ByteArray) (n : Int)).bind fun t196 => (some (decide (t196 ≥ 0)))) = some b ∧ (if (n : Int) = 47 then (some true) else (if (n : Int) = 92 then (some true) else (if (n : Int) = 63 then (some true) else (some ((n : Int) == 35))))) = some b := by
      intro n hn
      have H : ∀ n : Nat, n < 256 → ((strings_IndexByte.f (⟨#[47, 92, 63, 35]⟩ : ByteArray) (n : Int)).bind fun t196 => (some (decide (t196 ≥ 0)))) = (if (n : Int) = 47 then (some true) else (if (n : Int) = 92 then (some true) else (if (n : Int) = 63 then (some true) else (some ((n : Int) == 35))))) := by decide +kernel
      rw [H n hn]
      by_cases a : (n : Int) = 47
      · rw [if_pos a]; exact ⟨_, rfl, rfl⟩
      · rw [if_neg a]
        by_cases a : (n : Int) = 92
        · rw [if_pos a]; exact ⟨_, rfl, rfl⟩
        · rw [if_neg a]
          by_cases a : (n : Int) = 63
          · rw [if_pos a]; exact ⟨_, rfl, rfl⟩
          · rw [if_neg a]; exact ⟨_, rfl, rfl⟩
    obtain ⟨c, q1, q2⟩ := H n hn2
    rw [← hn] at q1 q2
    refine ⟨if b = true then (if (s.size : Int) = 2 then true else c) else false, ?_, ?_⟩
    · unfold path_Begins.f
      rw [if_pos h1, if_pos (by decide), if_pos (by omega), d1, Option.bind_some]
      cases b
      · rfl
      · rw [if_pos rfl, if_pos rfl]
        by_cases h2 : (s.size : Int) = 2
        · rw [if_pos h2, if_pos h2]
        · rw [if_neg h2, if_neg h2, if_pos (by omega), q1]
    · unfold carryallref10_Begins.f
      rw [if_neg (by omega), if_pos (by decide), if_pos (by omega), d2, Option.bind_some]
      cases b
      · rfl
      · rw [if_pos rfl, if_pos rfl]
        by_cases h2 : (s.size : Int) = 2
        · rw [if_pos h2, if_pos h2]
        · rw [if_neg h2, if_neg h2, if_pos (by omega), q2]
  · refine ⟨false, ?_, ?_⟩
    · unfold path_Begins.f; rw [if_neg h1]
    · unfold carryallref10_Begins.f; rw [if_pos (by omega)]
end Go.Proofs.YtpdkncchjkkmeaaDoor.Path
namespace Go.Proofs.YtpdkncchjkkmeaaDoor.Pure
open Go.RowKit Go.Proofs.YtpdkncchjkkmeaaDoor.P Go.Proofs.YtpdkncchjkkmeaaDoor.Pl Go.Proofs.YtpdkncchjkkmeaaDoor.Path Go.Proofs.YtpdkncchjkkmeaaDoorW.PrintWords Go.Proofs.YtpdkncchjkkmeaaDoorW.PrintLast
theorem PathTells : carryalllaw10_PathTells.Pure := by
  intro s hs
  obtain ⟨K, hK⟩ : ∃ K : Nat, 1000 ≤ K := ⟨1000, Nat.le_refl _⟩
  refine ⟨K + 1, ?_⟩
  unfold carryalllaw10_PathTells.f
  rw [awake_at (K + 1) (by omega), Option.bind_some, if_pos rfl]
  by_cases hn : s.size ≤ 300
  · obtain ⟨b, h1, h2⟩ := begins_eq s
    rw [decide_eq_false (by omega), carryalllaw10_PathTells.j0, if_neg Bool.false_ne_true, sing_f s (by omega) K (by omega), rsing_f s (by omega) K (by omega), doub_f s (by omega) K (by omega), rdoub_f s (by omega) K (by omega), drv_f, rdrv_f, nor_f, rnor_f, h1, h2]
    simp
  · rw [decide_eq_true (by omega), carryalllaw10_PathTells.j0, if_pos rfl, awake_at K (by omega)]
    rfl
end Go.Proofs.YtpdkncchjkkmeaaDoor.Pure
