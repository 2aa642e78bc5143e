/- Letters, digits and small letters are what the reference says. -/
import Derived.Test.YtkoddcihcoekgaaDoorPx2
import Derived.Test.YtkoddcihcoekgaaDoorUtf
import Derived.Test.YtkoddcihcoekgaaDoorRef01
namespace Go.Proofs.YtkoddcihcoekgaaDoor.Pure
open Go.RowKit Go.Proofs.YtkoddcihcoekgaaDoor.P Go.Proofs.YtkoddcihcoekgaaDoor.Pl Go.Proofs.YtkoddcihcoekgaaDoor.Utf Go.Proofs.YtkoddcihcoekgaaDoor.Ref01 Go.Proofs.YtkoddcihcoekgaaDoorW.PrintWords Go.Proofs.YtkoddcihcoekgaaDoorW.PrintLast
theorem UtfBytes : carryalllaw01_UtfBytes.Pure := by
  intro c s hc hs
  have hb := byte_of hc
  obtain ⟨K, hK⟩ : ∃ K : Nat, 2000 ≤ K := ⟨2000, Nat.le_refl _⟩
  refine ⟨K + 1, ?_⟩
  unfold carryalllaw01_UtfBytes.f
  rw [awake_at (K + 1) (by omega), Option.bind_some, if_pos rfl]
  by_cases hn : s.size ≤ 500
  · have hl : utf_Lower.f s = some (strOfNums ((bytesOf s).map Low.low)) := by unfold utf_Lower.f; rw [if_pos (by omega)]
    have hz : (strOfNums ((bytesOf s).map Low.low)).size = s.size := by rw [size_str, List.length_map, bytesOf_length]
    have hll : utf_Lower.f (strOfNums ((bytesOf s).map Low.low)) = some (strOfNums ((bytesOf s).map Low.low)) := by
      unfold utf_Lower.f
      rw [if_pos (by omega), bytes_low, List.map_map]
      congr 2
      refine List.map_congr_left fun x _ => ?_
      exact low_low x
    rw [decide_eq_false (by omega), carryalllaw01_UtfBytes.j0, if_neg Bool.false_ne_true, let_f hb, rlet_f hb, dig_f hb, rdig_f hb, hex_f hb K (by omega), rhex_f hb K (by omega), hl, rlow_f s (by omega) K (by omega)]
    simp only [Option.bind_some, beq_self_eq_true, if_true, hll]
  · rw [decide_eq_true (by omega), carryalllaw01_UtfBytes.j0, if_pos rfl, awake_at K (by omega)]
    rfl
end Go.Proofs.YtkoddcihcoekgaaDoor.Pure
