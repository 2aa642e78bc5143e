/- The reference's small letters are the program's. -/
import Derived.Test.YtpdkncchjkkmeaaDoorPx3
import Derived.Test.YtpdkncchjkkmeaaDoorLower
import Derived.Test.YtpdkncchjkkmeaaDoorPl
namespace Go.Proofs.YtpdkncchjkkmeaaDoor.Ref01
open Go.RowKit Go.Proofs.YtpdkncchjkkmeaaDoor.P Go.Proofs.YtpdkncchjkkmeaaDoor.Pl Go.Proofs.YtpdkncchjkkmeaaDoorW.PrintWords Go.Proofs.YtpdkncchjkkmeaaDoorW.PrintLast Go.Proofs.YtpdkncchjkkmeaaDoorW.PrintMore
set_option linter.unusedVariables false
theorem low_l0 (s : ByteArray) (hs : s.size ≤ 1000000) : ∀ (d i : Nat) (acc : List Int) (k : Nat), s.size - i = d → i ≤ s.size → d + 1 ≤ k → acc.length ≤ i →
    carryallref01_Lower.l0 k s acc (s.size : Int) (i : Int) = some (strOfNums (acc ++ ((bytesOf s).drop i).map Low.low)) := by
  intro d
  induction d with
  | zero =>
    intro i acc k hd hi hk ha
    obtain ⟨k, rfl⟩ : ∃ j, k = j + 1 := ⟨k - 1, by omega⟩
    rw [carryallref01_Lower.l0, if_neg (by omega), drop_end s i (by omega)]
    simp
  | succ d ih =>
    intro i acc k hd hi hk ha
    obtain ⟨k, rfl⟩ : ∃ j, k = j + 1 := ⟨k - 1, by omega⟩
    have hw : wrap64 ((i : Int) + 1) = ((i + 1 : Nat) : Int) := by rw [wrap_in (by omega) (by omega)]; omega
    have IH := ih (i + 1) (acc ++ [Low.low (bt s (i : Int))]) k (by omega) (by omega) (by omega) (by rw [List.length_append, List.length_singleton]; omega)
    rw [List.append_assoc, List.singleton_append] at IH
    rw [carryallref01_Lower.l0, if_pos (by omega), if_pos (by omega), if_pos (by omega), drop_bt s i (by omega), List.map_cons, ← IH, hw]
    unfold Low.low
    by_cases h1 : bt s (i : Int) ≥ 65
    · rw [if_pos h1]
      by_cases h2 : bt s (i : Int) ≤ 90
      · rw [if_pos h2, if_pos (by omega), if_pos ⟨h1, h2⟩, show (bt s (i : Int) + 32) % 256 = bt s (i : Int) + 32 by omega]
      · rw [if_neg h2, if_pos (by omega), if_neg (fun e => h2 e.2)]
    · rw [if_neg h1, if_pos (by omega), if_neg (fun e => h1 e.1)]
theorem rlow_f (s : ByteArray) (hs : s.size ≤ 1000000) (k : Nat) (hk : s.size + 1 ≤ k) : carryallref01_Lower.f k s = some (strOfNums ((bytesOf s).map Low.low)) := by
  unfold carryallref01_Lower.f
  have := low_l0 s hs _ 0 [] k rfl (by omega) (by omega) (by simp)
  rw [List.nil_append, List.drop_zero] at this
  exact this
theorem low_byte {c : Int} (h : byte c) : byte (Low.low c) := by
  obtain ⟨h0, h1⟩ := h
  unfold Low.low byte
  split <;> omega
theorem low_bytes (s : ByteArray) : ∀ x ∈ (bytesOf s).map Low.low, byte x := by
  intro x hx
  obtain ⟨y, hy, rfl⟩ := List.mem_map.1 hx
  exact low_byte (bytes_all s y hy)
theorem bytes_low (s : ByteArray) : bytesOf (strOfNums ((bytesOf s).map Low.low)) = (bytesOf s).map Low.low := bytes_str _ (low_bytes s)
theorem low_low (c : Int) : Low.low (Low.low c) = Low.low c := by
  unfold Low.low
  split
  · rw [if_neg (by omega)]
  · rfl
end Go.Proofs.YtpdkncchjkkmeaaDoor.Ref01
