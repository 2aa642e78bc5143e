/- base.Decode, as a fold over the letters of the squeezed text. -/
import Derived.Test.YtbobbbpjphkooaaDoorPx1
import Derived.Test.YtbobbbpjphkooaaDoorBaD
namespace Go.Proofs.YtbobbbpjphkooaaDoor.BaG
open Go.RowKit Go.Proofs.YtbobbbpjphkooaaDoor.P Go.Proofs.YtbobbbpjphkooaaDoor.Pl Go.Proofs.YtbobbbpjphkooaaDoorW.PrintWords Go.Proofs.YtbobbbpjphkooaaDoorW.PrintLast Go.Proofs.YtbobbbpjphkooaaDoorW.PrintMore
def LT : List UInt8 := (⟨#[65, 66, 67, 68, 69, 70, 71, 72, 73, 74, 75, 76, 77, 78, 79, 80, 81, 82, 83, 84, 85, 86, 87, 88, 89, 90, 97, 98, 99, 100, 101, 102, 103, 104, 105, 106, 107, 108, 109, 110, 111, 112, 113, 114, 115, 116, 117, 118, 119, 120, 121, 122, 48, 49, 50, 51, 52, 53, 54, 55, 56, 57, 43, 47]⟩ : ByteArray).data.toList
def idx (c : Int) : Int := Lib.indexByte LT c.toNat.toUInt8
def stp (b x : Int) : Int := Go.bits .or .u64 (Go.bits .and .u64 (IntKind.u64.wrap (b * 64)) 65535) (IntKind.u64.wrap x)
def go : List Int → List Int → Int → Nat → List Int × Bool
  | [], acc, _, _ => (acc, true)
  | c :: t, acc, b, n => if idx c < 0 then ([], false) else if n + 6 ≥ 8 then go t (acc ++ [shr .u64 (stp b (idx c)) ((n - 2 : Nat) : Int) % 256]) (stp b (idx c)) (n - 2) else go t acc (stp b (idx c)) (n + 6)
theorem l0_go (x0 : ByteArray) (hs : x0.size ≤ 1000000) : ∀ (d k i : Nat) (acc : List Int) (b : Int) (n : Nat), i + d = x0.size → d < k → n < 8 → acc.length + d ≤ 2000000 →
    base_Decode.l0 k x0 acc b (n : Int) (x0.size : Int) (i : Int) = some (go ((bytesOf x0).drop i) acc b n) := by
  intro d
  induction d with
  | zero =>
    intro k i acc b n hi hk hn ha
    obtain ⟨k, rfl⟩ : ∃ j, k = j + 1 := ⟨k - 1, by omega⟩
    rw [base_Decode.l0, if_neg (by omega), List.drop_of_length_le (by rw [bytesOf_length]; omega), go]
  | succ d ih =>
    intro k i acc b n hi hk hn ha
    obtain ⟨k, rfl⟩ : ∃ j, k = j + 1 := ⟨k - 1, by omega⟩
    have hw : wrap64 ((i : Int) + 1) = ((i + 1 : Nat) : Int) := by rw [wrap_in (by omega) (by omega)]; omega
    have hw6 : wrap64 ((n : Int) + 6) = ((n + 6 : Nat) : Int) := by rw [wrap_in (by omega) (by omega)]; omega
    rw [drop_bt x0 i (by omega), go, base_Decode.l0, if_pos (by omega), if_pos (by omega), if_pos (by omega)]
    show ((some (idx (bt x0 (i : Int)))).bind _) = _
    rw [Option.bind_some]
    by_cases hx : idx (bt x0 (i : Int)) < 0
    · rw [if_pos hx, if_pos hx]
    · rw [if_neg hx, if_neg hx, hw6]
      by_cases h8 : n + 6 ≥ 8
      · have hw2 : wrap64 (((n + 6 : Nat) : Int) - 8) = ((n - 2 : Nat) : Int) := by rw [wrap_in (by omega) (by omega)]; omega
        rw [if_pos (by omega), if_pos h8, hw2, if_pos (by omega), if_pos (by omega), hw]
        exact ih k (i + 1) _ _ (n - 2) (by omega) (by omega) (by omega) (by rw [List.length_append, List.length_singleton]; omega)
      · rw [if_neg (by omega), if_neg h8, hw]
        exact ih k (i + 1) _ _ (n + 6) (by omega) (by omega) (by omega) (by omega)
def decB (l : List Int) : List Int × Bool := if l.length % 4 = 1 then ([], false) else go l [] 0 0
theorem dec_f (s : ByteArray) (k : Nat) (hs : s.size ≤ 100000) (hb : (Mp.blankless s).size ≤ 400000) (hz : (Mp.sqz s).size < k) (hz2 : (Mp.sqz s).size ≤ 1000000) : base_Decode.f k s = some (decB (bytesOf (Mp.sqz s))) := by
  unfold base_Decode.f base_squeeze.f
  rw [if_pos ⟨hs, hb⟩, Option.bind_some]
  unfold decB
  by_cases h1 : (Mp.sqz s).size % 4 = 1
  · rw [if_pos (by omega), if_pos (by rw [bytesOf_length]; exact h1)]
  · rw [if_neg (by omega), if_neg (by rw [bytesOf_length]; exact h1)]
    have := l0_go (Mp.sqz s) hz2 (Mp.sqz s).size k 0 [] 0 0 (by omega) hz (by omega) (by simp; omega)
    simpa using this
/-- A byte that is no letter: not forgiven. -/
theorem go_bad : ∀ (l acc : List Int) (b : Int) (n : Nat), (∃ c ∈ l, idx c < 0) → go l acc b n = ([], false)
  | [], _, _, _, h => by obtain ⟨c, hc, _⟩ := h; cases hc
  | c :: t, acc, b, n, h => by
    rw [go]
    by_cases hx : idx c < 0
    · rw [if_pos hx]
    · rw [if_neg hx]
      have ht : ∃ c ∈ t, idx c < 0 := by
        obtain ⟨x, hx1, hx2⟩ := h
        rcases List.mem_cons.1 hx1 with rfl | hx1
        · exact absurd hx2 hx
        · exact ⟨x, hx1, hx2⟩
      split
      · exact go_bad t _ _ _ ht
      · exact go_bad t _ _ _ ht
theorem dec_bad (l : List Int) (h : ∃ c ∈ l, idx c < 0) : decB l = ([], false) := by
  unfold decB
  split
  · rfl
  · exact go_bad l [] 0 0 h
theorem idx_high : ∀ n : Nat, n < 256 → 128 ≤ n → idx (n : Int) < 0 := by decide +kernel
end Go.Proofs.YtbobbbpjphkooaaDoor.BaG
