/- The document's answer for package escape computes the same as escape's own functions: told on lists of bytes. For strings up to 2^47 bytes. -/
import Derived.Test.YtmekpmfhckodaaaPx3
import Derived.Test.YtmekpmfhckodaaaPx4
import Derived.Test.YtmekpmfhckodaaaPx5
import Derived.Test.YtmekpmfhckodaaaEsc
namespace Go.Proofs.Ytmekpmfhckodaaa.Esc
open Go.RowKit Go.Proofs.Ytmekpmfhckodaaa.P Go.Proofs.Ytmekpmfhckodaaa.Pl Go.Proofs.YtmekpmfhckodaaaW.PrintWords Go.Proofs.YtmekpmfhckodaaaW.PrintLast
set_option linter.unusedVariables false

theorem up {α : Type} {f : Nat → Option α} (hm : ∀ k, LeO (f k) (f (k + 1))) {n : Nat} {r : α} (h : f n = some r) : ∀ k, n ≤ k → f k = some r := by
  intro k hk
  induction k with
  | zero =>
    obtain rfl : n = 0 := by omega
    exact h
  | succ k ih =>
    rcases Nat.lt_or_ge k n with hl | hl
    · obtain rfl : n = k + 1 := by omega
      exact h
    · exact hm k _ (ih hl)

theorem ref_hex {k : Nat} (hk : 17 ≤ k) {c : Int} (hc : byte c) : carryallref01_Hex.f k c = some (hexv c) := by
  obtain ⟨n, rfl⟩ := Int.eq_ofNat_of_zero_le hc.1
  have H : ∀ n : Nat, n < 256 → carryallref01_Hex.f 17 (n : Int) = some (hexv (n : Int)) := by decide +kernel
  exact up (fun k => carryallref01_Hex.mono _ k) (H n (by have := hc.2; omega)) k hk
theorem ref_in {k : Nat} (hk : 6 ≤ k) (a : Int) {c : Int} (hc : byte c) : carryallref02_In.f k a c = some (inB a c) := by
  by_cases h0 : 0 ≤ a ∧ a ≤ 6
  · obtain ⟨m, rfl⟩ := Int.eq_ofNat_of_zero_le h0.1
    obtain ⟨n, rfl⟩ := Int.eq_ofNat_of_zero_le hc.1
    have H : ∀ m : Nat, m < 7 → ∀ n : Nat, n < 256 → carryallref02_In.f 6 (m : Int) (n : Int) = some (inB (m : Int) (n : Int)) := by decide +kernel
    exact up (fun k => carryallref02_In.mono _ _ k) (H m (by omega) n (by have := hc.2; omega)) k hk
  · rw [in_none h0]
    refine up (n := 1) (fun k => carryallref02_In.mono _ _ k) ?_ k (by omega)
    unfold carryallref02_In.f
    by_cases hn : a < 0
    · rw [if_pos hn]; rfl
    · rw [if_neg hn, decide_eq_true (by omega : a > 6)]; rfl
theorem ref_one {c : Int} (hc : byte c) : carryallref02_One.f c = some (strOfNums (escape_Encode.enc1 true c)) := by
  obtain ⟨n, rfl⟩ := Int.eq_ofNat_of_zero_le hc.1
  have H : ∀ n : Nat, n < 256 → carryallref02_One.f (n : Int) = some (strOfNums (escape_Encode.enc1 true (n : Int))) := by decide +kernel
  exact H n (by have := hc.2; omega)

theorem one_str (s : ByteArray) (i : Nat) (h : i < s.size) : s.extract i (i + 1) = strOfNums [bt s (i : Int)] := by
  refine bytes_inj ?_
  rw [bytes_extract, bytes_str [bt s (i : Int)] (fun x hx => by simp at hx; rw [hx]; exact bt_byte s _), drop_bt s i h]
  simp

theorem ref_enc_l0 (a : Int) (s : ByteArray) (hs : s.size ≤ 140737488351232) : ∀ (n k i : Nat) (acc : ByteArray), s.size - i ≤ n → i ≤ s.size → acc.size ≤ 3 * i → n + 7 ≤ k →
    carryallref02_Encode.l0 k a s acc (s.size : Int) (i : Int) = some (acc ++ strOfNums (escs a ((bytesOf s).drop i))) := by
  intro n
  induction n with
  | zero =>
    intro k i acc hn hi ha hk
    obtain ⟨k, rfl⟩ : ∃ m, k = m + 1 := ⟨k - 1, by omega⟩
    simp only [carryallref02_Encode.l0]
    rw [if_neg (by omega), drop_end s i (by omega)]
    congr 1
    refine bytes_inj ?_
    rw [bytes_append]
    simp [escs, bytes_str [] (by simp)]
  | succ n ih =>
    intro k i acc hn hi ha hk
    obtain ⟨k, rfl⟩ : ∃ m, k = m + 1 := ⟨k - 1, by omega⟩
    rcases Nat.lt_or_ge i s.size with hlt | hge
    · have e : wrap64 ((i : Int) + 1) = ((i + 1 : Nat) : Int) := by rw [wrap_in (by omega) (by omega)]; omega
      have hd := drop_bt s i hlt
      have fin : ∀ w : ByteArray, w = strOfNums (escape_Encode.enc1 (inB a (bt s (i : Int))) (bt s (i : Int))) → carryallref02_Encode.l0 k a s (acc ++ w) (s.size : Int) ((i + 1 : Nat) : Int) = some (acc ++ strOfNums (escs a ((bytesOf s).drop i))) := by
        intro w hw
        have hz : w.size ≤ 3 := by rw [hw, size_str]; exact enc1_len _ _
        rw [ih k (i + 1) (acc ++ w) (by omega) (by omega) (by rw [ByteArray.size_append]; omega) (by omega), hd, hw, ByteArray.append_assoc, ← str_append]
        simp [escs]
      simp only [carryallref02_Encode.l0]
      rw [if_pos (by omega), if_pos (by omega), if_pos (by omega), ref_in (by omega) a (bt_byte s _), Option.bind_some, e]
      cases hb : inB a (bt s (i : Int))
      · have hw : s.extract i (i + 1) = strOfNums (escape_Encode.enc1 (inB a (bt s (i : Int))) (bt s (i : Int))) := by
          rw [one_str s i hlt, hb]
          simp [escape_Encode.enc1]
        have hx : s.extract ((i : Int)).toNat (((i + 1 : Nat) : Int)).toNat = s.extract i (i + 1) := by simp
        have hz : (s.extract i (i + 1)).size ≤ 3 := by rw [hw, size_str]; exact enc1_len _ _
        rw [if_neg (by simp), if_pos (by omega), if_pos (by omega), hx, if_pos (by omega)]
        exact fin _ hw
      · have ho := ref_one (bt_byte s (i : Int))
        have hz := enc1_len true (bt s (i : Int))
        rw [if_pos rfl, ho, Option.bind_some, if_pos (by rw [size_str]; omega)]
        exact fin _ (by rw [hb])
    · simp only [carryallref02_Encode.l0]
      rw [if_neg (by omega), drop_end s i hge]
      congr 1
      refine bytes_inj ?_
      rw [bytes_append]
      simp [escs, bytes_str [] (by simp)]

theorem ref_enc {a : Int} {s : ByteArray} {k : Nat} (hs : s.size ≤ 140737488351232) (hk : s.size + 7 ≤ k) : carryallref02_Encode.f k a s = some (strOfNums (escs a (bytesOf s))) := by
  unfold carryallref02_Encode.f
  have := ref_enc_l0 a s hs s.size k 0 ⟨#[]⟩ (by omega) (by omega) (Nat.le_refl _) hk
  have e : ∀ x : ByteArray, (⟨#[]⟩ : ByteArray) ++ x = x := fun x => bytes_inj (by rw [bytes_append, bytes_nil, List.nil_append])
  rw [List.drop_zero, e] at this
  exact this

theorem ref_j1_no {k : Nat} {s : ByteArray} {acc : List Int} (hs : 0 < s.size) (ha : acc.length < 140737488355328) :
    carryallref02_Decode.j1 (k + 1) s acc false = carryallref02_Decode.l0 k (s.extract 1 s.size) (acc ++ [bt s 0]) := by
  simp only [carryallref02_Decode.j1, Bool.false_eq_true, if_false]
  rw [if_pos (by omega), if_pos (by omega), if_pos (by omega)]
theorem ref_j1_yes {k : Nat} {s : ByteArray} {acc : List Int} (hs : 2 < s.size) (ha : acc.length < 140737488355328) (hk : 17 ≤ k) (h1 : 0 ≤ hexv (bt s 1)) (h2 : 0 ≤ hexv (bt s 2)) :
    carryallref02_Decode.j1 (k + 1) s acc true = carryallref02_Decode.l0 k (s.extract 3 s.size) (acc ++ [16 * hexv (bt s 1) + hexv (bt s 2)]) := by
  have r1 := hexv_range (bt s 1)
  have r2 := hexv_range (bt s 2)
  have e1 : wrap64 (16 * hexv (bt s 1)) = 16 * hexv (bt s 1) := wrap_in (by omega) (by omega)
  have e2 : wrap64 (16 * hexv (bt s 1) + hexv (bt s 2)) = 16 * hexv (bt s 1) + hexv (bt s 2) := wrap_in (by omega) (by omega)
  have e3 : (16 * hexv (bt s 1) + hexv (bt s 2)) % 256 = 16 * hexv (bt s 1) + hexv (bt s 2) := by omega
  simp only [carryallref02_Decode.j1, if_true]
  rw [if_pos (by omega), ref_hex hk (bt_byte s _), Option.bind_some, if_pos (by omega), ref_hex hk (bt_byte s _), Option.bind_some, if_pos (by omega), if_pos (by omega), e1, e2, e3]

theorem first_bt {s : ByteArray} (h : 0 < s.size) : bytesOf s = bt s 0 :: (bytesOf s).drop 1 := by
  have := drop_bt s 0 h
  rw [List.drop_zero] at this
  exact this
theorem ref_dec_l0 : ∀ (n k : Nat) (s : ByteArray) (acc : List Int), s.size ≤ n → acc.length + s.size < 140737488355328 → 2 * n + 20 ≤ k →
    carryallref02_Decode.l0 k s acc = some (strOfNums (acc ++ dec (bytesOf s))) := by
  intro n
  induction n using Nat.strongRecOn with
  | _ n ih =>
  intro k s acc hn ha hk
  obtain ⟨k, rfl⟩ : ∃ m, k = m + 2 := ⟨k - 2, by omega⟩
  rcases Nat.eq_zero_or_pos s.size with h0 | hpos
  · simp only [carryallref02_Decode.l0]
    rw [if_neg (by omega)]
    have : bytesOf s = [] := List.eq_nil_of_length_eq_zero (by rw [bytesOf_length]; exact h0)
    rw [this]
    simp [dec]
  · have hx : ∀ a, a ≤ s.size → (s.extract a s.size).size = s.size - a := fun a h => by simp
    have go_on : dec (bytesOf s) = bt s 0 :: dec ((bytesOf s).drop 1) → carryallref02_Decode.j1 (k + 1) s acc false = some (strOfNums (acc ++ dec (bytesOf s))) := by
      intro hdec
      rw [ref_j1_no hpos (by omega), ih (s.size - 1) (by omega) k _ _ (by rw [hx 1 (by omega)]; omega) (by rw [hx 1 (by omega)]; simp; omega) (by omega), bytes_from, hdec]
      simp
    simp only [carryallref02_Decode.l0]
    rw [if_pos (by omega), if_pos (by omega)]
    have hd := first_bt hpos
    by_cases hc : bt s 0 = 37
    · rw [if_pos hc]
      by_cases h2 : 2 < s.size
      · have hd1 : (bytesOf s).drop 1 = bt s 1 :: (bytesOf s).drop 2 := drop_bt s 1 (by omega)
        have hd2 : (bytesOf s).drop 2 = bt s 2 :: (bytesOf s).drop 3 := drop_bt s 2 (by omega)
        rw [if_pos (by omega), if_pos (by omega), ref_hex (by omega) (bt_byte s _), Option.bind_some]
        by_cases g1 : 0 ≤ hexv (bt s 1)
        · rw [if_pos g1, if_pos (by omega), ref_hex (by omega) (bt_byte s _), Option.bind_some]
          by_cases g2 : 0 ≤ hexv (bt s 2)
          · rw [decide_eq_true (show hexv (bt s 2) ≥ 0 from g2)]
            obtain ⟨k, rfl⟩ : ∃ m, k = m + 1 := ⟨k - 1, by omega⟩
            rw [ref_j1_yes h2 (by omega) (by omega) g1 g2, ih (s.size - 3) (by omega) (k + 1) _ _ (by rw [hx 3 (by omega)]; omega) (by rw [hx 3 (by omega)]; simp; omega) (by omega), bytes_from, hd, hd1, hd2, hc, dec_hex g1 g2]
            simp
          · rw [decide_eq_false (show ¬ hexv (bt s 2) ≥ 0 from g2)]
            exact go_on (by rw [hd, hd1, hd2, hc, dec_no (fun h => g2 h.2)]; rfl)
        · rw [if_neg g1]
          exact go_on (by rw [hd, hd1, hd2, hc, dec_no (fun h => g1 h.1)]; rfl)
      · rw [if_neg (by omega)]
        refine go_on ?_
        rcases Nat.lt_or_ge 1 s.size with h1 | h1
        · have hd1 : (bytesOf s).drop 1 = bt s 1 :: (bytesOf s).drop 2 := drop_bt s 1 h1
          rw [hd, hd1, drop_end s 2 (by omega), hc]
          rfl
        · rw [hd, drop_end s 1 h1, hc]
          rfl
    · rw [if_neg hc]
      exact go_on (by rw [hd, dec_ne hc]; rfl)
theorem ref_dec {s : ByteArray} {k : Nat} (hs : s.size ≤ 140737488351232) (hk : 2 * s.size + 20 ≤ k) : carryallref02_Decode.f k s = some (strOfNums (dec (bytesOf s))) := by
  unfold carryallref02_Decode.f
  have := ref_dec_l0 s.size k s [] (by omega) (by simp; omega) hk
  simpa using this
end Go.Proofs.Ytmekpmfhckodaaa.Esc
