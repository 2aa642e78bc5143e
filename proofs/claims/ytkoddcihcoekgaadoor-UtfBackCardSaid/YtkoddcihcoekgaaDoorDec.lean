/- What bytes are read as: the program's Decode as a relation; characters' bytes ahead of others; the reference's Valid. -/
import Derived.Test.YtkoddcihcoekgaaDoorPx1
import Derived.Test.YtkoddcihcoekgaaDoorPx2
import Derived.Test.YtkoddcihcoekgaaDoorPx3
import Derived.Test.YtkoddcihcoekgaaDoorPx4
import Derived.Test.YtkoddcihcoekgaaDoorPx5
import Derived.Test.YtkoddcihcoekgaaDoorUtf
import Derived.Test.YtkoddcihcoekgaaDoorTab01
import Derived.Lib.RuneBytes
import Derived.Lib.DecodeN
namespace Go.Proofs.YtkoddcihcoekgaaDoor.Dec
open Go.RowKit Go.Proofs.YtkoddcihcoekgaaDoor.P Go.Proofs.YtkoddcihcoekgaaDoor.Pl Go.Proofs.YtkoddcihcoekgaaDoor.Utf Go.Proofs.YtkoddcihcoekgaaDoorW.PrintWords Go.Proofs.YtkoddcihcoekgaaDoorW.PrintLast Go.Proofs.YtkoddcihcoekgaaDoorW.PrintMore
set_option linter.unusedVariables false
abbrev enc (r : Int) : List Int := Lib.encodeRuneZ r
def bytes (l : List Int) : Prop := ∀ x ∈ l, byte x

/-! one character -/
theorem get_of (l : List Int) (hb : bytes l) (i : Nat) : ((strOfNums l).get! i).toNat = (l.getD i 0).toNat := by
  have hz : (strOfNums l).size = l.length := strOfNums_size l
  by_cases hi : i < l.length
  · have hjs : i < (strOfNums l).size := by rw [hz]; exact hi
    have h1 := bt_at (strOfNums l) (i : Int) (by simpa using hjs)
    have h2 := bt_get (strOfNums l) i (by rw [bytesOf_length, hz]; exact hi)
    simp only [bytes_str l hb] at h2
    rw [Utf8W.get!_of_lt (strOfNums l) i hjs, List.getD_eq_getElem?_getD, List.getElem?_eq_getElem hi]
    have h3 := h1.trans h2
    simp only [Int.toNat_natCast] at h3
    show _ = l[i].toNat
    omega
  · rw [List.getD_eq_getElem?_getD, List.getElem?_eq_none (by omega)]
    have : (strOfNums l).get! i = default := by
      show (strOfNums l).data[i]! = default
      rw [getElem!_neg]
      show ¬ i < (strOfNums l).size
      omega
    rw [this]
    rfl
theorem go_of (l : List Int) (hb : bytes l) (h0 : 0 < l.length) : Lib.decodeGo (strOfNums l) = Lib.decodeN l.length (l.getD 0 0).toNat (l.getD 1 0).toNat (l.getD 2 0).toNat (l.getD 3 0).toNat := by
  have hz : (strOfNums l).size = l.length := strOfNums_size l
  unfold Lib.decodeGo
  rw [if_neg (by omega), Lib.decode_at, hz, Nat.sub_zero, get_of l hb, get_of l hb, get_of l hb, get_of l hb]
def lowv (b : Int) : Int := if b = 224 then 160 else if b = 240 then 144 else if 194 ≤ b ∧ b ≤ 244 then 128 else 0
def highv (b : Int) : Int := if b = 237 then 159 else if b = 244 then 143 else if 194 ≤ b ∧ b ≤ 244 then 191 else 0
def manyv (b : Int) : Int := if 194 ≤ b ∧ b ≤ 223 then 2 else if 224 ≤ b ∧ b ≤ 239 then 3 else if 240 ≤ b ∧ b ≤ 244 then 4 else 0
theorem span_f {b : Int} (h : byte b) : ∀ k, 5 ≤ k → utf_span.f k b = some (lowv b, highv b, manyv b) := by
  intro k hk
  induction k with
  | zero => omega
  | succ k ih =>
    rcases Nat.lt_or_ge k 5 with g | g
    · obtain rfl : k = 4 := by omega
      obtain ⟨n, rfl, hn⟩ := nat_of h
      have H : ∀ n : Nat, n < 256 → utf_span.f 5 (n : Int) = some (lowv (n : Int), highv (n : Int), manyv (n : Int)) := by decide +kernel
      exact H n hn
    · exact utf_span.mono _ k _ (ih g)
theorem dec_f {l : List Int} (hb : bytes l) (h0 : 0 < l.length) : utf8_DecodeRune.f l = some (((Lib.decodeN l.length (l.getD 0 0).toNat (l.getD 1 0).toNat (l.getD 2 0).toNat (l.getD 3 0).toNat).1 : Int), ((Lib.decodeN l.length (l.getD 0 0).toNat (l.getD 1 0).toNat (l.getD 2 0).toNat (l.getD 3 0).toNat).2 : Int)) := by
  unfold utf8_DecodeRune.f
  rw [if_pos, go_of l hb h0]
  refine ⟨h0, List.all_eq_true.2 fun x hx => ?_⟩
  obtain ⟨a, b⟩ := hb x hx
  rw [decide_eq_true a, decide_eq_true b]
  rfl
theorem rd_at {l : List Int} {i : Nat} {x : Int} (h : l[i]? = some x) : rd l (i : Int) = x := by
  unfold rd
  rw [Int.toNat_natCast, List.getD_eq_getElem?_getD, h]
  rfl
/-- The first character is always some number, of one byte at least. -/
theorem first_l0 (l : List Int) (hb : bytes l) (many : Nat) (h4 : many ≤ 4) (h0 : 0 < l.length) : ∀ (d n : Nat) (lo hi : Int) (k : Nat), many - n = d → 1 ≤ n → n ≤ l.length → d + 1 ≤ k → ∃ r m : Nat, utf_first.l0 k l lo hi (many : Int) (n : Int) = some ((r : Int), (m : Int)) ∧ 1 ≤ m ∧ m ≤ l.length := by
  intro d
  induction d with
  | zero =>
    intro n lo hi k hd hn hl hk
    obtain ⟨k, rfl⟩ : ∃ j, k = j + 1 := ⟨k - 1, by omega⟩
    rw [utf_first.l0, if_neg (by omega)]
    by_cases hm : many = 0
    · rw [if_pos (by omega)]; exact ⟨65533, n, rfl, hn, hl⟩
    · have ht : 0 < (l.take n).length := by rw [List.length_take]; omega
      rw [if_neg (by omega), if_pos (by omega), if_pos (by omega), Int.toNat_natCast, dec_f (fun x hx => hb x (List.mem_of_mem_take hx)) ht, Option.bind_some]
      exact ⟨_, n, rfl, hn, hl⟩
  | succ d ih =>
    intro n lo hi k hd hn hl hk
    obtain ⟨k, rfl⟩ : ∃ j, k = j + 1 := ⟨k - 1, by omega⟩
    have hw : wrap64 ((n : Int) + 1) = ((n + 1 : Nat) : Int) := by rw [wrap_in (by omega) (by omega)]; omega
    rw [utf_first.l0, if_pos (by omega)]
    by_cases h1 : n < l.length
    · rw [if_pos (by omega), if_pos (by omega), hw]
      split
      · split
        · exact ih (n + 1) 128 191 k (by omega) (by omega) (by omega) (by omega)
        · rw [if_neg (by omega)]; exact ⟨65533, n, rfl, hn, hl⟩
      · rw [if_neg (by omega)]; exact ⟨65533, n, rfl, hn, hl⟩
    · rw [if_neg (by omega), if_neg (by omega)]; exact ⟨65533, n, rfl, hn, hl⟩
theorem many_nat (b : Int) : ∃ m : Nat, manyv b = m ∧ m ≤ 4 := by
  unfold manyv
  split
  · exact ⟨2, rfl, by omega⟩
  · split
    · exact ⟨3, rfl, by omega⟩
    · split
      · exact ⟨4, rfl, by omega⟩
      · exact ⟨0, rfl, by omega⟩
theorem rd0 {x : Int} {t : List Int} : rd (x :: t) 0 = x := rfl
theorem first_any (l : List Int) (hb : bytes l) (h0 : 0 < l.length) (k : Nat) (hk : 10 ≤ k) : ∃ r m : Nat, utf_first.f k l = some ((r : Int), (m : Int)) ∧ 1 ≤ m ∧ m ≤ l.length := by
  cases l with
  | nil => simp at h0
  | cons x t =>
    have hx := hb x List.mem_cons_self
    unfold utf_first.f
    rw [if_pos (by omega), rd0]
    by_cases h : x < 128
    · obtain ⟨n, rfl, hn⟩ := nat_of hx
      have hw : wrap32 (n : Int) = (n : Int) := by unfold wrap32; omega
      rw [if_pos h, hw]
      exact ⟨n, 1, rfl, by omega, by simp⟩
    · obtain ⟨m, hm, h4⟩ := many_nat x
      rw [if_neg h, span_f hx k (by omega), Option.bind_some]
      simp only [hm]
      exact first_l0 (x :: t) hb m h4 h0 _ 1 _ _ k rfl (by omega) (by simp) (by omega)
def isChar (r : Int) : Prop := 0 ≤ r ∧ r ≤ 1114111 ∧ (r < 55296 ∨ 57343 < r)
theorem enc_bytes (r : Int) : bytes (enc r) := fun x hx => by have := Lib.encodeRuneZ_byte r x hx; exact ⟨by omega, by omega⟩
/-- A character's bytes, whatever is behind them, are read as it. -/
theorem first_enc {r : Int} (hr : isChar r) (t : List Int) (ht : bytes t) (k : Nat) (hk : 10 ≤ k) : utf_first.f k (enc r ++ t) = some (r, ((enc r).length : Int)) := by
  obtain ⟨r0, r1, r2⟩ := hr
  have w2 : wrap64 ((1 : Int) + 1) = ((2 : Nat) : Int) := by decide +kernel
  have w3 : wrap64 (((2 : Nat) : Int) + 1) = ((3 : Nat) : Int) := by decide +kernel
  have w4 : wrap64 (((3 : Nat) : Int) + 1) = ((4 : Nat) : Int) := by decide +kernel
  obtain ⟨k, rfl⟩ : ∃ j, k = j + 5 := ⟨k - 5, by omega⟩
  by_cases h1 : r ≤ 127
  · have e : enc r = [r] := Lib.encodeRuneZ_one r0 h1
    have hw : wrap32 r = r := by unfold wrap32; omega
    rw [e]
    show utf_first.f (k + 5) (r :: t) = _
    unfold utf_first.f
    rw [if_pos (by rw [List.length_cons]; omega), rd0, if_pos (by omega), hw]
    rfl
  · by_cases h2 : r ≤ 2047
    · have e : enc r = [192 + r / 64, 128 + r % 64] := Lib.encodeRuneZ_two (by omega) h2
      have hbs := enc_bytes r
      rw [e] at hbs ⊢
      have hm : manyv (192 + r / 64) = 2 := by unfold manyv; rw [if_pos (by omega)]
      have hlo : lowv (192 + r / 64) = 128 := by unfold lowv; rw [if_neg (by omega), if_neg (by omega), if_pos (by omega)]
      have hhi : highv (192 + r / 64) = 191 := by unfold highv; rw [if_neg (by omega), if_neg (by omega), if_pos (by omega)]
      have q1 : rd ((192 + r / 64) :: (128 + r % 64) :: t) 1 = 128 + r % 64 := rfl
      have hlen : (((192 + r / 64) :: (128 + r % 64) :: t).length : Int) = (t.length : Int) + 2 := by simp; omega
      have hd := dec_f hbs (by simp)
      have hv : Lib.decodeN 2 (192 + r / 64).toNat (128 + r % 64).toNat 0 0 = (r.toNat, 2) := by
        unfold Lib.decodeN
        repeat' split
        all_goals first | (exfalso; omega) | (apply Prod.ext <;> simp only <;> omega)
      show utf_first.f (k + 5) ((192 + r / 64) :: (128 + r % 64) :: t) = _
      unfold utf_first.f
      rw [if_pos (by omega), rd0, if_neg (by omega), span_f (hbs _ List.mem_cons_self) (k + 5) (by omega), Option.bind_some]
      simp only [hm, hlo, hhi]
      rw [utf_first.l0, if_pos (by decide), if_pos (by omega), if_pos (by decide), q1, if_pos (by omega), if_pos (by omega), w2]
      rw [utf_first.l0, if_neg (by decide), if_neg (by decide), if_pos (by decide), if_pos (by omega), Int.toNat_natCast]
      have ht2 : ((192 + r / 64) :: (128 + r % 64) :: t).take 2 = [192 + r / 64, 128 + r % 64] := rfl
      have hd2 : utf8_DecodeRune.f [192 + r / 64, 128 + r % 64] = some (((Lib.decodeN 2 (192 + r / 64).toNat (128 + r % 64).toNat 0 0).1 : Int), ((Lib.decodeN 2 (192 + r / 64).toNat (128 + r % 64).toNat 0 0).2 : Int)) := hd
      rw [ht2, hd2, hv, Option.bind_some]
      show some (((r.toNat : Nat) : Int), _) = some (r, _)
      rw [Int.toNat_of_nonneg r0]
      rfl
    · by_cases h3 : r ≤ 65535
      · have e : enc r = [224 + r / 4096, 128 + r / 64 % 64, 128 + r % 64] := Lib.encodeRuneZ_three (by omega)
        have hbs := enc_bytes r
        rw [e] at hbs ⊢
        have hm : manyv (224 + r / 4096) = 3 := by unfold manyv; rw [if_neg (by omega), if_pos (by omega)]
        have hlo : lowv (224 + r / 4096) ≤ 128 + r / 64 % 64 := by unfold lowv; split <;> (try split) <;> (try split) <;> omega
        have hhi : 128 + r / 64 % 64 ≤ highv (224 + r / 4096) := by unfold highv; split <;> (try split) <;> (try split) <;> omega
        have q1 : rd ((224 + r / 4096) :: (128 + r / 64 % 64) :: (128 + r % 64) :: t) 1 = 128 + r / 64 % 64 := rfl
        have q2 : rd ((224 + r / 4096) :: (128 + r / 64 % 64) :: (128 + r % 64) :: t) ((2 : Nat) : Int) = 128 + r % 64 := rfl
        have hlen : (((224 + r / 4096) :: (128 + r / 64 % 64) :: (128 + r % 64) :: t).length : Int) = (t.length : Int) + 3 := by simp; omega
        have hd := dec_f hbs (by simp)
        have hv : Lib.decodeN 3 (224 + r / 4096).toNat (128 + r / 64 % 64).toNat (128 + r % 64).toNat 0 = (r.toNat, 3) := by
          unfold Lib.decodeN
          repeat' split
          all_goals first | (exfalso; omega) | (apply Prod.ext <;> simp only <;> omega)
        show utf_first.f (k + 5) ((224 + r / 4096) :: (128 + r / 64 % 64) :: (128 + r % 64) :: t) = _
        unfold utf_first.f
        rw [if_pos (by omega), rd0, if_neg (by omega), span_f (hbs _ List.mem_cons_self) (k + 5) (by omega), Option.bind_some]
        simp only [hm]
        rw [utf_first.l0, if_pos (by decide), if_pos (by omega), if_pos (by decide), q1, if_pos (by omega), if_pos (by omega), w2]
        rw [utf_first.l0, if_pos (by decide), if_pos (by omega), if_pos (by decide), q2, if_pos (by omega), if_pos (by omega), w3]
        rw [utf_first.l0, if_neg (by decide), if_neg (by decide), if_pos (by decide), if_pos (by omega), Int.toNat_natCast]
        have ht2 : ((224 + r / 4096) :: (128 + r / 64 % 64) :: (128 + r % 64) :: t).take 3 = [224 + r / 4096, 128 + r / 64 % 64, 128 + r % 64] := rfl
        have hd2 : utf8_DecodeRune.f [224 + r / 4096, 128 + r / 64 % 64, 128 + r % 64] = some (((Lib.decodeN 3 (224 + r / 4096).toNat (128 + r / 64 % 64).toNat (128 + r % 64).toNat 0).1 : Int), ((Lib.decodeN 3 (224 + r / 4096).toNat (128 + r / 64 % 64).toNat (128 + r % 64).toNat 0).2 : Int)) := hd
        rw [ht2, hd2, hv, Option.bind_some]
        show some (((r.toNat : Nat) : Int), _) = some (r, _)
        rw [Int.toNat_of_nonneg r0]
        rfl
      · have e : enc r = [240 + r / 262144, 128 + r / 4096 % 64, 128 + r / 64 % 64, 128 + r % 64] := Lib.encodeRuneZ_four (by omega) r1
        have hbs := enc_bytes r
        rw [e] at hbs ⊢
        have hm : manyv (240 + r / 262144) = 4 := by unfold manyv; rw [if_neg (by omega), if_neg (by omega), if_pos (by omega)]
        have hlo : lowv (240 + r / 262144) ≤ 128 + r / 4096 % 64 := by unfold lowv; split <;> (try split) <;> (try split) <;> omega
        have hhi : 128 + r / 4096 % 64 ≤ highv (240 + r / 262144) := by unfold highv; split <;> (try split) <;> (try split) <;> omega
        have q1 : rd ((240 + r / 262144) :: (128 + r / 4096 % 64) :: (128 + r / 64 % 64) :: (128 + r % 64) :: t) 1 = 128 + r / 4096 % 64 := rfl
        have q2 : rd ((240 + r / 262144) :: (128 + r / 4096 % 64) :: (128 + r / 64 % 64) :: (128 + r % 64) :: t) ((2 : Nat) : Int) = 128 + r / 64 % 64 := rfl
        have q3 : rd ((240 + r / 262144) :: (128 + r / 4096 % 64) :: (128 + r / 64 % 64) :: (128 + r % 64) :: t) ((3 : Nat) : Int) = 128 + r % 64 := rfl
        have hlen : (((240 + r / 262144) :: (128 + r / 4096 % 64) :: (128 + r / 64 % 64) :: (128 + r % 64) :: t).length : Int) = (t.length : Int) + 4 := by simp; omega
        have hd := dec_f hbs (by simp)
        have hv : Lib.decodeN 4 (240 + r / 262144).toNat (128 + r / 4096 % 64).toNat (128 + r / 64 % 64).toNat (128 + r % 64).toNat = (r.toNat, 4) := by
          unfold Lib.decodeN
          repeat' split
          all_goals first | (exfalso; omega) | (apply Prod.ext <;> simp only <;> omega)
        show utf_first.f (k + 5) ((240 + r / 262144) :: (128 + r / 4096 % 64) :: (128 + r / 64 % 64) :: (128 + r % 64) :: t) = _
        unfold utf_first.f
        rw [if_pos (by omega), rd0, if_neg (by omega), span_f (hbs _ List.mem_cons_self) (k + 5) (by omega), Option.bind_some]
        simp only [hm]
        rw [utf_first.l0, if_pos (by decide), if_pos (by omega), if_pos (by decide), q1, if_pos (by omega), if_pos (by omega), w2]
        rw [utf_first.l0, if_pos (by decide), if_pos (by omega), if_pos (by decide), q2, if_pos (by omega), if_pos (by omega), w3]
        rw [utf_first.l0, if_pos (by decide), if_pos (by omega), if_pos (by decide), q3, if_pos (by omega), if_pos (by omega), w4]
        rw [utf_first.l0, if_neg (by decide), if_neg (by decide), if_pos (by decide), if_pos (by omega), Int.toNat_natCast]
        have ht2 : ((240 + r / 262144) :: (128 + r / 4096 % 64) :: (128 + r / 64 % 64) :: (128 + r % 64) :: t).take 4 = [240 + r / 262144, 128 + r / 4096 % 64, 128 + r / 64 % 64, 128 + r % 64] := rfl
        have hd2 : utf8_DecodeRune.f [240 + r / 262144, 128 + r / 4096 % 64, 128 + r / 64 % 64, 128 + r % 64] = some (((Lib.decodeN 4 (240 + r / 262144).toNat (128 + r / 4096 % 64).toNat (128 + r / 64 % 64).toNat (128 + r % 64).toNat).1 : Int), ((Lib.decodeN 4 (240 + r / 262144).toNat (128 + r / 4096 % 64).toNat (128 + r / 64 % 64).toNat (128 + r % 64).toNat).2 : Int)) := hd
        rw [ht2, hd2, hv, Option.bind_some]
        show some (((r.toNat : Nat) : Int), _) = some (r, _)
        rw [Int.toNat_of_nonneg r0]
        rfl

/-! all characters -/
/-- The program reads l as L, whatever it has read before. -/
def Reads (l L : List Int) : Prop := ∀ acc : List Int, acc.length + l.length ≤ 1000000 → ∃ k0, ∀ k, k0 ≤ k → utf_Decode.l0 k l acc = some (acc ++ L)
theorem reads_nil : Reads [] [] := by
  intro acc _
  refine ⟨1, fun k hk => ?_⟩
  obtain ⟨k, rfl⟩ : ∃ j, k = j + 1 := ⟨k - 1, by omega⟩
  rw [utf_Decode.l0, if_neg (by simp), List.append_nil]
theorem reads_step {l L : List Int} {r : Int} {m : Nat} (hf : ∀ k, 10 ≤ k → utf_first.f k l = some (r, (m : Int))) (h1 : 1 ≤ m) (h2 : m ≤ l.length) (h : Reads (l.drop m) L) : Reads l (r :: L) := by
  intro acc ha
  obtain ⟨k0, hk0⟩ := h (acc ++ [r]) (by rw [List.length_append, List.length_singleton, List.length_drop]; omega)
  refine ⟨k0 + 11, fun k hk => ?_⟩
  obtain ⟨k, rfl⟩ : ∃ j, k = j + 1 := ⟨k - 1, by omega⟩
  rw [utf_Decode.l0, if_pos (by omega), hf k (by omega), Option.bind_some, if_pos (by omega)]
  simp only []
  rw [if_pos (by omega), if_pos (by omega), Int.toNat_natCast, hk0 k (by omega), List.append_assoc]
  rfl
theorem first_mono {l : List Int} {x : Int × Int} {k0 : Nat} (h : utf_first.f k0 l = some x) : ∀ k, k0 ≤ k → utf_first.f k l = some x := by
  intro k hk
  induction k with
  | zero => obtain rfl : k0 = 0 := by omega
            exact h
  | succ k ih =>
    rcases Nat.lt_or_ge k k0 with g | g
    · obtain rfl : k0 = k + 1 := by omega
      exact h
    · exact utf_first.mono _ k _ (ih g)
theorem reads_any : ∀ (d : Nat) (l : List Int), l.length = d → bytes l → ∃ L, Reads l L ∧ L.length ≤ l.length := by
  intro d
  induction d using Nat.strongRecOn with
  | ind d ih =>
    intro l hd hb
    by_cases h0 : 0 < l.length
    · obtain ⟨r, m, hf, h1, h2⟩ := first_any l hb h0 10 (Nat.le_refl _)
      obtain ⟨L, hL, hl⟩ := ih (l.length - m) (by omega) (l.drop m) (by rw [List.length_drop]) (fun x hx => hb x (List.mem_of_mem_drop hx))
      refine ⟨(r : Int) :: L, reads_step (first_mono hf) h1 h2 hL, ?_⟩
      rw [List.length_drop] at hl
      simp
      omega
    · obtain rfl : l = [] := List.length_eq_zero_iff.1 (by omega)
      exact ⟨[], reads_nil, by simp⟩
theorem enc_pos (r : Int) : 1 ≤ (enc r).length := by
  unfold enc Lib.encodeRuneZ
  split
  · simp
  · split
    · simp
    · split
      · simp
      · split <;> simp
theorem reads_enc {r : Int} (hr : isChar r) {t L : List Int} (ht : bytes t) (h : Reads t L) : Reads (enc r ++ t) (r :: L) := by
  refine reads_step (m := (enc r).length) (fun k hk => first_enc hr t ht k hk) (enc_pos r) (by rw [List.length_append]; omega) ?_
  rw [List.drop_left]
  exact h
theorem flat_len : ∀ C : List Int, C.length ≤ (C.flatMap enc).length
  | [] => by simp
  | x :: C => by
    have := flat_len C
    have h := enc_pos x
    rw [List.flatMap_cons, List.length_append, List.length_cons]
    omega
theorem flat_bytes (C : List Int) : bytes (C.flatMap enc) := by
  intro x hx
  obtain ⟨r, _, hx⟩ := List.mem_flatMap.1 hx
  exact enc_bytes r x hx
theorem reads_chars : ∀ (C : List Int), (∀ r ∈ C, isChar r) → ∀ {t L : List Int}, bytes t → Reads t L → Reads (C.flatMap enc ++ t) (C ++ L)
  | [], _, t, L, _, h => h
  | r :: C, hC, t, L, ht, h => by
    rw [List.flatMap_cons, List.append_assoc]
    refine reads_enc (hC r List.mem_cons_self) (fun x hx => ?_) (reads_chars C (fun y hy => hC y (List.mem_cons_of_mem _ hy)) ht h)
    rcases List.mem_append.1 hx with hx | hx
    · exact flat_bytes C x hx
    · exact ht x hx
theorem reads_f {l L : List Int} (h : Reads l L) (hl : l.length ≤ 1000000) : ∃ k0, ∀ k, k0 ≤ k → utf_Decode.f k l = some L := by
  obtain ⟨k0, hk⟩ := h [] (by simpa using hl)
  exact ⟨k0, fun k hk' => by unfold utf_Decode.f; rw [hk k hk', List.nil_append]⟩
theorem reads_fun {l L M : List Int} (h : Reads l L) (h' : Reads l M) (hl : l.length ≤ 1000000) : L = M := by
  obtain ⟨k0, hk⟩ := reads_f h hl
  obtain ⟨k1, hk1⟩ := reads_f h' hl
  have := (hk (k0 + k1) (by omega)).symm.trans (hk1 (k0 + k1) (by omega))
  exact Option.some.inj this

/-! the reference: what it writes -/
def i32 (r : Int) : Prop := -2147483648 ≤ r ∧ r ≤ 2147483647
def fixC (r : Int) : Int := if 0 ≤ r ∧ r ≤ 1114111 ∧ (r < 55296 ∨ 57343 < r) then r else 65533
theorem fix_char (r : Int) : isChar (fixC r) := by
  unfold fixC
  split
  · assumption
  · exact ⟨by omega, by omega, by omega⟩
theorem enc_fix (r : Int) : enc (fixC r) = enc r := by
  unfold fixC
  split
  · rfl
  · rename_i h
    have : enc r = [239, 191, 189] := Lib.encodeRuneZ_bad (by omega)
    rw [this]
    decide
theorem char_f (r : Int) : carryallref01_Char.f r = some (decide (0 ≤ r ∧ r ≤ 1114111 ∧ (r < 55296 ∨ 57343 < r))) := by
  unfold carryallref01_Char.f
  by_cases h0 : r ≥ 0
  · rw [if_pos h0]
    by_cases h1 : r ≤ 1114111
    · rw [if_pos h1]
      by_cases h2 : r < 55296
      · rw [if_pos h2, decide_eq_true ⟨h0, h1, .inl h2⟩]
      · rw [if_neg h2]
        by_cases h3 : r > 57343
        · rw [decide_eq_true h3, decide_eq_true ⟨h0, h1, .inr h3⟩]
        · rw [decide_eq_false h3, decide_eq_false (by omega)]
    · rw [if_neg h1, decide_eq_false (by omega)]
  · rw [if_neg h0, decide_eq_false (by omega)]
theorem one_j0 {r : Int} (h : isChar r) (k : Nat) : carryallref01_One.j0 (k + 1) r = some (enc r) := by
  obtain ⟨r0, r1, r2⟩ := h
  have e : r % 4294967296 = r := by omega
  rw [carryallref01_One.j0, e]
  by_cases h1 : r < 128
  · rw [if_pos h1, show r % 256 = r by omega, show enc r = [r] from Lib.encodeRuneZ_one r0 (by omega)]
  · rw [if_neg h1]
    by_cases h2 : r < 2048
    · rw [if_pos h2, show enc r = [192 + r / 64, 128 + r % 64] from Lib.encodeRuneZ_two (by omega) (by omega), show (192 + r / 64) % 4294967296 % 256 = 192 + r / 64 by omega]
    · rw [if_neg h2]
      by_cases h3 : r < 65536
      · rw [if_pos h3, show enc r = [224 + r / 4096, 128 + r / 64 % 64, 128 + r % 64] from Lib.encodeRuneZ_three (by omega), show (224 + r / 4096) % 4294967296 % 256 = 224 + r / 4096 by omega]
      · rw [if_neg h3, show enc r = [240 + r / 262144, 128 + r / 4096 % 64, 128 + r / 64 % 64, 128 + r % 64] from Lib.encodeRuneZ_four (by omega) r1, show (240 + r / 262144) % 4294967296 % 256 = 240 + r / 262144 by omega]
theorem one_f (r : Int) (k : Nat) (hk : 1 ≤ k) : carryallref01_One.f k r = some (enc r) := by
  obtain ⟨k, rfl⟩ : ∃ j, k = j + 1 := ⟨k - 1, by omega⟩
  unfold carryallref01_One.f
  rw [char_f, Option.bind_some]
  by_cases h : 0 ≤ r ∧ r ≤ 1114111 ∧ (r < 55296 ∨ 57343 < r)
  · rw [decide_eq_true h, if_pos rfl, one_j0 h]
  · rw [decide_eq_false h, if_neg Bool.false_ne_true, one_j0 (r := 65533) ⟨by omega, by omega, by omega⟩, ← enc_fix r]
    unfold fixC
    rw [if_neg h]
theorem enc_le (r : Int) : (enc r).length ≤ 4 := by
  unfold enc Lib.encodeRuneZ
  split
  · simp
  · split
    · simp
    · split
      · simp
      · split <;> simp
theorem renc_l0 (C : List Int) (hC : C.length ≤ 1000000) : ∀ (d i : Nat) (acc : List Int) (k : Nat), C.length - i = d → i ≤ C.length → d + 2 ≤ k → acc.length ≤ 4 * i → carryallref01_Encode.l0 k C acc (C.length : Int) (i : Int) = some (acc ++ (C.drop i).flatMap enc) := by
  intro d
  induction d with
  | zero =>
    intro i acc k hd hi hk ha
    obtain ⟨k, rfl⟩ : ∃ j, k = j + 1 := ⟨k - 1, by omega⟩
    rw [carryallref01_Encode.l0, if_neg (by omega), List.drop_eq_nil_of_le (by omega)]
    simp
  | succ d ih =>
    intro i acc k hd hi hk ha
    obtain ⟨k, rfl⟩ : ∃ j, k = j + 1 := ⟨k - 1, by omega⟩
    have hw : wrap64 ((i : Int) + 1) = ((i + 1 : Nat) : Int) := by rw [wrap_in (by omega) (by omega)]; omega
    have hle := enc_le (rd C (i : Int))
    rw [carryallref01_Encode.l0, if_pos (by omega), if_pos (by omega), if_pos (by omega), one_f _ k (by omega), Option.bind_some, if_pos (by omega), hw, ih (i + 1) _ k (by omega) (by omega) (by omega) (by rw [List.length_append]; omega), drop_rd C i (by omega), List.flatMap_cons, List.append_assoc]
theorem renc_f (C : List Int) (hC : C.length ≤ 1000000) (k : Nat) (hk : C.length + 2 ≤ k) : carryallref01_Encode.f k C = some (C.flatMap enc) := by
  unfold carryallref01_Encode.f
  have := renc_l0 C hC _ 0 [] k rfl (by omega) (by omega) (by simp)
  rw [List.drop_zero, List.nil_append] at this
  exact this

/-! the reference's Decode ends -/
theorem starts_any (l : List Int) (h0 : 0 < l.length) (hl : l.length ≤ 1000000) : ∃ k0 x, ∀ k, k0 ≤ k → carryallref01_starts.f k l = some x := by
  have L0 : ∀ (d i : Nat) (many : Int), l.length - i = d → 1 ≤ i → ∃ k0 x, ∀ k, k0 ≤ k → carryallref01_starts.l0 k l many (i : Int) = some x := by
    intro d
    induction d with
    | zero =>
      intro i many hd hi
      have hlt : ¬ (i : Int) < (l.length : Int) := by omega
      have : ∃ x, carryallref01_starts.l0 1 l many (i : Int) = some x := by
        rw [carryallref01_starts.l0, if_neg hlt]
        have h1 : (l.length : Int) > 1 → (1 : Int) < (l.length : Int) := fun h => h
        have h2 : 0 < (l.length : Int) := by omega
        rw [if_pos h2]
        by_cases g : (l.length : Int) > 1
        · rw [if_pos g, if_pos (h1 g), if_pos (h1 g), if_pos (h1 g), if_pos (h1 g)]
          clear h1 h2 hlt
          repeat' split
          all_goals exact ⟨_, rfl⟩
        · rw [if_neg g]; exact ⟨_, rfl⟩
      obtain ⟨x, hx⟩ := this
      refine ⟨1, x, fun k hk => ?_⟩
      obtain ⟨k, rfl⟩ : ∃ j, k = j + 1 := ⟨k - 1, by omega⟩
      rw [carryallref01_starts.l0, if_neg hlt] at hx ⊢
      exact hx
    | succ d ih =>
      intro i many hd hi
      have hw : wrap64 ((i : Int) + 1) = ((i + 1 : Nat) : Int) := by rw [wrap_in (by omega) (by omega)]; omega
      obtain ⟨k0, x, hx⟩ := ih (i + 1) many (by omega) (by omega)
      by_cases h1 : rd l (i : Int) < 128
      · refine ⟨1, (false, false), fun k hk => ?_⟩
        obtain ⟨k, rfl⟩ : ∃ j, k = j + 1 := ⟨k - 1, by omega⟩
        rw [carryallref01_starts.l0, if_pos (by omega), if_pos (by omega), if_pos h1]
      · by_cases h2 : rd l (i : Int) > 191
        · refine ⟨1, (false, false), fun k hk => ?_⟩
          obtain ⟨k, rfl⟩ : ∃ j, k = j + 1 := ⟨k - 1, by omega⟩
          rw [carryallref01_starts.l0, if_pos (by omega), if_pos (by omega), if_neg h1, if_pos h2]
        · refine ⟨k0 + 1, x, fun k hk => ?_⟩
          obtain ⟨k, rfl⟩ : ∃ j, k = j + 1 := ⟨k - 1, by omega⟩
          rw [carryallref01_starts.l0, if_pos (by omega), if_pos (by omega), if_neg h1, if_neg h2, hw, hx k (by omega)]
  have J2 : ∀ many : Int, ∃ k0 x, ∀ k, k0 ≤ k → carryallref01_starts.j2 k l many = some x := by
    intro many
    obtain ⟨k0, x, hx⟩ := L0 _ 1 many rfl (Nat.le_refl _)
    by_cases h : (l.length : Int) > many
    · refine ⟨1, (false, false), fun k hk => ?_⟩
      obtain ⟨k, rfl⟩ : ∃ j, k = j + 1 := ⟨k - 1, by omega⟩
      rw [carryallref01_starts.j2, if_pos h]
    · refine ⟨k0 + 1, x, fun k hk => ?_⟩
      obtain ⟨k, rfl⟩ : ∃ j, k = j + 1 := ⟨k - 1, by omega⟩
      rw [carryallref01_starts.j2, if_neg h]
      exact hx k (by omega)
  have J1 : ∀ (many : Int) (b : Bool), ∃ k0 x, ∀ k, k0 ≤ k → carryallref01_starts.j1 k l many b = some x := by
    intro many b
    obtain ⟨k3, x3, h3⟩ := J2 3
    obtain ⟨k4, x4, h4⟩ := J2 4
    obtain ⟨km, xm, hm⟩ := J2 many
    cases b
    · by_cases g1 : rd l 0 ≥ 240
      · by_cases g2 : rd l 0 ≤ 244
        · refine ⟨k4 + 1, x4, fun k hk => ?_⟩
          obtain ⟨k, rfl⟩ : ∃ j, k = j + 1 := ⟨k - 1, by omega⟩
          rw [carryallref01_starts.j1, if_neg Bool.false_ne_true, if_pos (by omega), if_pos g1, if_pos g2]
          exact h4 k (by omega)
        · refine ⟨km + 1, xm, fun k hk => ?_⟩
          obtain ⟨k, rfl⟩ : ∃ j, k = j + 1 := ⟨k - 1, by omega⟩
          rw [carryallref01_starts.j1, if_neg Bool.false_ne_true, if_pos (by omega), if_pos g1, if_neg g2]
          exact hm k (by omega)
      · refine ⟨km + 1, xm, fun k hk => ?_⟩
        obtain ⟨k, rfl⟩ : ∃ j, k = j + 1 := ⟨k - 1, by omega⟩
        rw [carryallref01_starts.j1, if_neg Bool.false_ne_true, if_pos (by omega), if_neg g1]
        exact hm k (by omega)
    · refine ⟨k3 + 1, x3, fun k hk => ?_⟩
      obtain ⟨k, rfl⟩ : ∃ j, k = j + 1 := ⟨k - 1, by omega⟩
      rw [carryallref01_starts.j1, if_pos rfl]
      exact h3 k (by omega)
  have J0 : ∀ (many : Int) (b : Bool), ∃ k0 x, ∀ k, k0 ≤ k → carryallref01_starts.j0 k l many b = some x := by
    intro many b
    obtain ⟨k2, x2, h2⟩ := J2 2
    cases b
    · obtain ⟨ka, xa, ha⟩ := J1 many (decide (rd l 0 ≤ 239))
      obtain ⟨kb, xb, hb⟩ := J1 many false
      by_cases g1 : rd l 0 ≥ 224
      · refine ⟨ka + 1, xa, fun k hk => ?_⟩
        obtain ⟨k, rfl⟩ : ∃ j, k = j + 1 := ⟨k - 1, by omega⟩
        rw [carryallref01_starts.j0, if_neg Bool.false_ne_true, if_pos (by omega), if_pos g1]
        exact ha k (by omega)
      · refine ⟨kb + 1, xb, fun k hk => ?_⟩
        obtain ⟨k, rfl⟩ : ∃ j, k = j + 1 := ⟨k - 1, by omega⟩
        rw [carryallref01_starts.j0, if_neg Bool.false_ne_true, if_pos (by omega), if_neg g1]
        exact hb k (by omega)
    · refine ⟨k2 + 1, x2, fun k hk => ?_⟩
      obtain ⟨k, rfl⟩ : ∃ j, k = j + 1 := ⟨k - 1, by omega⟩
      rw [carryallref01_starts.j0, if_pos rfl]
      exact h2 k (by omega)
  unfold carryallref01_starts.f
  by_cases g1 : rd l 0 < 128
  · obtain ⟨k0, x, h⟩ := J2 1
    exact ⟨k0, x, fun k hk => by rw [if_pos (by omega), if_pos g1]; exact h k hk⟩
  · by_cases g2 : rd l 0 ≥ 194
    · obtain ⟨k0, x, h⟩ := J0 0 (decide (rd l 0 ≤ 223))
      exact ⟨k0, x, fun k hk => by rw [if_pos (by omega), if_neg g1, if_pos g2]; exact h k hk⟩
    · obtain ⟨k0, x, h⟩ := J0 0 false
      exact ⟨k0, x, fun k hk => by rw [if_pos (by omega), if_neg g1, if_neg g2]; exact h k hk⟩
theorem number_any (l : List Int) (h0 : 0 < l.length) (hl : l.length ≤ 1000000) : ∃ k0 x, ∀ k, k0 ≤ k → carryallref01_number.f k l = some x := by
  have L0 : ∀ (d i : Nat) (v : Int), l.length - i = d → ∃ k0 x, ∀ k, k0 ≤ k → carryallref01_number.l0 k l v (i : Int) = some x := by
    intro d
    induction d with
    | zero =>
      intro i v hd
      refine ⟨1, v, fun k hk => ?_⟩
      obtain ⟨k, rfl⟩ : ∃ j, k = j + 1 := ⟨k - 1, by omega⟩
      rw [carryallref01_number.l0, if_neg (by omega)]
    | succ d ih =>
      intro i v hd
      have hw : wrap64 ((i : Int) + 1) = ((i + 1 : Nat) : Int) := by rw [wrap_in (by omega) (by omega)]; omega
      obtain ⟨k0, x, hx⟩ := ih (i + 1) (wrap32 ((wrap32 ((wrap32 (v * 64)) + (wrap32 (rd l (i : Int))))) - 128)) (by omega)
      refine ⟨k0 + 1, x, fun k hk => ?_⟩
      obtain ⟨k, rfl⟩ : ∃ j, k = j + 1 := ⟨k - 1, by omega⟩
      rw [carryallref01_number.l0, if_pos (by omega), if_pos (by omega), hw]
      exact hx k (by omega)
  have J0 : ∀ v : Int, ∃ k0 x, ∀ k, k0 ≤ k → carryallref01_number.j0 k l v = some x := by
    intro v
    obtain ⟨k0, x, hx⟩ := L0 _ 1 v rfl
    refine ⟨k0 + 1, x, fun k hk => ?_⟩
    obtain ⟨k, rfl⟩ : ∃ j, k = j + 1 := ⟨k - 1, by omega⟩
    rw [carryallref01_number.j0]
    exact hx k (by omega)
  have hz : 0 < (l.length : Int) := by omega
  unfold carryallref01_number.f
  by_cases g2 : (l.length : Int) = 2
  · obtain ⟨k0, x, h⟩ := J0 (wrap32 ((wrap32 (rd l 0)) - 192))
    exact ⟨k0, x, fun k hk => by rw [if_pos hz, if_pos g2]; exact h k hk⟩
  · by_cases g3 : (l.length : Int) = 3
    · obtain ⟨k0, x, h⟩ := J0 (wrap32 ((wrap32 (rd l 0)) - 224))
      exact ⟨k0, x, fun k hk => by rw [if_pos hz, if_neg g2, if_pos g3]; exact h k hk⟩
    · by_cases g4 : (l.length : Int) = 4
      · obtain ⟨k0, x, h⟩ := J0 (wrap32 ((wrap32 (rd l 0)) - 240))
        exact ⟨k0, x, fun k hk => by rw [if_pos hz, if_neg g2, if_neg g3, if_pos g4]; exact h k hk⟩
      · obtain ⟨k0, x, h⟩ := J0 (wrap32 (rd l 0))
        exact ⟨k0, x, fun k hk => by rw [if_pos hz, if_neg g2, if_neg g3, if_neg g4]; exact h k hk⟩
theorem rdec_l1 (l : List Int) (h0 : 0 < l.length) (hl : l.length ≤ 1000000) (hrec : ∀ m, 1 ≤ m → m ≤ l.length → ∀ acc : List Int, acc.length + (l.length - m) ≤ 1000000 → ∃ k0 x, ∀ k, k0 ≤ k → carryallref01_Decode.l0 k (l.drop m) acc = some (acc ++ x) ∧ x.length ≤ l.length - m) (acc : List Int) (ha : acc.length + l.length ≤ 1000000) :
    ∀ (d n : Nat) (whole : Bool), l.length - n = d → n ≤ l.length → (whole = true → 1 ≤ n) → ∃ k0 x, ∀ k, k0 ≤ k → carryallref01_Decode.l1 k l acc (n : Int) whole = some (acc ++ x) ∧ x.length ≤ l.length := by
  have out : ∀ (n : Nat) (whole : Bool), n ≤ l.length → (whole = true → 1 ≤ n) → ∃ k0 x, ∀ k, k0 ≤ k → carryallref01_Decode.j2 k l acc (n : Int) whole false = some (acc ++ x) ∧ x.length ≤ l.length := by
    intro n whole hn hw
    cases whole
    · have hm : mx (n : Int) 1 = ((max n 1 : Nat) : Int) := by unfold mx; split <;> omega
      obtain ⟨k0, x, hx⟩ := hrec (max n 1) (by omega) (by omega) (acc ++ [65533]) (by rw [List.length_append, List.length_singleton]; omega)
      refine ⟨k0 + 1, 65533 :: x, fun k hk => ?_⟩
      obtain ⟨k, rfl⟩ : ∃ j, k = j + 1 := ⟨k - 1, by omega⟩
      obtain ⟨e1, e2⟩ := hx k (by omega)
      rw [carryallref01_Decode.j2, if_neg Bool.false_ne_true, if_neg Bool.false_ne_true, if_pos (by omega), hm, if_pos (by omega), if_pos (by omega), Int.toNat_natCast, e1, List.append_assoc]
      exact ⟨rfl, by simp; omega⟩
    · have h1 := hw rfl
      obtain ⟨kn, v, hv⟩ := number_any (l.take n) (by rw [List.length_take]; omega) (by rw [List.length_take]; omega)
      obtain ⟨k0, x, hx⟩ := hrec n h1 hn (acc ++ [v]) (by rw [List.length_append, List.length_singleton]; omega)
      refine ⟨k0 + kn + 1, v :: x, fun k hk => ?_⟩
      obtain ⟨k, rfl⟩ : ∃ j, k = j + 1 := ⟨k - 1, by omega⟩
      obtain ⟨e1, e2⟩ := hx k (by omega)
      rw [carryallref01_Decode.j2, if_neg Bool.false_ne_true, if_pos rfl, if_pos (by omega), if_pos (by omega), Int.toNat_natCast, hv k (by omega), Option.bind_some, if_pos (by omega), e1, List.append_assoc]
      exact ⟨rfl, by simp; omega⟩
  intro d
  induction d with
  | zero =>
    intro n whole hd hn hw
    obtain ⟨k0, x, hx⟩ := out n whole hn hw
    refine ⟨k0 + 1, x, fun k hk => ?_⟩
    obtain ⟨k, rfl⟩ : ∃ j, k = j + 1 := ⟨k - 1, by omega⟩
    rw [carryallref01_Decode.l1, if_neg (by omega)]
    exact hx k (by omega)
  | succ d ih =>
    intro n whole hd hn hw
    obtain ⟨k0, x, hx⟩ := out n whole hn hw
    cases whole
    · have hwr : wrap64 ((n : Int) + 1) = ((n + 1 : Nat) : Int) := by rw [wrap_in (by omega) (by omega)]; omega
      obtain ⟨ks, ⟨b1, b2⟩, hs⟩ := starts_any (l.take (n + 1)) (by rw [List.length_take]; omega) (by rw [List.length_take]; omega)
      cases b1
      · have hm : mx (n : Int) 1 = ((max n 1 : Nat) : Int) := by unfold mx; split <;> omega
        obtain ⟨k1, y, hy⟩ := hrec (max n 1) (by omega) (by omega) (acc ++ [65533]) (by rw [List.length_append, List.length_singleton]; omega)
        refine ⟨k1 + ks + 2, 65533 :: y, fun k hk => ?_⟩
        obtain ⟨k, rfl⟩ : ∃ j, k = j + 2 := ⟨k - 2, by omega⟩
        obtain ⟨e1, e2⟩ := hy k (by omega)
        rw [carryallref01_Decode.l1, if_pos (by omega), carryallref01_Decode.j2, if_pos (by decide), hwr, if_pos (by omega), if_pos (by omega), Int.toNat_natCast, hs k (by omega), Option.bind_some, if_neg Bool.false_ne_true, if_neg Bool.false_ne_true, if_pos (by omega), hm, if_pos (by omega), if_pos (by omega), Int.toNat_natCast, e1, List.append_assoc]
        exact ⟨rfl, by simp; omega⟩
      · obtain ⟨k1, y, hy⟩ := ih (n + 1) b2 (by omega) (by omega) (fun _ => by omega)
        refine ⟨k1 + ks + 2, y, fun k hk => ?_⟩
        obtain ⟨k, rfl⟩ : ∃ j, k = j + 2 := ⟨k - 2, by omega⟩
        rw [carryallref01_Decode.l1, if_pos (by omega), carryallref01_Decode.j2, if_pos (by decide), hwr, if_pos (by omega), if_pos (by omega), Int.toNat_natCast, hs k (by omega), Option.bind_some, if_pos rfl]
        exact hy k (by omega)
    · refine ⟨k0 + 1, x, fun k hk => ?_⟩
      obtain ⟨k, rfl⟩ : ∃ j, k = j + 1 := ⟨k - 1, by omega⟩
      rw [carryallref01_Decode.l1, if_pos (by omega)]
      exact hx k (by omega)
theorem rdec_any : ∀ (d : Nat) (l : List Int), l.length = d → ∀ acc : List Int, acc.length + l.length ≤ 1000000 → ∃ k0 x, ∀ k, k0 ≤ k → carryallref01_Decode.l0 k l acc = some (acc ++ x) ∧ x.length ≤ l.length := by
  intro d
  induction d using Nat.strongRecOn with
  | ind d ih =>
    intro l hd acc ha
    by_cases h0 : 0 < l.length
    · obtain ⟨k0, x, hx⟩ := rdec_l1 l h0 (by omega) (fun m h1 h2 acc' ha' => by
        obtain ⟨k0, x, hx⟩ := ih (l.length - m) (by omega) (l.drop m) (by rw [List.length_drop]) acc' (by rw [List.length_drop]; omega)
        exact ⟨k0, x, fun k hk => by have := hx k hk; rw [List.length_drop] at this; exact this⟩) acc ha _ 0 false rfl (by omega) (fun h => by cases h)
      refine ⟨k0 + 1, x, fun k hk => ?_⟩
      obtain ⟨k, rfl⟩ : ∃ j, k = j + 1 := ⟨k - 1, by omega⟩
      rw [carryallref01_Decode.l0, if_pos (by omega)]
      exact hx k (by omega)
    · obtain rfl : l = [] := List.length_eq_zero_iff.1 (by omega)
      refine ⟨1, [], fun k hk => ?_⟩
      obtain ⟨k, rfl⟩ : ∃ j, k = j + 1 := ⟨k - 1, by omega⟩
      rw [carryallref01_Decode.l0, if_neg (by simp), List.append_nil]
      exact ⟨rfl, by simp⟩
theorem valid_any (l : List Int) (hb : bytes l) (hl : l.length ≤ 200000) : ∃ k0 b, (∀ k, k0 ≤ k → carryallref01_Valid.f k l = some b) ∧ (b = true → ∃ C : List Int, (∀ r ∈ C, isChar r) ∧ l = C.flatMap enc) := by
  obtain ⟨k0, L, hL⟩ := rdec_any _ l rfl [] (by simp; omega)
  have hLl := (hL k0 (Nat.le_refl _)).2
  refine ⟨k0 + L.length + 2, (strOfNums (L.flatMap enc)).toList == (strOfNums l).toList, fun k hk => ?_, fun hb2 => ?_⟩
  · unfold carryallref01_Valid.f carryallref01_Decode.f
    rw [(hL k (by omega)).1, List.nil_append, Option.bind_some, renc_f L (by omega) k (by omega), Option.bind_some]
  · refine ⟨L.map fixC, fun r hr => ?_, ?_⟩
    · obtain ⟨x, _, rfl⟩ := List.mem_map.1 hr
      exact fix_char x
    · have h1 := toList_iff.1 (beq_iff_eq.1 hb2)
      have h2 := congrArg bytesOf h1
      rw [bytes_str _ (flat_bytes L), bytes_str _ hb] at h2
      rw [← h2, List.flatMap_map]
      exact (congrArg (fun f => L.flatMap f) (funext fun r => (enc_fix r).symm) : L.flatMap enc = L.flatMap fun r => enc (fixC r))
theorem same_l0 (X : List Int) (hX : X.length ≤ 1000000) : ∀ (d i k : Nat), X.length - i = d → i ≤ X.length → d + 1 ≤ k → carryalllaw01_same.l0 k X X (X.length : Int) (i : Int) = some true := by
  intro d
  induction d with
  | zero =>
    intro i k hd hi hk
    obtain ⟨k, rfl⟩ : ∃ j, k = j + 1 := ⟨k - 1, by omega⟩
    rw [carryalllaw01_same.l0, if_neg (by omega)]
  | succ d ih =>
    intro i k hd hi hk
    obtain ⟨k, rfl⟩ : ∃ j, k = j + 1 := ⟨k - 1, by omega⟩
    have hw : wrap64 ((i : Int) + 1) = ((i + 1 : Nat) : Int) := by rw [wrap_in (by omega) (by omega)]; omega
    rw [carryalllaw01_same.l0, if_pos (by omega), if_pos (by omega), if_pos (by omega), if_pos (by omega), if_pos rfl, hw, ih (i + 1) k (by omega) (by omega) (by omega)]
theorem same_f (X : List Int) (hX : X.length ≤ 1000000) (k : Nat) (hk : X.length + 1 ≤ k) : carryalllaw01_same.f k X X = some true := by
  unfold carryalllaw01_same.f
  rw [if_pos rfl]
  exact same_l0 X hX _ 0 k rfl (by omega) (by omega)
end Go.Proofs.YtkoddcihcoekgaaDoor.Dec
