/- What bytes are read as by the reference, in steps; who is valid; what a range over a string reads. -/
import Derived.Test.YtbbdfamfmkcfhaaGreatDoorPx4
import Derived.Test.YtbbdfamfmkcfhaaGreatDoorPx5
import Derived.Test.YtbbdfamfmkcfhaaGreatDoorPx6
import Derived.Test.YtbbdfamfmkcfhaaGreatDoorPx7
import Derived.Test.YtbbdfamfmkcfhaaGreatDoorPl
import Derived.Lib.RuneBytes
import Derived.Lib.DecodeN
import Derived.Lib.ValidAsc
import Derived.Laws.RangeAny
namespace Go.Proofs.YtbbdfamfmkcfhaaGreatDoor.Dec
open Go.RowKit Go.Proofs.YtbbdfamfmkcfhaaGreatDoor.P Go.Proofs.YtbbdfamfmkcfhaaGreatDoor.Pl Go.Proofs.YtbbdfamfmkcfhaaGreatDoorW.PrintWords Go.Proofs.YtbbdfamfmkcfhaaGreatDoorW.PrintLast Go.Proofs.YtbbdfamfmkcfhaaGreatDoorW.PrintMore
set_option linter.unusedVariables false
set_option linter.unusedSimpArgs false
theorem nat_of {c : Int} (h : byte c) : ∃ n : Nat, c = n ∧ n < 256 := by
  obtain ⟨h0, h1⟩ := h
  exact ⟨c.toNat, by omega, by omega⟩
abbrev enc (r : Int) : List Int := Lib.encodeRuneZ r
def bytes (l : List Int) : Prop := ∀ x ∈ l, byte x
theorem get_of (l : List Int) (hb : bytes l) (i : Nat) : ((strOfNums l).get! i).toNat = (l.getD i 0).toNat := by
  have hz : (strOfNums l).size = l.length := strOfNums_size l
  by_cases hi : i < l.length
  · have hjs : i < (strOfNums l).size := by rw [hz]; exact hi
    have h1 := bt_at (strOfNums l) (i : Int) (by simpa using hjs)
    have h2 := bt_get (strOfNums l) i (by rw [bytesOf_length, hz]; exact hi)
    simp only [bytes_str l hb] at h2
    rw [Utf8W.get!_of_lt (strOfNums l) i hjs, List.getD_eq_getElem?_getD, List.getElem?_eq_getElem hi]
    have h3 := h1.trans h2
    simp only [Int.toNat_natCast] at h3
    show _ = l[i].toNat
    omega
  · rw [List.getD_eq_getElem?_getD, List.getElem?_eq_none (by omega)]
    have : (strOfNums l).get! i = default := by
      show (strOfNums l).data[i]! = default
      rw [getElem!_neg]
      show ¬ i < (strOfNums l).size
      omega
    rw [this]
    rfl
theorem go_of (l : List Int) (hb : bytes l) (h0 : 0 < l.length) : Lib.decodeGo (strOfNums l) = Lib.decodeN l.length (l.getD 0 0).toNat (l.getD 1 0).toNat (l.getD 2 0).toNat (l.getD 3 0).toNat := by
  have hz : (strOfNums l).size = l.length := strOfNums_size l
  unfold Lib.decodeGo
  rw [if_neg (by omega), Lib.decode_at, hz, Nat.sub_zero, get_of l hb, get_of l hb, get_of l hb, get_of l hb]
def lowv (b : Int) : Int := if b = 224 then 160 else if b = 240 then 144 else if 194 ≤ b ∧ b ≤ 244 then 128 else 0
def highv (b : Int) : Int := if b = 237 then 159 else if b = 244 then 143 else if 194 ≤ b ∧ b ≤ 244 then 191 else 0
def manyv (b : Int) : Int := if 194 ≤ b ∧ b ≤ 223 then 2 else if 224 ≤ b ∧ b ≤ 239 then 3 else if 240 ≤ b ∧ b ≤ 244 then 4 else 0
theorem rd_at {l : List Int} {i : Nat} {x : Int} (h : l[i]? = some x) : rd l (i : Int) = x := by
  unfold rd
  rw [Int.toNat_natCast, List.getD_eq_getElem?_getD, h]
  rfl
theorem many_nat (b : Int) : ∃ m : Nat, manyv b = m ∧ m ≤ 4 := by
  unfold manyv
  split
  · exact ⟨2, rfl, by omega⟩
  · split
    · exact ⟨3, rfl, by omega⟩
    · split
      · exact ⟨4, rfl, by omega⟩
      · exact ⟨0, rfl, by omega⟩
theorem rd0 {x : Int} {t : List Int} : rd (x :: t) 0 = x := rfl
def isChar (r : Int) : Prop := 0 ≤ r ∧ r ≤ 1114111 ∧ (r < 55296 ∨ 57343 < r)
theorem enc_bytes (r : Int) : bytes (enc r) := fun x hx => by have := Lib.encodeRuneZ_byte r x hx; exact ⟨by omega, by omega⟩
theorem enc_pos (r : Int) : 1 ≤ (enc r).length := by
  unfold enc Lib.encodeRuneZ
  split
  · simp
  · split
    · simp
    · split
      · simp
      · split <;> simp
theorem flat_len : ∀ C : List Int, C.length ≤ (C.flatMap enc).length
  | [] => by simp
  | x :: C => by
    have := flat_len C
    have h := enc_pos x
    rw [List.flatMap_cons, List.length_append, List.length_cons]
    omega
theorem flat_bytes (C : List Int) : bytes (C.flatMap enc) := by
  intro x hx
  obtain ⟨r, _, hx⟩ := List.mem_flatMap.1 hx
  exact enc_bytes r x hx
def i32 (r : Int) : Prop := -2147483648 ≤ r ∧ r ≤ 2147483647
def fixC (r : Int) : Int := if 0 ≤ r ∧ r ≤ 1114111 ∧ (r < 55296 ∨ 57343 < r) then r else 65533
theorem fix_char (r : Int) : isChar (fixC r) := by
  unfold fixC
  split
  · assumption
  · exact ⟨by omega, by omega, by omega⟩
theorem enc_fix (r : Int) : enc (fixC r) = enc r := by
  unfold fixC
  split
  · rfl
  · rename_i h
    have : enc r = [239, 191, 189] := Lib.encodeRuneZ_bad (by omega)
    rw [this]
    decide
theorem char_f (r : Int) : carryallref01_Char.f r = some (decide (0 ≤ r ∧ r ≤ 1114111 ∧ (r < 55296 ∨ 57343 < r))) := by
  unfold carryallref01_Char.f
  by_cases h0 : r ≥ 0
  · rw [if_pos h0]
    by_cases h1 : r ≤ 1114111
    · rw [if_pos h1]
      by_cases h2 : r < 55296
      · rw [if_pos h2, decide_eq_true ⟨h0, h1, .inl h2⟩]
      · rw [if_neg h2]
        by_cases h3 : r > 57343
        · rw [decide_eq_true h3, decide_eq_true ⟨h0, h1, .inr h3⟩]
        · rw [decide_eq_false h3, decide_eq_false (by omega)]
    · rw [if_neg h1, decide_eq_false (by omega)]
  · rw [if_neg h0, decide_eq_false (by omega)]
theorem one_j0 {r : Int} (h : isChar r) (k : Nat) : carryallref01_One.j0 (k + 1) r = some (enc r) := by
  obtain ⟨r0, r1, r2⟩ := h
  have e : r % 4294967296 = r := by omega
  rw [carryallref01_One.j0, e]
  by_cases h1 : r < 128
  · rw [if_pos h1, show r % 256 = r by omega, show enc r = [r] from Lib.encodeRuneZ_one r0 (by omega)]
  · rw [if_neg h1]
    by_cases h2 : r < 2048
    · rw [if_pos h2, show enc r = [192 + r / 64, 128 + r % 64] from Lib.encodeRuneZ_two (by omega) (by omega), show (192 + r / 64) % 4294967296 % 256 = 192 + r / 64 by omega]
    · rw [if_neg h2]
      by_cases h3 : r < 65536
      · rw [if_pos h3, show enc r = [224 + r / 4096, 128 + r / 64 % 64, 128 + r % 64] from Lib.encodeRuneZ_three (by omega), show (224 + r / 4096) % 4294967296 % 256 = 224 + r / 4096 by omega]
      · rw [if_neg h3, show enc r = [240 + r / 262144, 128 + r / 4096 % 64, 128 + r / 64 % 64, 128 + r % 64] from Lib.encodeRuneZ_four (by omega) r1, show (240 + r / 262144) % 4294967296 % 256 = 240 + r / 262144 by omega]
theorem one_f (r : Int) (k : Nat) (hk : 1 ≤ k) : carryallref01_One.f k r = some (enc r) := by
  obtain ⟨k, rfl⟩ : ∃ j, k = j + 1 := ⟨k - 1, by omega⟩
  unfold carryallref01_One.f
  rw [char_f, Option.bind_some]
  by_cases h : 0 ≤ r ∧ r ≤ 1114111 ∧ (r < 55296 ∨ 57343 < r)
  · rw [decide_eq_true h, if_pos rfl, one_j0 h]
  · rw [decide_eq_false h, if_neg Bool.false_ne_true, one_j0 (r := 65533) ⟨by omega, by omega, by omega⟩, ← enc_fix r]
    unfold fixC
    rw [if_neg h]
theorem enc_le (r : Int) : (enc r).length ≤ 4 := by
  unfold enc Lib.encodeRuneZ
  split
  · simp
  · split
    · simp
    · split
      · simp
      · split <;> simp
theorem renc_l0 (C : List Int) (hC : C.length ≤ 1000000) : ∀ (d i : Nat) (acc : List Int) (k : Nat), C.length - i = d → i ≤ C.length → d + 2 ≤ k → acc.length ≤ 4 * i → carryallref01_Encode.l0 k C acc (C.length : Int) (i : Int) = some (acc ++ (C.drop i).flatMap enc) := by
  intro d
  induction d with
  | zero =>
    intro i acc k hd hi hk ha
    obtain ⟨k, rfl⟩ : ∃ j, k = j + 1 := ⟨k - 1, by omega⟩
    rw [carryallref01_Encode.l0, if_neg (by omega), List.drop_eq_nil_of_le (by omega)]
    simp
  | succ d ih =>
    intro i acc k hd hi hk ha
    obtain ⟨k, rfl⟩ : ∃ j, k = j + 1 := ⟨k - 1, by omega⟩
    have hw : wrap64 ((i : Int) + 1) = ((i + 1 : Nat) : Int) := by rw [wrap_in (by omega) (by omega)]; omega
    have hle := enc_le (rd C (i : Int))
    rw [carryallref01_Encode.l0, if_pos (by omega), if_pos (by omega), if_pos (by omega), one_f _ k (by omega), Option.bind_some, if_pos (by omega), hw, ih (i + 1) _ k (by omega) (by omega) (by omega) (by rw [List.length_append]; omega), drop_rd C i (by omega), List.flatMap_cons, List.append_assoc]
theorem renc_f (C : List Int) (hC : C.length ≤ 1000000) (k : Nat) (hk : C.length + 2 ≤ k) : carryallref01_Encode.f k C = some (C.flatMap enc) := by
  unfold carryallref01_Encode.f
  have := renc_l0 C hC _ 0 [] k rfl (by omega) (by omega) (by simp)
  rw [List.drop_zero, List.nil_append] at this
  exact this
theorem starts_any (l : List Int) (h0 : 0 < l.length) (hl : l.length ≤ 1000000) : ∃ k0 x, ∀ k, k0 ≤ k → carryallref01_starts.f k l = some x := by
  have L0 : ∀ (d i : Nat) (many : Int), l.length - i = d → 1 ≤ i → ∃ k0 x, ∀ k, k0 ≤ k → carryallref01_starts.l0 k l many (i : Int) = some x := by
    intro d
    induction d with
    | zero =>
      intro i many hd hi
      have hlt : ¬ (i : Int) < (l.length : Int) := by omega
      have : ∃ x, carryallref01_starts.l0 1 l many (i : Int) = some x := by
        rw [carryallref01_starts.l0, if_neg hlt]
        have h1 : (l.length : Int) > 1 → (1 : Int) < (l.length : Int) := fun h => h
        have h2 : 0 < (l.length : Int) := by omega
        rw [if_pos h2]
        by_cases g : (l.length : Int) > 1
        · rw [if_pos g, if_pos (h1 g), if_pos (h1 g), if_pos (h1 g), if_pos (h1 g)]
          clear h1 h2 hlt
          repeat' split
          all_goals exact ⟨_, rfl⟩
        · rw [if_neg g]; exact ⟨_, rfl⟩
      obtain ⟨x, hx⟩ := this
      refine ⟨1, x, fun k hk => ?_⟩
      obtain ⟨k, rfl⟩ : ∃ j, k = j + 1 := ⟨k - 1, by omega⟩
      rw [carryallref01_starts.l0, if_neg hlt] at hx ⊢
      exact hx
    | succ d ih =>
      intro i many hd hi
      have hw : wrap64 ((i : Int) + 1) = ((i + 1 : Nat) : Int) := by rw [wrap_in (by omega) (by omega)]; omega
      obtain ⟨k0, x, hx⟩ := ih (i + 1) many (by omega) (by omega)
      by_cases h1 : rd l (i : Int) < 128
      · refine ⟨1, (false, false), fun k hk => ?_⟩
        obtain ⟨k, rfl⟩ : ∃ j, k = j + 1 := ⟨k - 1, by omega⟩
        rw [carryallref01_starts.l0, if_pos (by omega), if_pos (by omega), if_pos h1]
      · by_cases h2 : rd l (i : Int) > 191
        · refine ⟨1, (false, false), fun k hk => ?_⟩
          obtain ⟨k, rfl⟩ : ∃ j, k = j + 1 := ⟨k - 1, by omega⟩
          rw [carryallref01_starts.l0, if_pos (by omega), if_pos (by omega), if_neg h1, if_pos h2]
        · refine ⟨k0 + 1, x, fun k hk => ?_⟩
          obtain ⟨k, rfl⟩ : ∃ j, k = j + 1 := ⟨k - 1, by omega⟩
          rw [carryallref01_starts.l0, if_pos (by omega), if_pos (by omega), if_neg h1, if_neg h2, hw, hx k (by omega)]
  have J2 : ∀ many : Int, ∃ k0 x, ∀ k, k0 ≤ k → carryallref01_starts.j2 k l many = some x := by
    intro many
    obtain ⟨k0, x, hx⟩ := L0 _ 1 many rfl (Nat.le_refl _)
    by_cases h : (l.length : Int) > many
    · refine ⟨1, (false, false), fun k hk => ?_⟩
      obtain ⟨k, rfl⟩ : ∃ j, k = j + 1 := ⟨k - 1, by omega⟩
      rw [carryallref01_starts.j2, if_pos h]
    · refine ⟨k0 + 1, x, fun k hk => ?_⟩
      obtain ⟨k, rfl⟩ : ∃ j, k = j + 1 := ⟨k - 1, by omega⟩
      rw [carryallref01_starts.j2, if_neg h]
      exact hx k (by omega)
  have J1 : ∀ (many : Int) (b : Bool), ∃ k0 x, ∀ k, k0 ≤ k → carryallref01_starts.j1 k l many b = some x := by
    intro many b
    obtain ⟨k3, x3, h3⟩ := J2 3
    obtain ⟨k4, x4, h4⟩ := J2 4
    obtain ⟨km, xm, hm⟩ := J2 many
    cases b
    · by_cases g1 : rd l 0 ≥ 240
      · by_cases g2 : rd l 0 ≤ 244
        · refine ⟨k4 + 1, x4, fun k hk => ?_⟩
          obtain ⟨k, rfl⟩ : ∃ j, k = j + 1 := ⟨k - 1, by omega⟩
          rw [carryallref01_starts.j1, if_neg Bool.false_ne_true, if_pos (by omega), if_pos g1, if_pos g2]
          exact h4 k (by omega)
        · refine ⟨km + 1, xm, fun k hk => ?_⟩
          obtain ⟨k, rfl⟩ : ∃ j, k = j + 1 := ⟨k - 1, by omega⟩
          rw [carryallref01_starts.j1, if_neg Bool.false_ne_true, if_pos (by omega), if_pos g1, if_neg g2]
          exact hm k (by omega)
      · refine ⟨km + 1, xm, fun k hk => ?_⟩
        obtain ⟨k, rfl⟩ : ∃ j, k = j + 1 := ⟨k - 1, by omega⟩
        rw [carryallref01_starts.j1, if_neg Bool.false_ne_true, if_pos (by omega), if_neg g1]
        exact hm k (by omega)
    · refine ⟨k3 + 1, x3, fun k hk => ?_⟩
      obtain ⟨k, rfl⟩ : ∃ j, k = j + 1 := ⟨k - 1, by omega⟩
      rw [carryallref01_starts.j1, if_pos rfl]
      exact h3 k (by omega)
  have J0 : ∀ (many : Int) (b : Bool), ∃ k0 x, ∀ k, k0 ≤ k → carryallref01_starts.j0 k l many b = some x := by
    intro many b
    obtain ⟨k2, x2, h2⟩ := J2 2
    cases b
    · obtain ⟨ka, xa, ha⟩ := J1 many (decide (rd l 0 ≤ 239))
      obtain ⟨kb, xb, hb⟩ := J1 many false
      by_cases g1 : rd l 0 ≥ 224
      · refine ⟨ka + 1, xa, fun k hk => ?_⟩
        obtain ⟨k, rfl⟩ : ∃ j, k = j + 1 := ⟨k - 1, by omega⟩
        rw [carryallref01_starts.j0, if_neg Bool.false_ne_true, if_pos (by omega), if_pos g1]
        exact ha k (by omega)
      · refine ⟨kb + 1, xb, fun k hk => ?_⟩
        obtain ⟨k, rfl⟩ : ∃ j, k = j + 1 := ⟨k - 1, by omega⟩
        rw [carryallref01_starts.j0, if_neg Bool.false_ne_true, if_pos (by omega), if_neg g1]
        exact hb k (by omega)
    · refine ⟨k2 + 1, x2, fun k hk => ?_⟩
      obtain ⟨k, rfl⟩ : ∃ j, k = j + 1 := ⟨k - 1, by omega⟩
      rw [carryallref01_starts.j0, if_pos rfl]
      exact h2 k (by omega)
  unfold carryallref01_starts.f
  by_cases g1 : rd l 0 < 128
  · obtain ⟨k0, x, h⟩ := J2 1
    exact ⟨k0, x, fun k hk => by rw [if_pos (by omega), if_pos g1]; exact h k hk⟩
  · by_cases g2 : rd l 0 ≥ 194
    · obtain ⟨k0, x, h⟩ := J0 0 (decide (rd l 0 ≤ 223))
      exact ⟨k0, x, fun k hk => by rw [if_pos (by omega), if_neg g1, if_pos g2]; exact h k hk⟩
    · obtain ⟨k0, x, h⟩ := J0 0 false
      exact ⟨k0, x, fun k hk => by rw [if_pos (by omega), if_neg g1, if_neg g2]; exact h k hk⟩
theorem number_any (l : List Int) (h0 : 0 < l.length) (hl : l.length ≤ 1000000) : ∃ k0 x, ∀ k, k0 ≤ k → carryallref01_number.f k l = some x := by
  have L0 : ∀ (d i : Nat) (v : Int), l.length - i = d → ∃ k0 x, ∀ k, k0 ≤ k → carryallref01_number.l0 k l v (i : Int) = some x := by
    intro d
    induction d with
    | zero =>
      intro i v hd
      refine ⟨1, v, fun k hk => ?_⟩
      obtain ⟨k, rfl⟩ : ∃ j, k = j + 1 := ⟨k - 1, by omega⟩
      rw [carryallref01_number.l0, if_neg (by omega)]
    | succ d ih =>
      intro i v hd
      have hw : wrap64 ((i : Int) + 1) = ((i + 1 : Nat) : Int) := by rw [wrap_in (by omega) (by omega)]; omega
      obtain ⟨k0, x, hx⟩ := ih (i + 1) (wrap32 ((wrap32 ((wrap32 (v * 64)) + (wrap32 (rd l (i : Int))))) - 128)) (by omega)
      refine ⟨k0 + 1, x, fun k hk => ?_⟩
      obtain ⟨k, rfl⟩ : ∃ j, k = j + 1 := ⟨k - 1, by omega⟩
      rw [carryallref01_number.l0, if_pos (by omega), if_pos (by omega), hw]
      exact hx k (by omega)
  have J0 : ∀ v : Int, ∃ k0 x, ∀ k, k0 ≤ k → carryallref01_number.j0 k l v = some x := by
    intro v
    obtain ⟨k0, x, hx⟩ := L0 _ 1 v rfl
    refine ⟨k0 + 1, x, fun k hk => ?_⟩
    obtain ⟨k, rfl⟩ : ∃ j, k = j + 1 := ⟨k - 1, by omega⟩
    rw [carryallref01_number.j0]
    exact hx k (by omega)
  have hz : 0 < (l.length : Int) := by omega
  unfold carryallref01_number.f
  by_cases g2 : (l.length : Int) = 2
  · obtain ⟨k0, x, h⟩ := J0 (wrap32 ((wrap32 (rd l 0)) - 192))
    exact ⟨k0, x, fun k hk => by rw [if_pos hz, if_pos g2]; exact h k hk⟩
  · by_cases g3 : (l.length : Int) = 3
    · obtain ⟨k0, x, h⟩ := J0 (wrap32 ((wrap32 (rd l 0)) - 224))
      exact ⟨k0, x, fun k hk => by rw [if_pos hz, if_neg g2, if_pos g3]; exact h k hk⟩
    · by_cases g4 : (l.length : Int) = 4
      · obtain ⟨k0, x, h⟩ := J0 (wrap32 ((wrap32 (rd l 0)) - 240))
        exact ⟨k0, x, fun k hk => by rw [if_pos hz, if_neg g2, if_neg g3, if_pos g4]; exact h k hk⟩
      · obtain ⟨k0, x, h⟩ := J0 (wrap32 (rd l 0))
        exact ⟨k0, x, fun k hk => by rw [if_pos hz, if_neg g2, if_neg g3, if_neg g4]; exact h k hk⟩
theorem rdec_l1 (l : List Int) (h0 : 0 < l.length) (hl : l.length ≤ 1000000) (hrec : ∀ m, 1 ≤ m → m ≤ l.length → ∀ acc : List Int, acc.length + (l.length - m) ≤ 1000000 → ∃ k0 x, ∀ k, k0 ≤ k → carryallref01_Decode.l0 k (l.drop m) acc = some (acc ++ x) ∧ x.length ≤ l.length - m) (acc : List Int) (ha : acc.length + l.length ≤ 1000000) :
    ∀ (d n : Nat) (whole : Bool), l.length - n = d → n ≤ l.length → (whole = true → 1 ≤ n) → ∃ k0 x, ∀ k, k0 ≤ k → carryallref01_Decode.l1 k l acc (n : Int) whole = some (acc ++ x) ∧ x.length ≤ l.length := by
  have out : ∀ (n : Nat) (whole : Bool), n ≤ l.length → (whole = true → 1 ≤ n) → ∃ k0 x, ∀ k, k0 ≤ k → carryallref01_Decode.j2 k l acc (n : Int) whole false = some (acc ++ x) ∧ x.length ≤ l.length := by
    intro n whole hn hw
    cases whole
    · have hm : mx (n : Int) 1 = ((max n 1 : Nat) : Int) := by unfold mx; split <;> omega
      obtain ⟨k0, x, hx⟩ := hrec (max n 1) (by omega) (by omega) (acc ++ [65533]) (by rw [List.length_append, List.length_singleton]; omega)
      refine ⟨k0 + 1, 65533 :: x, fun k hk => ?_⟩
      obtain ⟨k, rfl⟩ : ∃ j, k = j + 1 := ⟨k - 1, by omega⟩
      obtain ⟨e1, e2⟩ := hx k (by omega)
      rw [carryallref01_Decode.j2, if_neg Bool.false_ne_true, if_neg Bool.false_ne_true, if_pos (by omega), hm, if_pos (by omega), if_pos (by omega), Int.toNat_natCast, e1, List.append_assoc]
      exact ⟨rfl, by simp; omega⟩
    · have h1 := hw rfl
      obtain ⟨kn, v, hv⟩ := number_any (l.take n) (by rw [List.length_take]; omega) (by rw [List.length_take]; omega)
      obtain ⟨k0, x, hx⟩ := hrec n h1 hn (acc ++ [v]) (by rw [List.length_append, List.length_singleton]; omega)
      refine ⟨k0 + kn + 1, v :: x, fun k hk => ?_⟩
      obtain ⟨k, rfl⟩ : ∃ j, k = j + 1 := ⟨k - 1, by omega⟩
      obtain ⟨e1, e2⟩ := hx k (by omega)
      rw [carryallref01_Decode.j2, if_neg Bool.false_ne_true, if_pos rfl, if_pos (by omega), if_pos (by omega), Int.toNat_natCast, hv k (by omega), Option.bind_some, if_pos (by omega), e1, List.append_assoc]
      exact ⟨rfl, by simp; omega⟩
  intro d
  induction d with
  | zero =>
    intro n whole hd hn hw
    obtain ⟨k0, x, hx⟩ := out n whole hn hw
    refine ⟨k0 + 1, x, fun k hk => ?_⟩
    obtain ⟨k, rfl⟩ : ∃ j, k = j + 1 := ⟨k - 1, by omega⟩
    rw [carryallref01_Decode.l1, if_neg (by omega)]
    exact hx k (by omega)
  | succ d ih =>
    intro n whole hd hn hw
    obtain ⟨k0, x, hx⟩ := out n whole hn hw
    cases whole
    · have hwr : wrap64 ((n : Int) + 1) = ((n + 1 : Nat) : Int) := by rw [wrap_in (by omega) (by omega)]; omega
      obtain ⟨ks, ⟨b1, b2⟩, hs⟩ := starts_any (l.take (n + 1)) (by rw [List.length_take]; omega) (by rw [List.length_take]; omega)
      cases b1
      · have hm : mx (n : Int) 1 = ((max n 1 : Nat) : Int) := by unfold mx; split <;> omega
        obtain ⟨k1, y, hy⟩ := hrec (max n 1) (by omega) (by omega) (acc ++ [65533]) (by rw [List.length_append, List.length_singleton]; omega)
        refine ⟨k1 + ks + 2, 65533 :: y, fun k hk => ?_⟩
        obtain ⟨k, rfl⟩ : ∃ j, k = j + 2 := ⟨k - 2, by omega⟩
        obtain ⟨e1, e2⟩ := hy k (by omega)
        rw [carryallref01_Decode.l1, if_pos (by omega), carryallref01_Decode.j2, if_pos (by decide), hwr, if_pos (by omega), if_pos (by omega), Int.toNat_natCast, hs k (by omega), Option.bind_some, if_neg Bool.false_ne_true, if_neg Bool.false_ne_true, if_pos (by omega), hm, if_pos (by omega), if_pos (by omega), Int.toNat_natCast, e1, List.append_assoc]
        exact ⟨rfl, by simp; omega⟩
      · obtain ⟨k1, y, hy⟩ := ih (n + 1) b2 (by omega) (by omega) (fun _ => by omega)
        refine ⟨k1 + ks + 2, y, fun k hk => ?_⟩
        obtain ⟨k, rfl⟩ : ∃ j, k = j + 2 := ⟨k - 2, by omega⟩
        rw [carryallref01_Decode.l1, if_pos (by omega), carryallref01_Decode.j2, if_pos (by decide), hwr, if_pos (by omega), if_pos (by omega), Int.toNat_natCast, hs k (by omega), Option.bind_some, if_pos rfl]
        exact hy k (by omega)
    · refine ⟨k0 + 1, x, fun k hk => ?_⟩
      obtain ⟨k, rfl⟩ : ∃ j, k = j + 1 := ⟨k - 1, by omega⟩
      rw [carryallref01_Decode.l1, if_pos (by omega)]
      exact hx k (by omega)
theorem rdec_any : ∀ (d : Nat) (l : List Int), l.length = d → ∀ acc : List Int, acc.length + l.length ≤ 1000000 → ∃ k0 x, ∀ k, k0 ≤ k → carryallref01_Decode.l0 k l acc = some (acc ++ x) ∧ x.length ≤ l.length := by
  intro d
  induction d using Nat.strongRecOn with
  | ind d ih =>
    intro l hd acc ha
    by_cases h0 : 0 < l.length
    · obtain ⟨k0, x, hx⟩ := rdec_l1 l h0 (by omega) (fun m h1 h2 acc' ha' => by
        obtain ⟨k0, x, hx⟩ := ih (l.length - m) (by omega) (l.drop m) (by rw [List.length_drop]) acc' (by rw [List.length_drop]; omega)
        exact ⟨k0, x, fun k hk => by have := hx k hk; rw [List.length_drop] at this; exact this⟩) acc ha _ 0 false rfl (by omega) (fun h => by cases h)
      refine ⟨k0 + 1, x, fun k hk => ?_⟩
      obtain ⟨k, rfl⟩ : ∃ j, k = j + 1 := ⟨k - 1, by omega⟩
      rw [carryallref01_Decode.l0, if_pos (by omega)]
      exact hx k (by omega)
    · obtain rfl : l = [] := List.length_eq_zero_iff.1 (by omega)
      refine ⟨1, [], fun k hk => ?_⟩
      obtain ⟨k, rfl⟩ : ∃ j, k = j + 1 := ⟨k - 1, by omega⟩
      rw [carryallref01_Decode.l0, if_neg (by simp), List.append_nil]
      exact ⟨rfl, by simp⟩
theorem valid_any (l : List Int) (hb : bytes l) (hl : l.length ≤ 200000) : ∃ k0 b, (∀ k, k0 ≤ k → carryallref01_Valid.f k l = some b) ∧ (b = true → ∃ C : List Int, (∀ r ∈ C, isChar r) ∧ l = C.flatMap enc) := by
  obtain ⟨k0, L, hL⟩ := rdec_any _ l rfl [] (by simp; omega)
  have hLl := (hL k0 (Nat.le_refl _)).2
  refine ⟨k0 + L.length + 2, (strOfNums (L.flatMap enc)).toList == (strOfNums l).toList, fun k hk => ?_, fun hb2 => ?_⟩
  · unfold carryallref01_Valid.f carryallref01_Decode.f
    rw [(hL k (by omega)).1, List.nil_append, Option.bind_some, renc_f L (by omega) k (by omega), Option.bind_some]
  · refine ⟨L.map fixC, fun r hr => ?_, ?_⟩
    · obtain ⟨x, _, rfl⟩ := List.mem_map.1 hr
      exact fix_char x
    · have h1 := toList_iff.1 (beq_iff_eq.1 hb2)
      have h2 := congrArg bytesOf h1
      rw [bytes_str _ (flat_bytes L), bytes_str _ hb] at h2
      rw [← h2, List.flatMap_map]
      exact (congrArg (fun f => L.flatMap f) (funext fun r => (enc_fix r).symm) : L.flatMap enc = L.flatMap fun r => enc (fixC r))
def toU (l : List Int) : List UInt8 := l.map fun n => UInt8.ofNat n.toNat
/-- May a byte follow these? -/
def next (b : Int) (n : Nat) (c : Int) : Prop := if n = 1 then lowv b ≤ c ∧ c ≤ highv b else 128 ≤ c ∧ c ≤ 191
instance (b : Int) (n : Nat) (c : Int) : Decidable (next b n c) := by unfold next; split <;> infer_instance
/-- A lead byte and what follows it so far. -/
inductive Good : List Int → Prop
  | one (b : Int) : Good [b]
  | two (b c : Int) : next b 1 c → Good [b, c]
  | three (b c d : Int) : next b 1 c → next b 2 d → Good [b, c, d]
  | four (b c d e : Int) : next b 1 c → next b 2 d → next b 3 e → Good [b, c, d, e]
def val : List Int → Int
  | [b] => b
  | [b, c] => (b - 192) * 64 + (c - 128)
  | [b, c, d] => ((b - 224) * 64 + (c - 128)) * 64 + (d - 128)
  | [b, c, d, e] => (((b - 240) * 64 + (c - 128)) * 64 + (d - 128)) * 64 + (e - 128)
  | _ => 0
/-- One step: the character, how many bytes, and whether they are one's. -/
inductive Step : List Int → Int → Nat → Bool → Prop
  | asc (b : Int) (t : List Int) : 0 ≤ b → b < 128 → Step (b :: t) b 1 true
  | bad (b : Int) (t : List Int) : 128 ≤ b → manyv b = 0 → Step (b :: t) 65533 1 false
  | full (b : Int) (p t : List Int) : 128 ≤ b → Good (b :: p) → manyv b = ((b :: p).length : Int) → 2 ≤ (b :: p).length → Step (b :: p ++ t) (val (b :: p)) (b :: p).length true
  | end_ (b : Int) (p : List Int) : 128 ≤ b → Good (b :: p) → ((b :: p).length : Int) < manyv b → Step (b :: p) 65533 (b :: p).length false
  | cut (b : Int) (p : List Int) (c : Int) (t : List Int) : 128 ≤ b → Good (b :: p) → ((b :: p).length : Int) < manyv b → ¬ next b (b :: p).length c → Step (b :: p ++ c :: t) 65533 (b :: p).length false
theorem many_cases (b : Int) : manyv b = 0 ∨ manyv b = 2 ∨ manyv b = 3 ∨ manyv b = 4 := by
  unfold manyv
  split
  · exact .inr (.inl rfl)
  · split
    · exact .inr (.inr (.inl rfl))
    · split
      · exact .inr (.inr (.inr rfl))
      · exact .inl rfl
theorem step_any (l : List Int) (hb : bytes l) (h : l ≠ []) : ∃ r m ok, Step l r m ok := by
  match l, h with
  | b :: t, _ =>
    have hx := hb b List.mem_cons_self
    by_cases h1 : b < 128
    · exact ⟨_, _, _, .asc b t hx.1 h1⟩
    · have h1' : 128 ≤ b := by omega
      rcases many_cases b with hm | hm | hm | hm
      · exact ⟨_, _, _, .bad b t h1' hm⟩
      · match t with
        | [] => exact ⟨_, _, _, .end_ b [] h1' (.one b) (by simp [hm])⟩
        | c :: t =>
          by_cases h2 : next b 1 c
          · exact ⟨_, _, _, .full b [c] t h1' (.two b c h2) (by simp [hm]) (by simp)⟩
          · exact ⟨_, _, _, .cut b [] c t h1' (.one b) (by simp [hm]) h2⟩
      · match t with
        | [] => exact ⟨_, _, _, .end_ b [] h1' (.one b) (by simp [hm])⟩
        | c :: t =>
          by_cases h2 : next b 1 c
          · match t with
            | [] => exact ⟨_, _, _, .end_ b [c] h1' (.two b c h2) (by simp [hm])⟩
            | d :: t =>
              by_cases h3 : next b 2 d
              · exact ⟨_, _, _, .full b [c, d] t h1' (.three b c d h2 h3) (by simp [hm]) (by simp)⟩
              · exact ⟨_, _, _, .cut b [c] d t h1' (.two b c h2) (by simp [hm]) h3⟩
          · exact ⟨_, _, _, .cut b [] c t h1' (.one b) (by simp [hm]) h2⟩
      · match t with
        | [] => exact ⟨_, _, _, .end_ b [] h1' (.one b) (by simp [hm])⟩
        | c :: t =>
          by_cases h2 : next b 1 c
          · match t with
            | [] => exact ⟨_, _, _, .end_ b [c] h1' (.two b c h2) (by simp [hm])⟩
            | d :: t =>
              by_cases h3 : next b 2 d
              · match t with
                | [] => exact ⟨_, _, _, .end_ b [c, d] h1' (.three b c d h2 h3) (by simp [hm])⟩
                | e :: t =>
                  by_cases h4 : next b 3 e
                  · exact ⟨_, _, _, .full b [c, d, e] t h1' (.four b c d e h2 h3 h4) (by simp [hm]) (by simp)⟩
                  · exact ⟨_, _, _, .cut b [c, d] e t h1' (.three b c d h2 h3) (by simp [hm]) h4⟩
              · exact ⟨_, _, _, .cut b [c] d t h1' (.two b c h2) (by simp [hm]) h3⟩
          · exact ⟨_, _, _, .cut b [] c t h1' (.one b) (by simp [hm]) h2⟩
theorem next_cont {b : Int} {n : Nat} {c : Int} (h : next b n c) (hb : manyv b ≠ 0) : 128 ≤ c ∧ c ≤ 191 := by
  unfold next at h
  split at h
  · unfold lowv highv at h
    unfold manyv at hb
    repeat' split at h
    all_goals (repeat' split at hb)
    all_goals omega
  · exact h
theorem val_two {b c : Int} (hm : manyv b = 2) (h2 : next b 1 c) : isChar (val [b, c]) ∧ enc (val [b, c]) = [b, c] := by
  have hc := next_cont h2 (by omega)
  have hb : 194 ≤ b ∧ b ≤ 223 := by unfold manyv at hm; repeat' split at hm <;> omega
  have e : val [b, c] = (b - 192) * 64 + (c - 128) := rfl
  rw [e]
  refine ⟨⟨by omega, by omega, by omega⟩, ?_⟩
  rw [show enc ((b - 192) * 64 + (c - 128)) = _ from Lib.encodeRuneZ_two (by omega) (by omega)]
  congr 1
  · omega
  · congr 1
    omega
theorem lo3 {b c : Int} (hb : 224 ≤ b ∧ b ≤ 239) (h2 : next b 1 c) : (b = 224 → 160 ≤ c) ∧ (b = 237 → c ≤ 159) := by
  unfold next at h2
  rw [if_pos rfl] at h2
  unfold lowv highv at h2
  constructor
  · intro h; subst h; simpa using h2.1
  · intro h; subst h; simpa using h2.2
theorem lo4 {b c : Int} (hb : 240 ≤ b ∧ b ≤ 244) (h2 : next b 1 c) : (b = 240 → 144 ≤ c) ∧ (b = 244 → c ≤ 143) := by
  unfold next at h2
  rw [if_pos rfl] at h2
  unfold lowv highv at h2
  constructor
  · intro h; subst h; simpa using h2.1
  · intro h; subst h; simpa using h2.2
theorem val_three {b c d : Int} (hm : manyv b = 3) (h2 : next b 1 c) (h3 : next b 2 d) : isChar (val [b, c, d]) ∧ enc (val [b, c, d]) = [b, c, d] := by
  have hc := next_cont h2 (by omega)
  have hd := next_cont h3 (by omega)
  have hb : 224 ≤ b ∧ b ≤ 239 := by unfold manyv at hm; repeat' split at hm <;> omega
  obtain ⟨q1, q2⟩ := lo3 hb h2
  have e : val [b, c, d] = ((b - 224) * 64 + (c - 128)) * 64 + (d - 128) := rfl
  rw [e]
  refine ⟨⟨by omega, by omega, by omega⟩, ?_⟩
  rw [show enc (((b - 224) * 64 + (c - 128)) * 64 + (d - 128)) = _ from Lib.encodeRuneZ_three (by omega)]
  congr 1
  · omega
  · congr 1
    · omega
    · congr 1
      omega
theorem val_four {b c d f : Int} (hm : manyv b = 4) (h2 : next b 1 c) (h3 : next b 2 d) (h4 : next b 3 f) : isChar (val [b, c, d, f]) ∧ enc (val [b, c, d, f]) = [b, c, d, f] := by
  have hc := next_cont h2 (by omega)
  have hd := next_cont h3 (by omega)
  have hf := next_cont h4 (by omega)
  have hb : 240 ≤ b ∧ b ≤ 244 := by unfold manyv at hm; repeat' split at hm <;> omega
  obtain ⟨q1, q2⟩ := lo4 hb h2
  have e : val [b, c, d, f] = (((b - 240) * 64 + (c - 128)) * 64 + (d - 128)) * 64 + (f - 128) := rfl
  rw [e]
  refine ⟨⟨by omega, by omega, by omega⟩, ?_⟩
  rw [show enc ((((b - 240) * 64 + (c - 128)) * 64 + (d - 128)) * 64 + (f - 128)) = _ from Lib.encodeRuneZ_four (by omega) (by omega)]
  congr 1
  · omega
  · congr 1
    · omega
    · congr 1
      · omega
      · congr 1
        omega
theorem val_full {b : Int} {p : List Int} (hg : Good (b :: p)) (hm : manyv b = ((b :: p).length : Int)) (h2 : 2 ≤ (b :: p).length) : isChar (val (b :: p)) ∧ enc (val (b :: p)) = b :: p := by
  cases hg with
  | one => simp at h2
  | two _ c hc => exact val_two hm hc
  | three _ c d hc hd => exact val_three hm hc hd
  | four _ c d f hc hd hf => exact val_four hm hc hd hf
theorem step_len {l : List Int} {r : Int} {m : Nat} {ok : Bool} (h : Step l r m ok) : 1 ≤ m ∧ m ≤ l.length ∧ m ≤ 4 := by
  have hg : ∀ p : List Int, Good p → p.length ≤ 4 := fun p h => by cases h <;> simp
  cases h with
  | asc => simp
  | bad => simp
  | full b p t _ g _ _ => have := hg _ g; simp at this ⊢; omega
  | end_ b p _ g _ => have := hg _ g; simp at this ⊢; omega
  | cut b p c t _ g _ _ => have := hg _ g; simp at this ⊢; omega
/-- A step that is fine spells its character. -/
theorem step_ok {l : List Int} {r : Int} {m : Nat} (h : Step l r m true) : isChar r ∧ enc r = l.take m ∧ (enc r).length = m := by
  cases h with
  | asc _ t h0 h1 => exact ⟨⟨h0, by omega, by omega⟩, (Lib.encodeRuneZ_one h0 (by omega) : enc r = [r]), by rw [show enc r = [r] from Lib.encodeRuneZ_one h0 (by omega)]; rfl⟩
  | full b p t _ g hm h2 =>
    obtain ⟨a, e⟩ := val_full g hm h2
    refine ⟨a, ?_, by rw [e]⟩
    rw [e, List.take_left' rfl]
theorem step_bad {l : List Int} {r : Int} {m : Nat} (h : Step l r m false) : r = 65533 ∧ l.take m ≠ enc 65533 := by
  have e : enc 65533 = [239, 191, 189] := by decide
  rw [e]
  have m239 : manyv 239 = 3 := by decide
  have key : ∀ b p, Good (b :: p) → ((b :: p).length : Int) < manyv b → b :: p ≠ [239, 191, 189] := by
    intro b p g hl h
    injection h with h1 h2
    subst h1 h2
    rw [m239] at hl
    simp at hl
  cases h with
  | bad b t h0 hm =>
    refine ⟨rfl, fun h => ?_⟩
    simp at h
  | end_ b p _ g hl => exact ⟨rfl, by rw [List.take_length]; exact key b p g hl⟩
  | cut b p c t _ g hl _ => exact ⟨rfl, by rw [List.take_left' rfl]; exact key b p g hl⟩
theorem many_toNat (b : Int) : manyv b = ((manyv b).toNat : Int) ∧ (manyv b).toNat ≤ 4 := by rcases many_cases b with h | h | h | h <;> rw [h] <;> decide
theorem next_one {b c : Int} : next b 1 c ↔ lowv b ≤ c ∧ c ≤ highv b := by unfold next; rw [if_pos rfl]
theorem next_two {b c : Int} : next b 2 c ↔ 128 ≤ c ∧ c ≤ 191 := by unfold next; rw [if_neg (by decide)]
theorem next_three {b c : Int} : next b 3 c ↔ 128 ≤ c ∧ c ≤ 191 := by unfold next; rw [if_neg (by decide)]
def many1 (b : Int) : Int := if b < 128 then 1 else manyv b
/-- The branches ahead of the loop come to one. -/
theorem st_j2 {b : Int} (hb : byte b) (t : List Int) (k : Nat) (hk : 10 ≤ k) : ∃ k', k - 3 ≤ k' ∧ carryallref01_starts.f k (b :: t) = carryallref01_starts.j2 k' (b :: t) (many1 b) := by
  obtain ⟨j, rfl⟩ : ∃ j, k = j + 3 := ⟨k - 3, by omega⟩
  have h0 : 0 < ((b :: t).length : Int) := by rw [List.length_cons]; omega
  obtain ⟨b0, b1⟩ := hb
  unfold carryallref01_starts.f
  rw [if_pos h0, rd0]
  by_cases h1 : b < 128
  · rw [if_pos h1]
    exact ⟨j + 3, by omega, by unfold many1; rw [if_pos h1]⟩
  · rw [if_neg h1]
    have hm1 : many1 b = manyv b := by unfold many1; rw [if_neg h1]
    rw [hm1]
    by_cases h2 : b ≥ 194
    · rw [if_pos h2]
      by_cases h3 : b ≤ 223
      · rw [decide_eq_true h3, carryallref01_starts.j0, if_pos rfl]
        exact ⟨j + 2, by omega, by unfold manyv; rw [if_pos (by omega)]⟩
      · rw [decide_eq_false h3, carryallref01_starts.j0, if_neg Bool.false_ne_true, if_pos h0, rd0, if_pos (by omega)]
        by_cases h4 : b ≤ 239
        · rw [decide_eq_true h4, carryallref01_starts.j1, if_pos rfl]
          exact ⟨j + 1, by omega, by unfold manyv; rw [if_neg (by omega), if_pos (by omega)]⟩
        · rw [decide_eq_false h4, carryallref01_starts.j1, if_neg Bool.false_ne_true, if_pos h0, rd0, if_pos (by omega)]
          by_cases h5 : b ≤ 244
          · rw [if_pos h5]
            exact ⟨j + 1, by omega, by unfold manyv; rw [if_neg (by omega), if_neg (by omega), if_pos (by omega)]⟩
          · rw [if_neg h5]
            exact ⟨j + 1, by omega, by unfold manyv; rw [if_neg (by omega), if_neg (by omega), if_neg (by omega)]⟩
    · rw [if_neg h2, carryallref01_starts.j0, if_neg Bool.false_ne_true, if_pos h0, rd0, if_neg (by omega), carryallref01_starts.j1, if_neg Bool.false_ne_true, if_pos h0, rd0, if_neg (by omega)]
      exact ⟨j + 1, by omega, by unfold manyv; rw [if_neg (by omega), if_neg (by omega), if_neg (by omega)]⟩
theorem w2 : wrap64 ((1 : Int) + 1) = 2 := by decide +kernel
theorem w3 : wrap64 ((2 : Int) + 1) = 3 := by decide +kernel
theorem w4 : wrap64 ((3 : Int) + 1) = 4 := by decide +kernel
/-- The loop's end: the two first bytes. -/
theorem sl_end {b c : Int} {t : List Int} (many : Int) (i : Int) (k : Nat) (hi : ¬ i < ((b :: c :: t).length : Int)) (hc : 128 ≤ c ∧ c ≤ 191) :
    carryallref01_starts.l0 (k + 1) (b :: c :: t) many i = if lowv b ≤ c ∧ c ≤ highv b ∨ ¬ (194 ≤ b ∧ b ≤ 244) then some (true, ((b :: c :: t).length : Int) == many) else some (false, false) := by
  have h1 : ((b :: c :: t).length : Int) > 1 := by rw [List.length_cons, List.length_cons]; omega
  have h0 : 0 < ((b :: c :: t).length : Int) := by omega
  have h1' : (1 : Int) < ((b :: c :: t).length : Int) := h1
  have r0 : rd (b :: c :: t) 0 = b := rfl
  have r1 : rd (b :: c :: t) 1 = c := rfl
  generalize hL : (b :: c :: t) = L at *
  rw [carryallref01_starts.l0, if_neg hi, if_pos h1, if_pos h0]
  simp only [r0, r1, if_pos h1']
  unfold lowv highv
  by_cases e1 : b = 224
  · subst e1
    simp only [if_true, show ¬ ((224 : Int) = 237) by omega, show ¬ ((224 : Int) = 240) by omega, show ¬ ((224 : Int) = 244) by omega, if_false, show (194 : Int) ≤ 224 by omega, show (224 : Int) ≤ 244 by omega, and_self, not_true, or_false]
    by_cases hh : c < 160
    · rw [if_pos hh, if_neg (by omega)]
    · rw [if_neg hh, if_pos (by omega)]
  · by_cases e2 : b = 237
    · subst e2
      simp only [if_true, show ¬ ((237 : Int) = 224) by omega, show ¬ ((237 : Int) = 240) by omega, show ¬ ((237 : Int) = 244) by omega, if_false, show (194 : Int) ≤ 237 by omega, show (237 : Int) ≤ 244 by omega, and_self, not_true, or_false]
      by_cases hh : c > 159
      · rw [if_pos hh, if_neg (by omega)]
      · rw [if_neg hh, if_pos (by omega)]
    · by_cases e3 : b = 240
      · subst e3
        simp only [if_true, show ¬ ((240 : Int) = 224) by omega, show ¬ ((240 : Int) = 237) by omega, show ¬ ((240 : Int) = 244) by omega, if_false, show (194 : Int) ≤ 240 by omega, show (240 : Int) ≤ 244 by omega, and_self, not_true, or_false]
        by_cases hh : c < 144
        · rw [if_pos hh, if_neg (by omega)]
        · rw [if_neg hh, if_pos (by omega)]
      · by_cases e4 : b = 244
        · subst e4
          simp only [if_true, show ¬ ((244 : Int) = 224) by omega, show ¬ ((244 : Int) = 237) by omega, show ¬ ((244 : Int) = 240) by omega, if_false, show (194 : Int) ≤ 244 by omega, show (244 : Int) ≤ 244 by omega, and_self, not_true, or_false]
          by_cases hh : c > 143
          · rw [if_pos hh, if_neg (by omega)]
          · rw [if_neg hh, if_pos (by omega)]
        · simp only [if_neg e1, if_neg e2, if_neg e3, if_neg e4]
          rw [if_pos]
          by_cases h : 194 ≤ b ∧ b ≤ 244
          · left
            rw [if_pos h, if_pos h]
            exact hc
          · exact Or.inr h
theorem sl_no {l : List Int} {many : Int} {i : Nat} {c : Int} (k : Nat) (hc : l[i]? = some c) (h : ¬ (128 ≤ c ∧ c ≤ 191)) : carryallref01_starts.l0 (k + 1) l many (i : Int) = some (false, false) := by
  have hlt := (List.getElem?_eq_some_iff.1 hc).1
  rw [carryallref01_starts.l0, if_pos (by omega), if_pos (by omega), rd_at hc]
  split
  · rfl
  · rw [if_pos (by omega)]
theorem sl_yes {l : List Int} {many : Int} {i : Nat} {c : Int} (k : Nat) (hl : l.length ≤ 10) (hc : l[i]? = some c) (h : 128 ≤ c ∧ c ≤ 191) : carryallref01_starts.l0 (k + 1) l many (i : Int) = carryallref01_starts.l0 k l many ((i + 1 : Nat) : Int) := by
  have hlt := (List.getElem?_eq_some_iff.1 hc).1
  have hw : wrap64 ((i : Int) + 1) = ((i + 1 : Nat) : Int) := by rw [wrap_in (by omega) (by omega)]; omega
  rw [carryallref01_starts.l0, if_pos (by omega), if_pos (by omega), rd_at hc, if_neg (by omega), if_neg (by omega), hw]
theorem lead_rng {b : Int} (h : 2 ≤ manyv b) : 194 ≤ b ∧ b ≤ 244 := by unfold manyv at h; repeat' split at h <;> omega
theorem many1_of {b : Int} (h : 2 ≤ manyv b) : many1 b = manyv b := by have := lead_rng h; unfold many1; rw [if_neg (by omega)]
/-- A fine beginning. -/
theorem st_good {b : Int} {p : List Int} (hb : byte b) (h0 : 128 ≤ b) (g : Good (b :: p)) (hm : ((b :: p).length : Int) ≤ manyv b) (h2 : 2 ≤ manyv b) (k : Nat) (hk : 10 ≤ k) : carryallref01_starts.f k (b :: p) = some (true, ((b :: p).length : Int) == manyv b) := by
  obtain ⟨k', hk', e⟩ := st_j2 hb p k hk
  obtain ⟨j, rfl⟩ : ∃ j, k' = j + 6 := ⟨k' - 6, by omega⟩
  have hr := lead_rng h2
  rw [e, many1_of h2, carryallref01_starts.j2, if_neg (by omega)]
  have hne : manyv b ≠ 0 := by omega
  cases g with
  | one =>
    rw [carryallref01_starts.l0, if_neg (by simp), if_neg (by simp)]
  | two _ c hc =>
    have c1 := next_cont hc hne
    have c2 := next_one.1 hc
    rw [show (1 : Int) = ((1 : Nat) : Int) from rfl, sl_yes (i := 1) (c := c) _ (by simp) rfl c1, sl_end _ _ _ (by simp) c1, if_pos (Or.inl c2)]
  | three _ c d hc hd =>
    have c1 := next_cont hc hne
    have c2 := next_one.1 hc
    have d1 := next_cont hd hne
    rw [show (1 : Int) = ((1 : Nat) : Int) from rfl, sl_yes (i := 1) (c := c) _ (by simp) rfl c1, sl_yes (i := 2) (c := d) _ (by simp) rfl d1, sl_end _ _ _ (by simp) c1, if_pos (Or.inl c2)]
  | four _ c d f hc hd hf =>
    have c1 := next_cont hc hne
    have c2 := next_one.1 hc
    have d1 := next_cont hd hne
    have f1 := next_cont hf hne
    rw [show (1 : Int) = ((1 : Nat) : Int) from rfl, sl_yes (i := 1) (c := c) _ (by simp) rfl c1, sl_yes (i := 2) (c := d) _ (by simp) rfl d1, sl_yes (i := 3) (c := f) _ (by simp) rfl f1, sl_end _ _ _ (by simp) c1, if_pos (Or.inl c2)]
/-- One byte more that may not follow. -/
theorem st_cut {b : Int} {p : List Int} {x : Int} (hb : byte b) (h0 : 128 ≤ b) (g : Good (b :: p)) (hm : ((b :: p).length : Int) < manyv b) (hx : ¬ next b (b :: p).length x) (k : Nat) (hk : 10 ≤ k) : carryallref01_starts.f k (b :: p ++ [x]) = some (false, false) := by
  obtain ⟨k', hk', e⟩ := st_j2 hb (p ++ [x]) k hk
  obtain ⟨j, rfl⟩ : ∃ j, k' = j + 6 := ⟨k' - 6, by omega⟩
  have h2 : 2 ≤ manyv b := by rw [List.length_cons] at hm; rcases many_cases b with h | h | h | h <;> omega
  have hr := lead_rng h2
  have hne : manyv b ≠ 0 := by omega
  rw [show b :: p ++ [x] = b :: (p ++ [x]) from rfl, e, many1_of h2, carryallref01_starts.j2, if_neg (by simp only [List.length_cons, List.length_append, List.length_nil] at *; omega)]
  cases g with
  | one =>
    by_cases c1 : 128 ≤ x ∧ x ≤ 191
    · rw [show (1 : Int) = ((1 : Nat) : Int) from rfl, sl_yes (i := 1) (c := x) _ (by simp) rfl c1]
      show carryallref01_starts.l0 _ (b :: x :: []) _ _ = _
      rw [sl_end _ _ _ (by simp) c1, if_neg]
      rintro (h | h)
      · exact hx (next_one.2 h)
      · exact h hr
    · exact sl_no (i := 1) (c := x) _ rfl c1
  | two _ c hc =>
    have c1 := next_cont hc hne
    rw [show (1 : Int) = ((1 : Nat) : Int) from rfl, sl_yes (i := 1) (c := c) _ (by simp) rfl c1]
    exact sl_no (i := 2) (c := x) _ rfl (fun h => hx (next_two.2 h))
  | three _ c d hc hd =>
    have c1 := next_cont hc hne
    have d1 := next_cont hd hne
    rw [show (1 : Int) = ((1 : Nat) : Int) from rfl, sl_yes (i := 1) (c := c) _ (by simp) rfl c1, sl_yes (i := 2) (c := d) _ (by simp) rfl d1]
    exact sl_no (i := 3) (c := x) _ rfl (fun h => hx (next_three.2 h))
  | four => simp at hm; rcases many_cases b with h | h | h | h <;> omega
theorem st_asc {b : Int} (hb : byte b) (h : b < 128) (k : Nat) (hk : 10 ≤ k) : carryallref01_starts.f k [b] = some (true, true) := by
  obtain ⟨k', hk', e⟩ := st_j2 hb [] k hk
  obtain ⟨j, rfl⟩ : ∃ j, k' = j + 6 := ⟨k' - 6, by omega⟩
  have : many1 b = 1 := by unfold many1; rw [if_pos h]
  rw [e, this, carryallref01_starts.j2, if_neg (by simp), carryallref01_starts.l0, if_neg (by simp), if_neg (by simp)]
  rfl
theorem st_bad {b : Int} (hb : byte b) (h : 128 ≤ b) (hm : manyv b = 0) (k : Nat) (hk : 10 ≤ k) : carryallref01_starts.f k [b] = some (false, false) := by
  obtain ⟨k', hk', e⟩ := st_j2 hb [] k hk
  obtain ⟨j, rfl⟩ : ∃ j, k' = j + 6 := ⟨k' - 6, by omega⟩
  have : many1 b = 0 := by unfold many1; rw [if_neg (by omega), hm]
  rw [e, this, carryallref01_starts.j2, if_pos (by simp)]
theorem byte32 {x : Int} (h : byte x) : wrap32 x = x := by obtain ⟨a, b⟩ := h; unfold wrap32; omega
theorem num_full {b : Int} {p : List Int} (hb : bytes (b :: p)) (h0 : 128 ≤ b) (g : Good (b :: p)) (hm : manyv b = ((b :: p).length : Int)) (h2 : 2 ≤ (b :: p).length) (k : Nat) (hk : 10 ≤ k) : carryallref01_number.f k (b :: p) = some (val (b :: p)) := by
  obtain ⟨j, rfl⟩ : ∃ j, k = j + 6 := ⟨k - 6, by omega⟩
  have bb := hb b List.mem_cons_self
  have e32 := byte32 bb
  have hne : manyv b ≠ 0 := by omega
  unfold carryallref01_number.f
  cases g with
  | one => simp at h2
  | two _ c hc =>
    have c1 := next_cont hc hne
    have hr : 194 ≤ b ∧ b ≤ 223 := by simp at hm; unfold manyv at hm; repeat' split at hm <;> omega
    have r1 : rd [b, c] 1 = c := rfl
    have r0 : rd [b, c] 0 = b := rfl
    rw [if_pos (by simp), if_pos (by simp), r0, carryallref01_number.j0, carryallref01_number.l0, if_pos (by simp), if_pos (by omega), r1, w2, carryallref01_number.l0, if_neg (by simp)]
    show some _ = some ((b - 192) * 64 + (c - 128))
    congr 1
    unfold wrap32
    omega
  | three _ c d hc hd =>
    have c1 := next_cont hc hne
    have d1 := next_cont hd hne
    have hr : 224 ≤ b ∧ b ≤ 239 := by simp at hm; unfold manyv at hm; repeat' split at hm <;> omega
    have r1 : rd [b, c, d] 1 = c := rfl
    have r2 : rd [b, c, d] 2 = d := rfl
    have r0 : rd [b, c, d] 0 = b := rfl
    rw [if_pos (by simp), if_neg (by simp), if_pos (by simp), r0, carryallref01_number.j0, carryallref01_number.l0, if_pos (by simp), if_pos (by omega), r1, w2, carryallref01_number.l0, if_pos (by simp), if_pos (by omega), r2, w3, carryallref01_number.l0, if_neg (by simp)]
    show some _ = some (((b - 224) * 64 + (c - 128)) * 64 + (d - 128))
    congr 1
    have e1 : wrap32 (wrap32 (wrap32 (wrap32 (wrap32 b - 224) * 64) + wrap32 c) - 128) = (b - 224) * 64 + (c - 128) := by unfold wrap32; omega
    rw [e1]
    unfold wrap32
    omega
  | four _ c d f hc hd hf =>
    have c1 := next_cont hc hne
    have d1 := next_cont hd hne
    have f1 := next_cont hf hne
    have hr : 240 ≤ b ∧ b ≤ 244 := by simp at hm; unfold manyv at hm; repeat' split at hm <;> omega
    have r1 : rd [b, c, d, f] 1 = c := rfl
    have r2 : rd [b, c, d, f] 2 = d := rfl
    have r3 : rd [b, c, d, f] 3 = f := rfl
    have r0 : rd [b, c, d, f] 0 = b := rfl
    rw [if_pos (by simp), if_neg (by simp), if_neg (by simp), if_pos (by simp), r0, carryallref01_number.j0, carryallref01_number.l0, if_pos (by simp), if_pos (by omega), r1, w2, carryallref01_number.l0, if_pos (by simp), if_pos (by omega), r2, w3, carryallref01_number.l0, if_pos (by simp), if_pos (by omega), r3, w4, carryallref01_number.l0, if_neg (by simp)]
    show some _ = some ((((b - 240) * 64 + (c - 128)) * 64 + (d - 128)) * 64 + (f - 128))
    congr 1
    have e1 : wrap32 (wrap32 (wrap32 (wrap32 (wrap32 b - 240) * 64) + wrap32 c) - 128) = (b - 240) * 64 + (c - 128) := by unfold wrap32; omega
    rw [e1]
    have e2 : wrap32 (wrap32 (wrap32 (((b - 240) * 64 + (c - 128)) * 64) + wrap32 d) - 128) = ((b - 240) * 64 + (c - 128)) * 64 + (d - 128) := by unfold wrap32; omega
    rw [e2]
    unfold wrap32
    omega
theorem num_asc {b : Int} (hb : byte b) (k : Nat) (hk : 10 ≤ k) : carryallref01_number.f k [b] = some b := by
  obtain ⟨j, rfl⟩ : ∃ j, k = j + 2 := ⟨k - 2, by omega⟩
  have r0 : rd [b] 0 = b := rfl
  unfold carryallref01_number.f
  rw [if_pos (by simp), if_neg (by simp), if_neg (by simp), if_neg (by simp), r0, byte32 hb, carryallref01_number.j0, carryallref01_number.l0, if_neg (by simp)]
def RE (l acc X : List Int) : Prop := ∃ k0, ∀ k, k0 ≤ k → carryallref01_Decode.l0 k l acc = some X
def RE1 (l acc : List Int) (n : Nat) (w : Bool) (X : List Int) : Prop := ∃ k0, ∀ k, k0 ≤ k → carryallref01_Decode.l1 k l acc (n : Int) w = some X
theorem re_more {l acc X : List Int} {n : Nat} {w : Bool} (hn : n < l.length) (hl : l.length ≤ 1000000) (hs : ∀ k, 10 ≤ k → carryallref01_starts.f k (l.take (n + 1)) = some (true, w)) (h : RE1 l acc (n + 1) w X) : RE1 l acc n false X := by
  obtain ⟨k0, hk⟩ := h
  refine ⟨k0 + 20, fun k hk' => ?_⟩
  obtain ⟨j, rfl⟩ : ∃ j, k = j + 2 := ⟨k - 2, by omega⟩
  have hw : wrap64 ((n : Int) + 1) = ((n + 1 : Nat) : Int) := by rw [wrap_in (by omega) (by omega)]; omega
  rw [carryallref01_Decode.l1, if_pos (by omega), carryallref01_Decode.j2, if_pos (by decide), hw, if_pos (by omega), if_pos (by omega), Int.toNat_natCast, hs j (by omega), Option.bind_some, if_pos rfl]
  exact hk j (by omega)
theorem mx_one (n : Nat) : mx (n : Int) 1 = ((max n 1 : Nat) : Int) := by unfold mx; split <;> omega
theorem re_stop {l acc X : List Int} {n : Nat} (hn : n < l.length) (hl : acc.length + l.length ≤ 1000000) (hs : ∀ k, 10 ≤ k → carryallref01_starts.f k (l.take (n + 1)) = some (false, false)) (h : RE (l.drop (max n 1)) (acc ++ [65533]) X) : RE1 l acc n false X := by
  obtain ⟨k0, hk⟩ := h
  refine ⟨k0 + 20, fun k hk' => ?_⟩
  obtain ⟨j, rfl⟩ : ∃ j, k = j + 2 := ⟨k - 2, by omega⟩
  have hw : wrap64 ((n : Int) + 1) = ((n + 1 : Nat) : Int) := by rw [wrap_in (by omega) (by omega)]; omega
  rw [carryallref01_Decode.l1, if_pos (by omega), carryallref01_Decode.j2, if_pos (by decide), hw, if_pos (by omega), if_pos (by omega), Int.toNat_natCast, hs j (by omega), Option.bind_some, if_neg Bool.false_ne_true, if_neg Bool.false_ne_true, if_pos (by omega), mx_one, if_pos (by omega), if_pos (by omega), Int.toNat_natCast]
  exact hk j (by omega)
theorem re_end {l acc X : List Int} {n : Nat} (hn : n = l.length) (h1 : 1 ≤ n) (hl : acc.length + l.length ≤ 1000000) (h : RE (l.drop n) (acc ++ [65533]) X) : RE1 l acc n false X := by
  obtain ⟨k0, hk⟩ := h
  refine ⟨k0 + 20, fun k hk' => ?_⟩
  obtain ⟨j, rfl⟩ : ∃ j, k = j + 2 := ⟨k - 2, by omega⟩
  have hm : max n 1 = n := by omega
  rw [carryallref01_Decode.l1, if_neg (by omega), carryallref01_Decode.j2, if_neg Bool.false_ne_true, if_neg Bool.false_ne_true, if_pos (by omega), mx_one, if_pos (by omega), if_pos (by omega), Int.toNat_natCast, hm]
  exact hk j (by omega)
theorem re_whole {l acc X : List Int} {n : Nat} {v : Int} (hn : n ≤ l.length) (h1 : 1 ≤ n) (hl : acc.length + l.length ≤ 1000000) (hv : ∀ k, 10 ≤ k → carryallref01_number.f k (l.take n) = some v) (h : RE (l.drop n) (acc ++ [v]) X) : RE1 l acc n true X := by
  obtain ⟨k0, hk⟩ := h
  refine ⟨k0 + 20, fun k hk' => ?_⟩
  obtain ⟨j, rfl⟩ : ∃ j, k = j + 2 := ⟨k - 2, by omega⟩
  have tail : (if (true : Bool) = true then (if 0 ≤ (n : Int) then (if (n : Int) ≤ (l.length : Int) then ((carryallref01_number.f j (l.take (n : Int).toNat)).bind fun t248 => (if acc.length < 35184372088832 then (carryallref01_Decode.l0 j (l.drop (n : Int).toNat) (acc ++ [t248])) else (none))) else (none)) else (none)) else none) = some X := by
    rw [if_pos rfl, if_pos (by omega), if_pos (by omega), Int.toNat_natCast, hv j (by omega), Option.bind_some, if_pos (by omega)]
    exact hk j (by omega)
  rw [if_pos rfl] at tail
  rw [carryallref01_Decode.l1]
  split
  · rw [carryallref01_Decode.j2, if_neg (by decide), if_pos rfl]
    exact tail
  · rw [carryallref01_Decode.j2, if_neg (by decide), if_pos rfl]
    exact tail
theorem re_l0 {l acc X : List Int} (h0 : 0 < l.length) (h : RE1 l acc 0 false X) : RE l acc X := by
  obtain ⟨k0, hk⟩ := h
  refine ⟨k0 + 1, fun k hk' => ?_⟩
  obtain ⟨j, rfl⟩ : ∃ j, k = j + 1 := ⟨k - 1, by omega⟩
  rw [carryallref01_Decode.l0, if_pos (by omega)]
  exact hk j (by omega)
/-- The beginnings of what is fine are taken one by one. -/
theorem re_good {b : Int} (hb : byte b) (h0 : 128 ≤ b) (h2 : 2 ≤ manyv b) {acc X : List Int} : ∀ (p t : List Int), Good (b :: p) → ((b :: p).length : Int) ≤ manyv b → (b :: p ++ t).length ≤ 1000000 → RE1 (b :: p ++ t) acc (b :: p).length (((b :: p).length : Int) == manyv b) X → RE1 (b :: p ++ t) acc 0 false X := by
  intro p t g hm hl h
  have cnt : ∀ (q u : List Int), Good (b :: q) → ((b :: q).length : Int) ≤ manyv b → b :: p ++ t = b :: q ++ u → ∀ k, 10 ≤ k → carryallref01_starts.f k ((b :: p ++ t).take (q.length + 1)) = some (true, ((b :: q).length : Int) == manyv b) := by
    intro q u gq hq he k hk
    rw [he, List.take_left' (by simp)]
    exact st_good hb h0 gq hq h2 k hk
  have ne : ∀ n : Nat, (n : Int) < manyv b → ((n : Int) == manyv b) = false := fun n h => by simp; omega
  cases g with
  | one => exact re_more (n := 0) (by simp) hl (cnt [] t (.one b) hm rfl) h
  | two _ c hc =>
    have hm' : (2 : Int) ≤ manyv b := by simpa using hm
    refine re_more (n := 0) (w := false) (by simp) hl (fun k hk => ?_) (re_more (n := 1) (by simp) hl (cnt [c] t (.two b c hc) hm rfl) h)
    exact (cnt [] (c :: t) (.one b) (by simp; omega) rfl k hk).trans (congrArg (fun x => some (true, x)) (ne 1 (by omega)))
  | three _ c d hc hd =>
    have hm' : (3 : Int) ≤ manyv b := by simpa using hm
    refine re_more (n := 0) (w := false) (by simp) hl (fun k hk => ?_) (re_more (n := 1) (w := false) (by simp) hl (fun k hk => ?_) (re_more (n := 2) (by simp) hl (cnt [c, d] t (.three b c d hc hd) hm rfl) h))
    · exact (cnt [] (c :: d :: t) (.one b) (by simp; omega) rfl k hk).trans (congrArg (fun x => some (true, x)) (ne 1 (by omega)))
    · exact (cnt [c] (d :: t) (.two b c hc) (by simp; omega) rfl k hk).trans (congrArg (fun x => some (true, x)) (ne 2 (by omega)))
  | four _ c d f hc hd hf =>
    have hm' : (4 : Int) ≤ manyv b := by simpa using hm
    refine re_more (n := 0) (w := false) (by simp) hl (fun k hk => ?_) (re_more (n := 1) (w := false) (by simp) hl (fun k hk => ?_) (re_more (n := 2) (w := false) (by simp) hl (fun k hk => ?_) (re_more (n := 3) (by simp) hl (cnt [c, d, f] t (.four b c d f hc hd hf) hm rfl) h)))
    · exact (cnt [] (c :: d :: f :: t) (.one b) (by simp; omega) rfl k hk).trans (congrArg (fun x => some (true, x)) (ne 1 (by omega)))
    · exact (cnt [c] (d :: f :: t) (.two b c hc) (by simp; omega) rfl k hk).trans (congrArg (fun x => some (true, x)) (ne 2 (by omega)))
    · exact (cnt [c, d] (f :: t) (.three b c d hc hd) (by simp; omega) rfl k hk).trans (congrArg (fun x => some (true, x)) (ne 3 (by omega)))
theorem re_step {l acc X : List Int} {r : Int} {m : Nat} {ok : Bool} (hb : bytes l) (hl : acc.length + l.length ≤ 1000000) (s : Step l r m ok) (h : RE (l.drop m) (acc ++ [r]) X) : RE l acc X := by
  have hsl := step_len s
  refine re_l0 (by omega) ?_
  cases s with
  | asc _ t h0 h1 =>
    have bb := hb r List.mem_cons_self
    exact re_more (n := 0) (by simp) (by omega) (fun k hk => st_asc bb h1 k hk) (re_whole (n := 1) (by simp) (by omega) hl (fun k hk => num_asc bb k hk) h)
  | bad b t h0 hm =>
    have bb := hb b List.mem_cons_self
    exact re_stop (n := 0) (by simp) hl (fun k hk => st_bad bb h0 hm k hk) h
  | full b p t h0 g hm h2 =>
    have bb := hb b List.mem_cons_self
    have h2' : 2 ≤ manyv b := by omega
    refine re_good bb h0 h2' p t g (by omega) (by omega) ?_
    rw [show (((b :: p).length : Int) == manyv b) = true by rw [hm]; simp]
    refine re_whole (by simp) (by omega) hl (fun k hk => ?_) h
    rw [List.take_left' rfl]
    exact num_full (fun x hx => hb x (List.mem_append_left _ hx)) h0 g hm h2 k hk
  | end_ b p h0 g hm =>
    have bb := hb b List.mem_cons_self
    have h2' : 2 ≤ manyv b := by rw [List.length_cons] at hm; rcases many_cases b with h | h | h | h <;> omega
    have := re_good (acc := acc) (X := X) bb h0 h2' p [] g (by omega) (by rw [List.append_nil]; omega)
    rw [List.append_nil] at this
    refine this ?_
    rw [show (((b :: p).length : Int) == manyv b) = false by simp at hm ⊢; omega]
    exact re_end rfl (by simp) hl h
  | cut b p c t h0 g hm hn =>
    have bb := hb b List.mem_cons_self
    have h2' : 2 ≤ manyv b := by rw [List.length_cons] at hm; rcases many_cases b with h | h | h | h <;> omega
    refine re_good bb h0 h2' p (c :: t) g (by omega) (by omega) ?_
    rw [show (((b :: p).length : Int) == manyv b) = false by simp at hm ⊢; omega]
    refine re_stop (by simp) hl (fun k hk => ?_) ?_
    · have e : (b :: p ++ c :: t).take ((b :: p).length + 1) = b :: p ++ [c] := by
        rw [show b :: p ++ c :: t = (b :: p ++ [c]) ++ t by simp, List.take_left' (by simp)]
      rw [e]
      exact st_cut bb h0 g hm hn k hk
    · rw [show max (b :: p).length 1 = (b :: p).length by simp]
      exact h
theorem toU_len (l : List Int) : (toU l).length = l.length := by simp [toU]
theorem toU_drop (l : List Int) (m : Nat) : toU (l.drop m) = (toU l).drop m := by simp [toU, List.map_drop]
theorem toU_get (l : List Int) (hb : bytes l) (i : Nat) : (((toU l).getD i 0).toNat : Int) = l.getD i 0 := by
  unfold toU
  rw [List.getD_eq_getElem?_getD, List.getElem?_map, List.getD_eq_getElem?_getD]
  cases h : l[i]? with
  | none => rfl
  | some x => exact ofNat_of (hb x (List.mem_of_getElem? h))
def chk (n : Nat) : Bool := decide (n < 128) || ((!decide (manyv (n : Int) = 0) || (!decide (Lib.firstT n % 8 = 2) && !decide (Lib.firstT n % 8 = 3) && !decide (Lib.firstT n % 8 = 4))) && (decide (manyv (n : Int) < 2) || (decide (((Lib.firstT n % 8 : Nat) : Int) = manyv (n : Int)) && decide (((Lib.accLo (Lib.firstT n / 16) : Nat) : Int) = lowv (n : Int)) && decide (((Lib.accHi (Lib.firstT n / 16) : Nat) : Int) = highv (n : Int)))))
theorem tab (n : Nat) (hn : n < 256) (h1 : 128 ≤ n) : (manyv (n : Int) = 0 → Lib.firstT n % 8 ≠ 2 ∧ Lib.firstT n % 8 ≠ 3 ∧ Lib.firstT n % 8 ≠ 4) ∧ (2 ≤ manyv (n : Int) → ((Lib.firstT n % 8 : Nat) : Int) = manyv (n : Int) ∧ ((Lib.accLo (Lib.firstT n / 16) : Nat) : Int) = lowv (n : Int) ∧ ((Lib.accHi (Lib.firstT n / 16) : Nat) : Int) = highv (n : Int)) := by
  have H : ∀ n : Nat, n < 256 → chk n = true := by decide +kernel
  have h := H n hn
  unfold chk at h
  rw [decide_eq_false (by omega), Bool.false_or, Bool.and_eq_true] at h
  obtain ⟨a, b⟩ := h
  refine ⟨fun h0 => ?_, fun h2 => ?_⟩
  · rw [decide_eq_true h0] at a
    simpa [and_assoc] using a
  · rw [decide_eq_false (by omega), Bool.false_or] at b
    simpa [and_assoc] using b
theorem vd_lead {b : Int} {t : List Int} (hb : bytes (b :: t)) (h0 : 128 ≤ b) : ∃ SZ LO HI c1 c2 c3 : Nat, Lib.validD (toU (b :: t)) = (match Lib.checkN (t.length + 1) c1 c2 c3 SZ LO HI with | none => false | some k => Lib.validD (toU ((b :: t).drop k))) ∧ (c1 : Int) = (b :: t).getD 1 0 ∧ (c2 : Int) = (b :: t).getD 2 0 ∧ (c3 : Int) = (b :: t).getD 3 0 ∧ (manyv b = 0 → SZ ≠ 2 ∧ SZ ≠ 3 ∧ SZ ≠ 4) ∧ (2 ≤ manyv b → (SZ : Int) = manyv b ∧ (LO : Int) = lowv b ∧ (HI : Int) = highv b) := by
  obtain ⟨n, rfl, hn⟩ := nat_of (hb b List.mem_cons_self)
  have g := toU_get _ hb
  have g0 : ((toU ((n : Int) :: t)).getD 0 0).toNat = n := by have := g 0; rw [show ((n : Int) :: t).getD 0 0 = (n : Int) from rfl] at this; omega
  have h := Lib.validD_lead (toU ((n : Int) :: t)) (by simp [toU]) (by rw [g0]; omega)
  rw [g0, toU_len, List.length_cons] at h
  obtain ⟨T1, T2⟩ := tab n hn (by omega)
  refine ⟨_, _, _, _, _, _, ?_, g 1, g 2, g 3, T1, T2⟩
  rw [h]
  split <;> rename_i e <;> rw [e]
  simp only [toU_drop]
theorem vd_step {l : List Int} {r : Int} {m : Nat} {ok : Bool} (hb : bytes l) (s : Step l r m ok) : Lib.validD (toU l) = (if ok = true then Lib.validD (toU (l.drop m)) else false) := by
  cases s with
  | asc _ t h0 h1 =>
    have : (UInt8.ofNat r.toNat).toNat < 128 := by have := ofNat_of (hb r List.mem_cons_self); omega
    exact Lib.validD_cons _ _ this
  | bad b t h0 hm =>
    obtain ⟨SZ, LO, HI, c1, c2, c3, e, _, _, _, z, _⟩ := vd_lead hb h0
    obtain ⟨z1, z2, z3⟩ := z hm
    rw [e, Lib.checkN, if_neg z1, if_neg z2, if_neg z3]
    rfl
  | full b p t h0 g hm h2 =>
    obtain ⟨SZ, LO, HI, c1, c2, c3, e, e1, e2, e3, _, z⟩ := vd_lead (t := p ++ t) hb h0
    obtain ⟨z1, z2, z3⟩ := z (by omega)
    rw [show b :: p ++ t = b :: (p ++ t) from rfl, e]
    cases g with
    | one => simp at h2
    | two _ c hc =>
      obtain ⟨n1, n2⟩ := next_one.1 hc
      have e1' : (c1 : Int) = c := e1
      simp at hm
      rw [Lib.checkN, if_pos (by omega), if_neg (by simp; omega)]
      rfl
    | three _ c d hc hd =>
      obtain ⟨n1, n2⟩ := next_one.1 hc
      obtain ⟨n3, n4⟩ := next_two.1 hd
      have e1' : (c1 : Int) = c := e1
      have e2' : (c2 : Int) = d := e2
      simp at hm
      rw [Lib.checkN, if_neg (by omega), if_pos (by omega), if_neg (by simp; omega)]
      rfl
    | four _ c d f hc hd hf =>
      obtain ⟨n1, n2⟩ := next_one.1 hc
      obtain ⟨n3, n4⟩ := next_two.1 hd
      obtain ⟨n5, n6⟩ := next_three.1 hf
      have e1' : (c1 : Int) = c := e1
      have e2' : (c2 : Int) = d := e2
      have e3' : (c3 : Int) = f := e3
      simp at hm
      rw [Lib.checkN, if_neg (by omega), if_neg (by omega), if_pos (by omega), if_neg (by simp; omega)]
      rfl
  | end_ b p h0 g hm =>
    obtain ⟨SZ, LO, HI, c1, c2, c3, e, _, _, _, _, z⟩ := vd_lead (t := p) hb h0
    rw [List.length_cons] at hm
    obtain ⟨z1, z2, z3⟩ := z (by rcases many_cases b with h | h | h | h <;> omega)
    have : Lib.checkN (p.length + 1) c1 c2 c3 SZ LO HI = none := by
      unfold Lib.checkN
      repeat' split
      all_goals first | rfl | (exfalso; rename_i h; revert h; simp; omega) | (exfalso; omega)
    rw [e, this]
    rfl
  | cut b p c t h0 g hm hn =>
    obtain ⟨SZ, LO, HI, c1, c2, c3, e, e1, e2, e3, _, z⟩ := vd_lead (t := p ++ c :: t) hb h0
    rw [List.length_cons] at hm
    obtain ⟨z1, z2, z3⟩ := z (by rcases many_cases b with h | h | h | h <;> omega)
    have : Lib.checkN ((p ++ c :: t).length + 1) c1 c2 c3 SZ LO HI = none := by
      cases g with
      | one =>
        have e1' : (c1 : Int) = c := e1
        have hn' : ¬ (lowv b ≤ c ∧ c ≤ highv b) := fun h => hn (next_one.2 h)
        unfold Lib.checkN
        repeat' split
        all_goals first | rfl | (exfalso; omega)
      | two _ x hx =>
        have e2' : (c2 : Int) = c := e2
        have hn' : ¬ (128 ≤ c ∧ c ≤ 191) := fun h => hn (next_two.2 h)
        simp at hm
        unfold Lib.checkN
        repeat' split
        all_goals first | rfl | (exfalso; omega)
      | three _ x y hx hy =>
        have e3' : (c3 : Int) = c := e3
        have hn' : ¬ (128 ≤ c ∧ c ≤ 191) := fun h => hn (next_three.2 h)
        simp at hm
        unfold Lib.checkN
        repeat' split
        all_goals first | rfl | (exfalso; omega)
      | four => simp at hm; rcases many_cases b with h | h | h | h <;> omega
    rw [show b :: p ++ c :: t = b :: (p ++ c :: t) from rfl, e, this]
    rfl
theorem bad_len {l : List Int} {r : Int} {m : Nat} (h : Step l r m false) : m ≤ 3 := by
  cases h with
  | bad => omega
  | end_ b p _ _ hl => rcases many_cases b with h | h | h | h <;> omega
  | cut b p c t _ _ hl _ => rcases many_cases b with h | h | h | h <;> omega
/-- All of it: what bytes are read as, by both, and who is valid. -/
theorem both : ∀ (d : Nat) (l : List Int), l.length = d → bytes l → l.length ≤ 100000 → ∃ L, (∀ acc : List Int, acc.length + l.length ≤ 1000000 → RE l acc (acc ++ L)) ∧ L.length ≤ l.length ∧ (∀ r ∈ L, isChar r) ∧ l.length ≤ (L.flatMap enc).length ∧ (Lib.validD (toU l) = true ↔ L.flatMap enc = l) := by
  intro d
  induction d using Nat.strongRecOn with
  | ind d ih =>
    intro l hd hb hl
    by_cases h0 : l = []
    · subst h0
      exact ⟨[], fun acc _ => ⟨1, fun k hk => by obtain ⟨j, rfl⟩ : ∃ j, k = j + 1 := ⟨k - 1, by omega⟩; rw [carryallref01_Decode.l0, if_neg (by simp), List.append_nil]⟩, Nat.le_refl _, fun r h => (by cases h), Nat.zero_le _, by simp [toU, Lib.validD_nil]⟩
    · obtain ⟨r, m, ok, s⟩ := step_any l hb h0
      obtain ⟨m1, m2, m4⟩ := step_len s
      have hbd : bytes (l.drop m) := fun x hx => hb x (List.mem_of_mem_drop hx)
      have hld : (l.drop m).length = l.length - m := List.length_drop ..
      obtain ⟨L, hE, hL, hC, hF, hV⟩ := ih (l.length - m) (by omega) (l.drop m) hld hbd (by omega)
      have hsplit : l = l.take m ++ l.drop m := (List.take_append_drop m l).symm
      refine ⟨r :: L, fun acc ha => ?_, by rw [List.length_cons]; omega, fun x hx => ?_, ?_, ?_⟩
      · have := hE (acc ++ [r]) (by rw [List.length_append, List.length_singleton]; omega)
        rw [List.append_assoc] at this
        exact re_step hb ha s this
      · rcases List.mem_cons.1 hx with rfl | hx
        · cases ok with
          | true => exact (step_ok s).1
          | false => rw [(step_bad s).1]; exact ⟨by omega, by omega, by omega⟩
        · exact hC x hx
      · rw [List.flatMap_cons, List.length_append]
        cases ok with
        | true => rw [(step_ok s).2.2]; omega
        | false =>
          have := bad_len s
          have e : (enc r).length = 3 := by rw [(step_bad s).1]; decide
          omega
      · rw [vd_step hb s, List.flatMap_cons]
        cases ok with
        | true =>
          rw [if_pos rfl, hV, (step_ok s).2.1]
          constructor
          · intro h; rw [h]; exact List.take_append_drop m l
          · intro h
            exact List.append_cancel_left (h.trans hsplit)
        | false =>
          rw [if_neg Bool.false_ne_true]
          refine ⟨(fun h => by cases h), fun h => ?_⟩
          exfalso
          have e : (enc r).length = 3 := by rw [(step_bad s).1]; decide
          have hlen := congrArg List.length h
          rw [List.length_append, e] at hlen
          have h3 : m = 3 := by have := bad_len s; omega
          have htk : l.take m = enc r := by
            rw [← h, List.take_left' (by rw [e, h3])]
          rw [(step_bad s).1] at htk
          exact (step_bad s).2 htk
theorem rvalid_f {l L : List Int} (hb : bytes l) (hl : l.length ≤ 100000) (hL : L.length ≤ l.length) (h : RE l [] L) (hV : Lib.validD (toU l) = true ↔ L.flatMap enc = l) : ∃ k0, ∀ k, k0 ≤ k → carryallref01_Valid.f k l = some (Lib.validD (toU l)) := by
  obtain ⟨k0, hk⟩ := h
  refine ⟨k0 + L.length + 10, fun k hk' => ?_⟩
  unfold carryallref01_Valid.f carryallref01_Decode.f
  rw [hk k (by omega), Option.bind_some, renc_f L (by omega) k (by omega), Option.bind_some, beq_iff, bytes_str _ (flat_bytes L), bytes_str _ hb]
  congr 1
  by_cases h : L.flatMap enc = l
  · rw [decide_eq_true h, hV.2 h]
  · rw [decide_eq_false h]
    cases e : Lib.validD (toU l) with
    | false => rfl
    | true => exact absurd (hV.1 e) h
theorem get_s (s : ByteArray) (i : Nat) : (s.get! i).toNat = ((bytesOf s).getD i 0).toNat := by
  have h := get_of (bytesOf s) (bytes_all s) i
  rw [str_bytes] at h
  exact h
theorem get_drop {s : ByteArray} {pos : Nat} {l : List Int} (h : (bytesOf s).drop pos = l) (i : Nat) : (s.get! (pos + i)).toNat = (l.getD i 0).toNat := by
  rw [get_s, ← h, List.getD_eq_getElem?_getD, List.getD_eq_getElem?_getD, List.getElem?_drop]
/-- A character's bytes at a place, whatever is behind them, are read as it by a range. -/
theorem dec_pos {s : ByteArray} {pos : Nat} {r : Int} {t : List Int} (hr : isChar r) (h : (bytesOf s).drop pos = enc r ++ t) : Utf8.decode s pos = (r.toNat, (enc r).length) := by
  obtain ⟨r0, r1, r2⟩ := hr
  have hlen : s.size - pos = (enc r).length + t.length := by
    have := congrArg List.length h
    rw [List.length_drop, bytesOf_length, List.length_append] at this
    exact this
  have g0 := get_drop h 0
  have g1 := get_drop h 1
  have g2 := get_drop h 2
  have g3 := get_drop h 3
  rw [Lib.decode_at, hlen]
  rw [Nat.add_zero] at g0
  rw [g0, g1, g2, g3]
  clear g0 g1 g2 g3 h hlen
  by_cases h1 : r ≤ 127
  · have e : enc r = [r] := Lib.encodeRuneZ_one r0 h1
    rw [e]
    show Lib.decodeN (1 + t.length) r.toNat _ _ _ = (r.toNat, 1)
    unfold Lib.decodeN
    repeat' split
    all_goals first | rfl | (exfalso; omega) | (apply Prod.ext <;> simp only <;> omega)
  · by_cases h2 : r ≤ 2047
    · have e : enc r = [192 + r / 64, 128 + r % 64] := Lib.encodeRuneZ_two (by omega) h2
      rw [e]
      show Lib.decodeN (2 + t.length) (192 + r / 64).toNat (128 + r % 64).toNat _ _ = (r.toNat, 2)
      unfold Lib.decodeN
      repeat' split
      all_goals first | (exfalso; omega) | (apply Prod.ext <;> simp only <;> omega)
    · by_cases h3 : r ≤ 65535
      · have e : enc r = [224 + r / 4096, 128 + r / 64 % 64, 128 + r % 64] := Lib.encodeRuneZ_three (by omega)
        rw [e]
        show Lib.decodeN (3 + t.length) (224 + r / 4096).toNat (128 + r / 64 % 64).toNat (128 + r % 64).toNat _ = (r.toNat, 3)
        unfold Lib.decodeN
        repeat' split
        all_goals first | (exfalso; omega) | (apply Prod.ext <;> simp only <;> omega)
      · have e : enc r = [240 + r / 262144, 128 + r / 4096 % 64, 128 + r / 64 % 64, 128 + r % 64] := Lib.encodeRuneZ_four (by omega) r1
        rw [e]
        show Lib.decodeN (4 + t.length) (240 + r / 262144).toNat (128 + r / 4096 % 64).toNat (128 + r / 64 % 64).toNat (128 + r % 64).toNat = (r.toNat, 4)
        unfold Lib.decodeN
        repeat' split
        all_goals first | (exfalso; omega) | (apply Prod.ext <;> simp only <;> omega)
end Go.Proofs.YtbbdfamfmkcfhaaGreatDoor.Dec
