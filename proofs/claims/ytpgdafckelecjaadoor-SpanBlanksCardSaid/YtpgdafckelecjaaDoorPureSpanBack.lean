/- What is printed of a range that is read is read as it. -/
import Derived.Test.YtpgdafckelecjaaDoorPx3
import Derived.Test.YtpgdafckelecjaaDoorPx7
import Derived.Test.YtpgdafckelecjaaDoorSpan
import Derived.Test.YtpgdafckelecjaaDoorSpanAwake
namespace Go.Proofs.YtpgdafckelecjaaDoor.Span
open Go.RowKit Go.Proofs.YtpgdafckelecjaaDoor.P Go.Proofs.YtpgdafckelecjaaDoor.Pl Go.Proofs.YtpgdafckelecjaaDoorW.PrintWords Go.Proofs.YtpgdafckelecjaaDoorW.PrintLast
set_option linter.unusedVariables false

/-! a number's digits are read as it -/
def decI (n : Nat) : List Int := (Lib.decDigits n).map fun b => (b.toNat : Int)
theorem dig_of {m : Nat} (h : m < 10) : (((UInt8.ofNat (48 + m)).toNat : Nat) : Int) = 48 + m := by
  have : ∀ m : Nat, m < 10 → (((UInt8.ofNat (48 + m)).toNat : Nat) : Int) = 48 + m := by decide +kernel
  exact this m h
theorem numL_dec : ∀ (n : Nat) (rest : List Int), n ≤ 4611686018427387904 → numL (decI n ++ rest) 0 = numL rest (n : Int) := by
  intro n
  induction n using Nat.strongRecOn with
  | ind n ih =>
    intro rest hn
    unfold decI
    rw [Lib.decDigits]
    split
    · rename_i h
      rw [List.map_singleton, dig_of h, List.singleton_append, numL, if_pos (by unfold digB; rw [decide_eq_true (by omega), decide_eq_true (by omega)]; rfl)]
      congr 1
      unfold step
      rw [if_neg (by omega)]
      omega
    · rename_i h
      rw [List.map_append, List.map_singleton, dig_of (show n % 10 < 10 by omega), List.append_assoc, List.singleton_append]
      have := ih (n / 10) (by omega) ((48 + ((n % 10 : Nat) : Int)) :: rest) (by omega)
      unfold decI at this
      rw [this, numL, if_pos (by unfold digB; rw [decide_eq_true (by omega), decide_eq_true (by omega)]; rfl)]
      congr 1
      unfold step
      rw [if_neg (by omega)]
      omega
theorem dec_head (n : Nat) : ∃ c t, decI n = c :: t ∧ 48 ≤ c ∧ c ≤ 57 := by
  induction n using Nat.strongRecOn with
  | ind n ih =>
    unfold decI
    rw [Lib.decDigits]
    split
    · rename_i h
      exact ⟨48 + (n : Int), [], by rw [List.map_singleton, dig_of h], by omega, by omega⟩
    · rename_i h
      obtain ⟨c, t, e, h0, h1⟩ := ih (n / 10) (by omega)
      unfold decI at e
      rw [List.map_append, e]
      exact ⟨c, _, rfl, h0, h1⟩
theorem skip_dec (n : Nat) (rest : List Int) : skipL (decI n ++ rest) = decI n ++ rest := by
  obtain ⟨c, t, e, h0, h1⟩ := dec_head n
  rw [e, List.cons_append]
  unfold skipL
  rw [List.dropWhile_cons_of_neg]
  simp [blankB]
  omega
theorem dec_len (n : Nat) : 0 < (decI n).length := by
  obtain ⟨c, t, e, _⟩ := dec_head n
  rw [e]
  simp
theorem dec_len_le : ∀ (k n : Nat), n < 10 ^ (k + 1) → (Lib.decDigits n).length ≤ k + 1 := by
  intro k
  induction k with
  | zero =>
    intro n hn
    rw [Lib.decDigits, dif_pos (by omega)]
    simp
  | succ k ih =>
    intro n hn
    rw [Lib.decDigits]
    split
    · simp
    · rw [List.length_append, List.length_singleton]
      have := ih (n / 10) (by rw [Nat.pow_succ] at hn; omega)
      omega

/-! what a reader's answer is like -/
theorem numL_none : ∀ (l : List Int) (n : Int), ¬ (numL l n).2.length < l.length → (numL l n).1 = n
  | [], n, _ => rfl
  | c :: t, n, h => by
    rw [numL] at h ⊢
    split
    · rename_i hc
      rw [if_pos hc] at h
      have := numL_len t (step n c)
      rw [List.length_cons] at h
      omega
    · rfl
def okR (r : R) : Prop := (r.2.2.2.2 = false ∧ r = bad) ∨
  (r.2.2.2.2 = true ∧ inM r.1 ∧ inM r.2.1 ∧ (r.2.2.1 = false → r.1 = 0) ∧ (r.2.2.2.1 = false → r.2.1 = 0) ∧ (r.2.2.1 = true ∨ r.2.2.2.1 = true) ∧ (r.2.2.1 = true → r.2.2.2.1 = true → r.1 ≤ r.2.1))
theorem ok_bad : okR bad := .inl ⟨rfl, rfl⟩
theorem ok_toL (n : Int) (hf : Bool) (r7 : List Int) (hn : inM n) (hf0 : hf = false → n = 0) : okR (toL n hf r7) := by
  have hm := numL_in r7 0 ⟨by omega, by omega⟩
  have hz : decide ((numL r7 0).2.length < r7.length) = false → (numL r7 0).1 = 0 := fun h => numL_none r7 0 (of_decide_eq_false h)
  unfold toL
  generalize decide ((numL r7 0).2.length < r7.length) = ht at hz ⊢
  by_cases h1 : (numL r7 0).2 = []
  · rw [if_pos h1]
    cases hf
    · rw [if_neg Bool.false_ne_true]
      cases ht
      · rw [if_neg Bool.false_ne_true]; exact ok_bad
      · rw [if_pos rfl]; exact .inr ⟨rfl, hn, hm, hf0, hz, .inr rfl, fun h => by cases h⟩
    · rw [if_pos rfl]
      cases ht
      · rw [if_neg Bool.false_ne_true]; exact .inr ⟨rfl, hn, hm, hf0, hz, .inl rfl, fun _ h => by cases h⟩
      · rw [if_pos rfl]
        split
        · exact ok_bad
        · rename_i hle
          exact .inr ⟨rfl, hn, hm, hf0, hz, .inl rfl, fun _ _ => by show n ≤ (numL r7 0).1; omega⟩
  · rw [if_neg h1]; exact ok_bad
theorem ok_parse (s : ByteArray) : okR (parseL s) := by
  unfold parseL
  split
  · exact ok_bad
  · split
    · exact ok_bad
    · cases skipL ((bytesOf s).drop 5) with
      | nil => exact ok_bad
      | cons c r =>
        rw [tailL]
        by_cases hc : c = 61
        · rw [if_pos hc]
          unfold fromL
          cases skipL (numL (skipL r) 0).2 with
          | nil => exact ok_bad
          | cons c2 r2 =>
            rw [afterNum]
            by_cases hc2 : c2 = 45
            · rw [if_pos hc2]
              exact ok_toL _ _ _ (numL_in _ 0 ⟨by omega, by omega⟩) (fun h => numL_none _ 0 (of_decide_eq_false h))
            · rw [if_neg hc2]; exact ok_bad
        · rw [if_neg hc]; exact ok_bad

/-! what is printed -/
def digs (n : Int) (h : Bool) : List Int := if h = true then decI n.toNat else []
theorem itoa_bytes {n : Int} (h : inM n) : bytesOf (⟨(Lib.itoa n).toArray⟩ : ByteArray) = decI n.toNat := by
  rw [bytes_mk]
  unfold Lib.itoa decI
  rw [if_neg (by have := h.1; omega)]
theorem itoa_size {n : Int} (h : inM n) : (⟨(Lib.itoa n).toArray⟩ : ByteArray).size ≤ 20 := by
  have h1 : (⟨(Lib.itoa n).toArray⟩ : ByteArray).size = (Lib.itoa n).length := by show (Lib.itoa n).toArray.size = _; simp
  rw [h1]
  unfold Lib.itoa
  rw [if_neg (by have := h.1; omega)]
  exact dec_len_le 19 n.toNat (by have := h.2; omega)
theorem fmt_f {n : Int} (h : inM n) : strconv_FormatInt.f n 10 = some ⟨(Lib.itoa n).toArray⟩ := by
  unfold strconv_FormatInt.f
  obtain ⟨h0, h1⟩ := h
  rw [if_pos ⟨rfl, by omega, by omega⟩]
theorem print_f {n m : Int} {hf ht : Bool} (hn : inM n) (hm : inM m) :
    ∃ S, span_Print.f n m hf ht = some S ∧ bytesOf S = [98, 121, 116, 101, 115, 61] ++ (digs n hf ++ 45 :: digs m ht) ∧ S.size ≤ 60 := by
  have zn := itoa_size hn
  have zm := itoa_size hm
  have bn := itoa_bytes hn
  have bm := itoa_bytes hm
  have l6 : (⟨#[98, 121, 116, 101, 115, 61]⟩ : ByteArray).size = 6 := rfl
  have l1 : (⟨#[45]⟩ : ByteArray).size = 1 := rfl
  have b6 : bytesOf (⟨#[98, 121, 116, 101, 115, 61]⟩ : ByteArray) = [98, 121, 116, 101, 115, 61] := rfl
  have b1 : bytesOf (⟨#[45]⟩ : ByteArray) = [45] := rfl
  unfold span_Print.f digs
  rw [fmt_f hn, fmt_f hm]
  generalize (⟨(Lib.itoa n).toArray⟩ : ByteArray) = A at *
  generalize (⟨(Lib.itoa m).toArray⟩ : ByteArray) = B at *
  simp only [Option.bind_some, ByteArray.size_append, l6, l1]
  cases hf <;> cases ht <;> simp only [if_true, if_false, Bool.false_eq_true]
  · refine ⟨_, by rw [if_pos (by omega)], by rw [bytes_append, b6, b1]; rfl, by rw [ByteArray.size_append, l6, l1]; omega⟩
  · refine ⟨_, by rw [if_pos (by omega), if_pos (by omega)], by rw [bytes_append, bytes_append, b6, b1, bm]; rfl, by rw [ByteArray.size_append, ByteArray.size_append, l6, l1]; omega⟩
  · refine ⟨_, by rw [if_pos (by omega), if_pos (by omega)], by rw [bytes_append, bytes_append, b6, b1, bn, List.append_assoc], by rw [ByteArray.size_append, ByteArray.size_append, l6, l1]; omega⟩
  · refine ⟨_, by rw [if_pos (by omega), if_pos (by omega), if_pos (by omega)], by rw [bytes_append, bytes_append, bytes_append, b6, b1, bn, bm, List.append_assoc, List.append_assoc]; rfl, by rw [ByteArray.size_append, ByteArray.size_append, ByteArray.size_append, l6, l1]; omega⟩

theorem num_digs (n : Int) (hf : Bool) (hn : inM n) (h0 : hf = false → n = 0) (rest : List Int) (hr : numL rest n = (n, rest)) : numL (digs n hf ++ rest) 0 = (n, rest) := by
  obtain ⟨n0, n1⟩ := hn
  unfold digs
  cases hf
  · rw [if_neg Bool.false_ne_true, List.nil_append]
    have := h0 rfl
    subst this
    exact hr
  · rw [if_pos rfl, numL_dec _ _ (by omega), Int.toNat_of_nonneg n0]
    exact hr
theorem skip_digs (n : Int) (hf : Bool) (rest : List Int) (hr : skipL rest = rest) : skipL (digs n hf ++ rest) = digs n hf ++ rest := by
  unfold digs
  cases hf
  · exact hr
  · exact skip_dec _ _
theorem digs_len (n : Int) (hf : Bool) : decide (0 < (digs n hf).length) = hf := by
  unfold digs
  cases hf
  · rfl
  · rw [if_pos rfl]; exact decide_eq_true (dec_len _)
theorem back {S : ByteArray} {n m : Int} {hf ht : Bool} (hn : inM n) (hm : inM m) (hf0 : hf = false → n = 0) (ht0 : ht = false → m = 0) (hor : hf = true ∨ ht = true) (hle : hf = true → ht = true → n ≤ m)
    (hS : bytesOf S = [98, 121, 116, 101, 115, 61] ++ (digs n hf ++ 45 :: digs m ht)) : parseL S = (n, m, hf, ht, true) := by
  have hz := congrArg List.length hS
  rw [bytesOf_length, List.length_append] at hz
  have h6 : ([98, 121, 116, 101, 115, 61] : List Int).length = 6 := rfl
  unfold parseL
  rw [if_neg (by omega)]
  have hw : wordB S = false := by
    unfold wordB
    rw [bytes_to, hS]
    show ((strOfNums (([98, 121, 116, 101, 115] : List Int).map Low.low)).toList != ([98, 121, 116, 101, 115] : List UInt8)) = false
    decide +kernel
  rw [hw, if_neg Bool.false_ne_true, hS]
  have e5 : (([98, 121, 116, 101, 115, 61] : List Int) ++ (digs n hf ++ 45 :: digs m ht)).drop 5 = 61 :: (digs n hf ++ 45 :: digs m ht) := rfl
  rw [e5]
  have s1 : skipL (61 :: (digs n hf ++ 45 :: digs m ht)) = 61 :: (digs n hf ++ 45 :: digs m ht) := rfl
  have s45 : ∀ r, skipL (45 :: r) = 45 :: r := fun r => rfl
  rw [s1, tailL, if_pos rfl, skip_digs _ _ _ (s45 _)]
  unfold fromL
  rw [num_digs n hf hn hf0 _ rfl]
  have d1 : decide ((45 :: digs m ht).length < (digs n hf ++ 45 :: digs m ht).length) = hf := by
    refine Eq.trans ?_ (digs_len n hf)
    rw [List.length_append]
    by_cases g : 0 < (digs n hf).length
    · rw [decide_eq_true g, decide_eq_true (by omega)]
    · rw [decide_eq_false g, decide_eq_false (by omega)]
  simp only []
  rw [d1, s45, afterNum, if_pos rfl]
  have sm : skipL (digs m ht) = digs m ht := by
    have := skip_digs m ht [] rfl
    rwa [List.append_nil] at this
  have nm : numL (digs m ht) 0 = (m, []) := by
    have := num_digs m ht hm ht0 [] rfl
    rwa [List.append_nil] at this
  rw [sm]
  unfold toL
  rw [nm]
  have d2 : decide (([] : List Int).length < (digs m ht).length) = ht := digs_len m ht
  simp only []
  rw [d2]
  simp only [if_true]
  cases hf <;> cases ht
  · rcases hor with h | h <;> cases h
  · rfl
  · rfl
  · simp only [if_true]
    rw [if_neg (by have := hle rfl rfl; omega)]
end Go.Proofs.YtpgdafckelecjaaDoor.Span
namespace Go.Proofs.YtpgdafckelecjaaDoor.Pure
open Go.RowKit Go.Proofs.YtpgdafckelecjaaDoor.P Go.Proofs.YtpgdafckelecjaaDoor.Pl Go.Proofs.YtpgdafckelecjaaDoor.Span Go.Proofs.YtpgdafckelecjaaDoorW.PrintWords Go.Proofs.YtpgdafckelecjaaDoorW.PrintLast
theorem SpanBack : carryalllaw20_SpanBack.Pure := by
  intro s hs
  obtain ⟨K, hK⟩ : ∃ K : Nat, 1000 ≤ K := ⟨1000, Nat.le_refl _⟩
  refine ⟨K + 1, ?_⟩
  unfold carryalllaw20_SpanBack.f
  rw [awake_at (K + 1) (by omega), Option.bind_some, if_pos rfl]
  by_cases hn : s.size ≤ 300
  · rw [decide_eq_false (by omega), carryalllaw20_SpanBack.j0, if_neg Bool.false_ne_true, parse_f hs (by omega), Option.bind_some]
    rcases ok_parse s with ⟨h1, h2⟩ | ⟨h1, hn', hm', hf0, ht0, hor, hle⟩
    · rw [h2]; rfl
    · obtain ⟨S, fS, bS, zS⟩ := print_f (hf := (parseL s).2.2.1) (ht := (parseL s).2.2.2.1) hn' hm'
      rw [if_pos h1, fS, Option.bind_some, parse_f (by omega) (by omega), Option.bind_some, back hn' hm' hf0 ht0 hor hle bS]
      simp
  · rw [decide_eq_true (by omega), carryalllaw20_SpanBack.j0, if_pos rfl, awake_at K (by omega)]
    rfl
end Go.Proofs.YtpgdafckelecjaaDoor.Pure
