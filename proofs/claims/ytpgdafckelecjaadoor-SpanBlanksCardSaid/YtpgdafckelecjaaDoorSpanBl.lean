/- Blanks around = and around - make no difference; behind all, and ahead of all, they do: the plain law. -/
import Derived.Test.YtpgdafckelecjaaDoorPureSpanBack
namespace Go.Proofs.YtpgdafckelecjaaDoor.Span
open Go.RowKit Go.Proofs.YtpgdafckelecjaaDoor.P Go.Proofs.YtpgdafckelecjaaDoor.Pl Go.Proofs.YtpgdafckelecjaaDoorW.PrintWords Go.Proofs.YtpgdafckelecjaaDoorW.PrintLast
set_option linter.unusedVariables false
def bl (i : Nat) : List Int := if i = 0 then [] else if i = 1 then [32] else if i = 2 then [9] else [32, 32, 9]
theorem skip_bl (i : Nat) (r : List Int) : skipL (bl i ++ r) = skipL r := by
  unfold bl
  split
  · rfl
  · split
    · rfl
    · split <;> rfl
theorem skip_skip : ∀ r : List Int, skipL (skipL r) = skipL r := by
  intro r
  induction r with
  | nil => rfl
  | cons c r ih =>
    unfold skipL at ih ⊢
    cases h : blankB c
    · rw [List.dropWhile_cons, h]
      simp only [Bool.false_eq_true, if_false]
      rw [List.dropWhile_cons, h]
      simp
    · rw [List.dropWhile_cons, h]
      simpa using ih
/-- A text whose first byte is no digit. -/
def NoDig (r : List Int) : Prop := ∀ (n : Int), numL r n = (n, r)
theorem nodig_nil : NoDig [] := fun n => rfl
theorem nodig_cons (c : Int) (r : List Int) (h : digB c = false) : NoDig (c :: r) := fun n => by rw [numL, if_neg (by rw [h]; decide)]
theorem nodig_bl (i : Nat) (r : List Int) (h : NoDig r) : NoDig (bl i ++ r) := by
  unfold bl
  split
  · exact h
  · split
    · exact nodig_cons _ _ (by decide)
    · split
      · exact nodig_cons _ _ (by decide)
      · exact nodig_cons _ _ (by decide)
/-- Behind blanks, a number that may be there. -/
theorem num_part (n : Int) (hf : Bool) (hn : inM n) (h0 : hf = false → n = 0) (i : Nat) (r : List Int) (hr : NoDig r) (hs : hf = false → NoDig (skipL r)) :
    ∃ q, skipL (bl i ++ (digs n hf ++ r)) = q ∧ (numL q 0).1 = n ∧ skipL (numL q 0).2 = skipL r ∧ decide ((numL q 0).2.length < q.length) = hf ∧ (hf = true → (numL q 0).2 = r) ∧ (hf = false → (numL q 0).2 = skipL r) := by
  refine ⟨_, rfl, ?_⟩
  rw [skip_bl]
  cases hf
  · have hq : digs n false ++ r = r := rfl
    rw [hq, hs rfl 0, h0 rfl]
    exact ⟨rfl, skip_skip r, by simp, fun h => absurd h (by decide), fun _ => rfl⟩
  · have hq : digs n true ++ r = decI n.toNat ++ r := rfl
    rw [hq, skip_dec, numL_dec _ _ (by have := hn.2; omega), Int.toNat_of_nonneg hn.1, hr n]
    refine ⟨rfl, rfl, ?_, fun _ => rfl, fun h => absurd h (by decide)⟩
    have := dec_len n.toNat
    simp only [List.length_append]
    exact decide_eq_true (by omega)
def textL (b0 b1 b2 b3 : Nat) (n m : Int) (hf ht : Bool) : List Int := [98, 89, 116, 69, 115] ++ (bl b0 ++ 61 :: (bl b1 ++ (digs n hf ++ (bl b2 ++ 45 :: (bl b3 ++ digs m ht)))))
theorem after45 (b1 b2 : Nat) (n : Int) (hf : Bool) (hn : inM n) (h0 : hf = false → n = 0) (z : List Int) : fromL (skipL (bl b1 ++ (digs n hf ++ (bl b2 ++ 45 :: z)))) = toL n hf (skipL z) := by
  have s45 : skipL (bl b2 ++ 45 :: z) = 45 :: z := by rw [skip_bl]; rfl
  have n45 : NoDig (45 :: z) := nodig_cons _ _ (by decide)
  obtain ⟨q, hq, h1, h2, h3, _⟩ := num_part n hf hn h0 b1 (bl b2 ++ 45 :: z) (nodig_bl b2 _ n45) (fun _ => by rw [s45]; exact n45)
  rw [hq]
  unfold fromL
  rw [h1, h3, h2, s45, afterNum, if_pos rfl]
theorem to_num (b3 : Nat) (m : Int) (ht : Bool) (hm : inM m) (h0 : ht = false → m = 0) (r : List Int) (hr : NoDig r) (hs : skipL r = r) :
    numL (skipL (bl b3 ++ (digs m ht ++ r))) 0 = (m, r) ∧ decide (r.length < (skipL (bl b3 ++ (digs m ht ++ r))).length) = ht := by
  rw [skip_bl, skip_digs m ht r hs, num_digs m ht hm h0 r (hr m)]
  refine ⟨rfl, ?_⟩
  refine Eq.trans ?_ (digs_len m ht)
  rw [List.length_append]
  by_cases g : 0 < (digs m ht).length
  · rw [decide_eq_true g, decide_eq_true (by omega)]
  · rw [decide_eq_false g, decide_eq_false (by omega)]
theorem word_ok {S : ByteArray} {r : List Int} (h : bytesOf S = [98, 89, 116, 69, 115] ++ r) : parseL S = tailL (skipL r) := by
  have hz := congrArg List.length h
  rw [bytesOf_length, List.length_append] at hz
  have h5 : ([98, 89, 116, 69, 115] : List Int).length = 5 := rfl
  unfold parseL
  rw [if_neg (by omega)]
  have hw : wordB S = false := by
    unfold wordB
    rw [bytes_to, h]
    show ((strOfNums (([98, 89, 116, 69, 115] : List Int).map Low.low)).toList != ([98, 121, 116, 101, 115] : List UInt8)) = false
    decide +kernel
  rw [hw, if_neg Bool.false_ne_true, h]
  rfl
theorem text_ok {S : ByteArray} {b0 b1 b2 b3 : Nat} {n m : Int} {hf ht : Bool} (hn : inM n) (hm : inM m) (hf0 : hf = false → n = 0) (ht0 : ht = false → m = 0) (hor : hf = true ∨ ht = true) (hle : hf = true → ht = true → n ≤ m)
    (hS : bytesOf S = textL b0 b1 b2 b3 n m hf ht) : parseL S = (n, m, hf, ht, true) := by
  rw [word_ok hS, skip_bl]
  have s61 : ∀ r, skipL (61 :: r) = 61 :: r := fun r => rfl
  rw [s61, tailL, if_pos rfl, after45 b1 b2 n hf hn hf0]
  have h := to_num b3 m ht hm ht0 [] nodig_nil rfl
  rw [List.append_nil] at h
  unfold toL
  rw [h.1]
  simp only []
  rw [h.2]
  simp only [if_true]
  cases hf <;> cases ht
  · rcases hor with h | h <;> cases h
  · rfl
  · rfl
  · simp only [if_true]
    rw [if_neg (by have := hle rfl rfl; omega)]
theorem text_behind {S : ByteArray} {b0 b1 b2 b3 : Nat} {n m : Int} {hf ht : Bool} (hn : inM n) (hm : inM m) (hf0 : hf = false → n = 0) (ht0 : ht = false → m = 0)
    (hS : bytesOf S = textL b0 b1 b2 b3 n m hf ht ++ [120]) : parseL S = bad := by
  have hS' : bytesOf S = [98, 89, 116, 69, 115] ++ (bl b0 ++ 61 :: (bl b1 ++ (digs n hf ++ (bl b2 ++ 45 :: (bl b3 ++ (digs m ht ++ [120])))))) := by
    rw [hS]
    unfold textL
    simp only [List.append_assoc, List.cons_append]
  rw [word_ok hS', skip_bl]
  have s61 : ∀ r, skipL (61 :: r) = 61 :: r := fun r => rfl
  rw [s61, tailL, if_pos rfl, after45 b1 b2 n hf hn hf0]
  have h := to_num b3 m ht hm ht0 [120] (nodig_cons _ _ (by decide)) rfl
  unfold toL
  rw [h.1]
  rfl
theorem text_ahead {S : ByteArray} {b0 b1 b2 b3 : Nat} {n m : Int} {hf ht : Bool} (hS : bytesOf S = 32 :: textL b0 b1 b2 b3 n m hf ht) : parseL S = bad := by
  have hz := congrArg List.length hS
  rw [bytesOf_length] at hz
  unfold textL at hz hS
  simp only [List.length_cons, List.length_append] at hz
  unfold parseL
  rw [if_neg (by simp at hz; omega)]
  have hw : wordB S = true := by
    unfold wordB
    rw [bytes_to, hS]
    show ((strOfNums (([32, 98, 89, 116, 69] : List Int).map Low.low)).toList != ([98, 121, 116, 101, 115] : List UInt8)) = true
    decide +kernel
  rw [hw, if_pos rfl]
end Go.Proofs.YtpgdafckelecjaaDoor.Span
