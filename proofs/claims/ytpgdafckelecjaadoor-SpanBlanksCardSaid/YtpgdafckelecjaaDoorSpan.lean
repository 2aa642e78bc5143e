/- What span's and its reference's printed readers compute, told by one function over lists of bytes. -/
import Derived.Test.YtpgdafckelecjaaDoorPx2
import Derived.Test.YtpgdafckelecjaaDoorPx3
import Derived.Test.YtpgdafckelecjaaDoorPx4
import Derived.Test.YtpgdafckelecjaaDoorPx5
import Derived.Test.YtpgdafckelecjaaDoorPl
namespace Go.Proofs.YtpgdafckelecjaaDoor.Span
open Go.RowKit Go.Proofs.YtpgdafckelecjaaDoor.P Go.Proofs.YtpgdafckelecjaaDoor.Pl Go.Proofs.YtpgdafckelecjaaDoorW.PrintWords Go.Proofs.YtpgdafckelecjaaDoorW.PrintLast Go.Proofs.YtpgdafckelecjaaDoorW.PrintMore

def blankB (c : Int) : Bool := c == 32 || c == 9
def skipL (l : List Int) : List Int := l.dropWhile blankB
def digB (c : Int) : Bool := decide (48 ≤ c) && decide (c ≤ 57)
def step (n c : Int) : Int := if n > (4611686018427387904 - (c - 48)) / 10 then 4611686018427387904 else n * 10 + (c - 48)
def numL : List Int → Int → Int × List Int
  | [], n => (n, [])
  | c :: t, n => if digB c = true then numL t (step n c) else (n, c :: t)
def inM (n : Int) : Prop := 0 ≤ n ∧ n ≤ 4611686018427387904
theorem digB_true {c : Int} (h : digB c = true) : 48 ≤ c ∧ c ≤ 57 := by simpa [digB] using h
theorem step_in {n c : Int} (h : inM n) (hc : digB c = true) : inM (step n c) := by
  obtain ⟨h0, h1⟩ := h
  obtain ⟨c0, c1⟩ := digB_true hc
  unfold step inM
  split <;> omega
theorem numL_in : ∀ (l : List Int) (n : Int), inM n → inM (numL l n).1
  | [], n, h => h
  | c :: t, n, h => by
    rw [numL]
    split
    · exact numL_in t _ (step_in h (by assumption))
    · exact h
theorem numL_suffix : ∀ (l : List Int) (n : Int), ∃ p, l = p ++ (numL l n).2
  | [], n => ⟨[], rfl⟩
  | c :: t, n => by
    rw [numL]
    split
    · obtain ⟨p, hp⟩ := numL_suffix t (step n c)
      exact ⟨c :: p, by rw [List.cons_append, ← hp]⟩
    · exact ⟨[], rfl⟩
theorem skipL_suffix (l : List Int) : ∃ p, l = p ++ skipL l := ⟨l.takeWhile blankB, by unfold skipL; exact (List.takeWhile_append_dropWhile).symm⟩
theorem suffix_drop {l p r : List Int} (h : l = p ++ r) : l.drop (l.length - r.length) = r := by
  have hl := congrArg List.length h
  rw [List.length_append] at hl
  rw [show l.length - r.length = p.length by omega, h, List.drop_left]
theorem suffix_len {l p r : List Int} (h : l = p ++ r) : r.length ≤ l.length := by
  have hl := congrArg List.length h
  rw [List.length_append] at hl
  omega
theorem skipL_len (l : List Int) : (skipL l).length ≤ l.length := let ⟨_, h⟩ := skipL_suffix l; suffix_len h
theorem numL_len (l : List Int) (n : Int) : (numL l n).2.length ≤ l.length := let ⟨_, h⟩ := numL_suffix l n; suffix_len h
theorem dig_f (c : Int) : utf_Digit.f c = some (digB c) := by
  unfold utf_Digit.f digB
  by_cases h : c ≥ 48
  · rw [if_pos h, decide_eq_true (show 48 ≤ c from h), Bool.true_and]
  · rw [if_neg h, decide_eq_false (show ¬ 48 ≤ c from h), Bool.false_and]
theorem dig_ref (c : Int) : carryallref01_Digit.f c = some (digB c) := by
  unfold carryallref01_Digit.f digB
  by_cases h : c ≥ 48
  · rw [if_pos h, decide_eq_true (show 48 ≤ c from h), Bool.true_and]
  · rw [if_neg h, decide_eq_false (show ¬ 48 ≤ c from h), Bool.false_and]
theorem len_drop (s : ByteArray) (i : Nat) : ((bytesOf s).drop i).length = s.size - i := by rw [List.length_drop, bytesOf_length]

/-! span.number -/
theorem num_l0 (s : ByteArray) (hs : s.size ≤ 140737488355328) : ∀ (d i : Nat) (n : Int) (k : Nat), s.size - i = d → i ≤ s.size → 2 * d + 2 ≤ k → inM n →
    span_number.l0 k s n (i : Int) = some ((numL ((bytesOf s).drop i) n).1, decide (((s.size - (numL ((bytesOf s).drop i) n).2.length : Nat) : Int) > 0), s.extract (s.size - (numL ((bytesOf s).drop i) n).2.length) s.size) := by
  intro d
  induction d with
  | zero =>
    intro i n k hd hi hk hn
    obtain ⟨k, rfl⟩ : ∃ j, k = j + 2 := ⟨k - 2, by omega⟩
    rw [span_number.l0, if_neg (by omega), span_number.j1, if_neg Bool.false_ne_true, if_pos (by omega), if_pos (by omega), drop_end s i (by omega)]
    have e : s.size = i := by omega
    simp [numL, e]
  | succ d ih =>
    intro i n k hd hi hk hn
    obtain ⟨k, rfl⟩ : ∃ j, k = j + 2 := ⟨k - 2, by omega⟩
    have hw : wrap64 ((i : Int) + 1) = ((i + 1 : Nat) : Int) := by rw [wrap_in (by omega) (by omega)]; omega
    rw [span_number.l0, if_pos (by omega), if_pos (by omega), dig_f, Option.bind_some, span_number.j1, hw, drop_bt s i (by omega), numL]
    cases hc : digB (bt s (i : Int)) with
    | true =>
      obtain ⟨c0, c1⟩ := digB_true hc
      obtain ⟨n0, n1⟩ := hn
      have hm : (bt s (i : Int) - 48) % 256 = bt s (i : Int) - 48 := by omega
      rw [if_pos rfl, if_pos rfl, if_pos (by omega), if_pos (by omega), hm]
      have IH := ih (i + 1) (step n (bt s (i : Int))) k (by omega) (by omega) (by omega) (step_in ⟨n0, n1⟩ hc)
      rw [← IH]
      unfold step
      by_cases hg : n > (4611686018427387904 - (bt s (i : Int) - 48)) / 10
      · rw [if_pos hg, if_pos hg]
      · rw [if_neg hg, if_neg hg, wrap_in (n := n * 10) (by omega) (by omega), wrap_in (by omega) (by omega)]
    | false =>
      rw [if_neg Bool.false_ne_true, if_neg Bool.false_ne_true, if_pos (by omega), if_pos (by omega)]
      have e : s.size - (bt s (i : Int) :: (bytesOf s).drop (i + 1)).length = i := by rw [List.length_cons, len_drop]; omega
      rw [e]
      simp
theorem num_f {s : ByteArray} (hs : s.size ≤ 140737488355328) {k : Nat} (hk : 2 * s.size + 2 ≤ k) :
    ∃ S, span_number.f k s = some ((numL (bytesOf s) 0).1, decide ((numL (bytesOf s) 0).2.length < (bytesOf s).length), S) ∧ bytesOf S = (numL (bytesOf s) 0).2 ∧ S.size ≤ s.size := by
  have h := num_l0 s hs s.size 0 0 k (by omega) (by omega) (by omega) ⟨by omega, by omega⟩
  rw [List.drop_zero] at h
  obtain ⟨p, hp⟩ := numL_suffix (bytesOf s) 0
  have hl := numL_len (bytesOf s) 0
  have e := bytesOf_length s
  have hb : bytesOf (s.extract (s.size - (numL (bytesOf s) 0).2.length) s.size) = (numL (bytesOf s) 0).2 := by
    rw [bytes_from, ← e]; exact suffix_drop hp
  refine ⟨_, ?_, hb, ?_⟩
  · refine h.trans ?_
    have : decide (((s.size - (numL (bytesOf s) 0).2.length : Nat) : Int) > 0) = decide ((numL (bytesOf s) 0).2.length < (bytesOf s).length) := by
      rw [e]
      by_cases g : (numL (bytesOf s) 0).2.length < s.size
      · rw [decide_eq_true g, decide_eq_true (by omega)]
      · rw [decide_eq_false g, decide_eq_false (by omega)]
    rw [this]
  · have := congrArg List.length hb
    rw [bytesOf_length] at this
    omega

/-! the reference's number, skip -/
theorem rnum_l0 (s : ByteArray) (hs : s.size ≤ 140737488355328) : ∀ (d i : Nat) (n : Int) (k : Nat), s.size - i = d → i ≤ s.size → 2 * d + 2 ≤ k → inM n →
    carryallref20_number.l0 k s (i : Int) n = some ((numL ((bytesOf s).drop i) n).1, ((s.size - (numL ((bytesOf s).drop i) n).2.length : Nat) : Int)) := by
  intro d
  induction d with
  | zero =>
    intro i n k hd hi hk hn
    obtain ⟨k, rfl⟩ : ∃ j, k = j + 2 := ⟨k - 2, by omega⟩
    rw [carryallref20_number.l0, if_neg (by omega), carryallref20_number.j1, if_neg Bool.false_ne_true, drop_end s i (by omega)]
    have e : s.size = i := by omega
    simp [numL, e]
  | succ d ih =>
    intro i n k hd hi hk hn
    obtain ⟨k, rfl⟩ : ∃ j, k = j + 2 := ⟨k - 2, by omega⟩
    have hw : wrap64 ((i : Int) + 1) = ((i + 1 : Nat) : Int) := by rw [wrap_in (by omega) (by omega)]; omega
    rw [carryallref20_number.l0, if_pos (by omega), if_pos (by omega), dig_ref, Option.bind_some, carryallref20_number.j1, hw, drop_bt s i (by omega), numL]
    cases hc : digB (bt s (i : Int)) with
    | true =>
      obtain ⟨c0, c1⟩ := digB_true hc
      obtain ⟨n0, n1⟩ := hn
      have hm : (bt s (i : Int) - 48) % 256 = bt s (i : Int) - 48 := by omega
      rw [if_pos rfl, if_pos rfl, if_pos (by omega), if_pos (by omega), hm]
      have IH := ih (i + 1) (step n (bt s (i : Int))) k (by omega) (by omega) (by omega) (step_in ⟨n0, n1⟩ hc)
      rw [← IH]
      unfold step
      by_cases hg : n > 461168601842738790
      · rw [if_pos hg, if_pos (by omega)]
      · rw [if_neg hg, wrap_in (n := 10 * n) (by omega) (by omega)]
        by_cases hg2 : 10 * n > 4611686018427387904 - (bt s (i : Int) - 48)
        · rw [if_pos hg2, if_pos (by omega)]
        · rw [if_neg hg2, if_neg (by omega), wrap_in (by omega) (by omega), Int.mul_comm]
    | false =>
      rw [if_neg Bool.false_ne_true, if_neg Bool.false_ne_true]
      have e : s.size - (bt s (i : Int) :: (bytesOf s).drop (i + 1)).length = i := by rw [List.length_cons, len_drop]; omega
      rw [e]
theorem rskip_l0 (s : ByteArray) (hs : s.size ≤ 140737488355328) : ∀ (d i : Nat) (k : Nat), s.size - i = d → i ≤ s.size → d + 1 ≤ k →
    carryallref20_skip.l0 k s (i : Int) = some ((s.size - (skipL ((bytesOf s).drop i)).length : Nat) : Int) := by
  intro d
  induction d with
  | zero =>
    intro i k hd hi hk
    obtain ⟨k, rfl⟩ : ∃ j, k = j + 1 := ⟨k - 1, by omega⟩
    rw [carryallref20_skip.l0, if_neg (by omega), drop_end s i (by omega)]
    have e : s.size = i := by omega
    simp [skipL, e]
  | succ d ih =>
    intro i k hd hi hk
    obtain ⟨k, rfl⟩ : ∃ j, k = j + 1 := ⟨k - 1, by omega⟩
    have hw : wrap64 ((i : Int) + 1) = ((i + 1 : Nat) : Int) := by rw [wrap_in (by omega) (by omega)]; omega
    have IH := ih (i + 1) k (by omega) (by omega) (by omega)
    rw [carryallref20_skip.l0, if_pos (by omega), if_pos (by omega), hw, IH, drop_bt s i (by omega)]
    unfold skipL
    by_cases h : blankB (bt s (i : Int)) = true
    · rw [List.dropWhile_cons_of_pos h]
      have h' : bt s (i : Int) = 32 ∨ bt s (i : Int) = 9 := by simpa [blankB] using h
      rcases h' with h' | h'
      · rw [if_pos h']
      · rw [if_neg (by omega), if_pos h']
    · rw [List.dropWhile_cons_of_neg h]
      have h' : ¬ (bt s (i : Int) = 32 ∨ bt s (i : Int) = 9) := by simpa [blankB] using h
      rw [if_neg (fun e => h' (.inl e)), if_neg (fun e => h' (.inr e))]
      have e : s.size - (bt s (i : Int) :: (bytesOf s).drop (i + 1)).length = i := by rw [List.length_cons, len_drop]; omega
      rw [e]

/-! span.skip, the cuts -/
theorem bytes_mk (l : List UInt8) : bytesOf (⟨l.toArray⟩ : ByteArray) = l.map fun b => (b.toNat : Int) := by simp [bytesOf]
theorem dw_map (l : List UInt8) : (l.dropWhile (([9, 32] : List UInt8).contains ·)).map (fun b => (b.toNat : Int)) = skipL (l.map fun b => (b.toNat : Int)) := by
  unfold skipL
  induction l with
  | nil => rfl
  | cons b l ih =>
    have hb : (([9, 32] : List UInt8).contains b) = blankB (b.toNat : Int) := by
      have : ∀ n : Nat, n < 256 → (([9, 32] : List UInt8).contains (UInt8.ofNat n)) = blankB (n : Int) := by decide +kernel
      have h2 := this b.toNat b.toNat_lt
      rwa [UInt8.ofNat_toNat] at h2
    rw [List.map_cons]
    cases h : blankB (b.toNat : Int)
    · rw [List.dropWhile_cons_of_neg (by rw [hb, h]; simp), List.dropWhile_cons_of_neg (by rw [h]; simp), List.map_cons]
    · rw [List.dropWhile_cons_of_pos (by rw [hb, h]), List.dropWhile_cons_of_pos h, ih]
theorem skip_f (s : ByteArray) : ∃ S, span_skip.f s = some S ∧ bytesOf S = skipL (bytesOf s) ∧ S.size ≤ s.size := by
  refine ⟨⟨(Lib.trimLeftS s.data.toList [9, 32]).toArray⟩, ?_, ?_⟩
  · unfold span_skip.f strings_TrimLeft.f
    rw [if_pos ⟨by decide, by decide⟩]
    rfl
  · have e : bytesOf (⟨(Lib.trimLeftS s.data.toList [9, 32]).toArray⟩ : ByteArray) = skipL (bytesOf s) := by
      rw [bytes_mk]; exact dw_map _
    refine ⟨e, ?_⟩
    have h1 := congrArg List.length e
    have h2 := skipL_len (bytesOf s)
    rw [bytesOf_length] at h1 h2
    omega
theorem cut_yes {s p : ByteArray} {c : UInt8} {r : List Int} (hp : p.data.toList = [c]) (h : bytesOf s = (c.toNat : Int) :: r) : ∃ S, strings_CutPrefix.f s p = some (S, true) ∧ bytesOf S = r ∧ S.size + 1 = s.size := by
  unfold strings_CutPrefix.f
  rw [hp]
  cases hl : s.data.toList with
  | nil =>
    have : bytesOf s = [] := by unfold bytesOf; rw [hl]; rfl
    rw [this] at h; cases h
  | cons b t =>
    have e : bytesOf s = (b.toNat : Int) :: t.map (fun b => (b.toNat : Int)) := by unfold bytesOf; rw [hl]; rfl
    rw [e] at h
    have hbc : b = c := UInt8.toNat_inj.1 (Int.ofNat.inj (List.cons.inj h).1)
    subst hbc
    refine ⟨⟨t.toArray⟩, ?_, ?_, ?_⟩
    · simp [Lib.trimPrefix, Lib.hasPrefix]
    · rw [bytes_mk]; exact (List.cons.inj h).2
    · have h1 := bytesOf_length s
      rw [e] at h1
      have h2 : (⟨t.toArray⟩ : ByteArray).size = t.length := by show t.toArray.size = _; simp
      rw [List.length_cons, List.length_map] at h1
      omega
theorem cut_no {s p : ByteArray} {c : UInt8} (hp : p.data.toList = [c]) (h : ∀ r, bytesOf s ≠ (c.toNat : Int) :: r) : ∃ S, strings_CutPrefix.f s p = some (S, false) := by
  unfold strings_CutPrefix.f
  rw [hp]
  refine ⟨⟨(Lib.trimPrefix s.data.toList [c]).toArray⟩, ?_⟩
  have : Lib.hasPrefix s.data.toList [c] = false := by
    cases hl : s.data.toList with
    | nil => rfl
    | cons b t =>
      have e : bytesOf s = (b.toNat : Int) :: t.map (fun b => (b.toNat : Int)) := by unfold bytesOf; rw [hl]; rfl
      have hbc : c ≠ b := fun hh => by subst hh; exact h _ e
      show [c].isPrefixOf (b :: t) = false
      simp only [List.isPrefixOf, Bool.and_true]
      exact beq_false_of_ne hbc
  rw [this]

/-! lower, of the reference -/
theorem low_l0 (s : ByteArray) (hs : s.size ≤ 1000) : ∀ (d i : Nat) (acc : List Int) (k : Nat), s.size - i = d → i ≤ s.size → d + 1 ≤ k → acc.length ≤ i →
    carryallref01_Lower.l0 k s acc (s.size : Int) (i : Int) = some (strOfNums (acc ++ ((bytesOf s).drop i).map Low.low)) := by
  intro d
  induction d with
  | zero =>
    intro i acc k hd hi hk ha
    obtain ⟨k, rfl⟩ : ∃ j, k = j + 1 := ⟨k - 1, by omega⟩
    rw [carryallref01_Lower.l0, if_neg (by omega), drop_end s i (by omega)]
    simp
  | succ d ih =>
    intro i acc k hd hi hk ha
    obtain ⟨k, rfl⟩ : ∃ j, k = j + 1 := ⟨k - 1, by omega⟩
    have hw : wrap64 ((i : Int) + 1) = ((i + 1 : Nat) : Int) := by rw [wrap_in (by omega) (by omega)]; omega
    have IH := ih (i + 1) (acc ++ [Low.low (bt s (i : Int))]) k (by omega) (by omega) (by omega) (by rw [List.length_append, List.length_singleton]; omega)
    rw [List.append_assoc, List.singleton_append] at IH
    rw [carryallref01_Lower.l0, if_pos (by omega), if_pos (by omega), if_pos (by omega), drop_bt s i (by omega), List.map_cons, ← IH, hw]
    unfold Low.low
    by_cases h1 : bt s (i : Int) ≥ 65
    · rw [if_pos h1]
      by_cases h2 : bt s (i : Int) ≤ 90
      · rw [if_pos h2, if_pos (by omega), if_pos ⟨h1, h2⟩, show (bt s (i : Int) + 32) % 256 = bt s (i : Int) + 32 by omega]
      · rw [if_neg h2, if_pos (by omega), if_neg (fun e => h2 e.2)]
    · rw [if_neg h1, if_pos (by omega), if_neg (fun e => h1 e.1)]

/-! both readers -/
abbrev R := Int × Int × Bool × Bool × Bool
def bad : R := (0, 0, false, false, false)
def toL (n : Int) (hf : Bool) (r7 : List Int) : R :=
  if (numL r7 0).2 = [] then
    (if hf = true then
      (if decide ((numL r7 0).2.length < r7.length) = true then (if n > (numL r7 0).1 then bad else (n, (numL r7 0).1, hf, decide ((numL r7 0).2.length < r7.length), true))
       else (n, (numL r7 0).1, hf, decide ((numL r7 0).2.length < r7.length), true))
     else (if decide ((numL r7 0).2.length < r7.length) = true then (n, (numL r7 0).1, hf, decide ((numL r7 0).2.length < r7.length), true) else bad))
  else bad
def afterNum (n : Int) (hf : Bool) : List Int → R
  | [] => bad
  | c :: r => if c = 45 then toL n hf (skipL r) else bad
def fromL (r3 : List Int) : R := afterNum (numL r3 0).1 (decide ((numL r3 0).2.length < r3.length)) (skipL (numL r3 0).2)
def tailL : List Int → R
  | [] => bad
  | c :: r => if c = 61 then fromL (skipL r) else bad
def wordB (s : ByteArray) : Bool := (strOfNums ((bytesOf (s.extract 0 5)).map Low.low)).toList != ([98, 121, 116, 101, 115] : List UInt8)
def parseL (s : ByteArray) : R := if (s.size : Int) < 5 then bad else if wordB s = true then bad else tailL (skipL ((bytesOf s).drop 5))

theorem head_ne {l : List Int} {c : UInt8} {x : Int} {r : List Int} (h : l = x :: r) (hx : x ≠ (c.toNat : Int)) : ∀ r', l ≠ (c.toNat : Int) :: r' := by
  intro r' e
  rw [h] at e
  exact hx (List.cons.inj e).1

theorem parse_f {s : ByteArray} (hs : s.size ≤ 140737488351232) {k : Nat} (hk : 2 * s.size + 3 ≤ k) : span_Parse.f k s = some (parseL s) := by
  obtain ⟨k, rfl⟩ : ∃ j, k = j + 1 := ⟨k - 1, by omega⟩
  unfold span_Parse.f parseL
  by_cases h5 : (s.size : Int) < 5
  · rw [if_pos h5, if_pos h5, span_Parse.j0, if_pos rfl]; rfl
  · rw [if_neg h5, if_neg h5, if_pos (by omega), if_pos (by omega)]
    have hx : (s.extract 0 5).size ≤ s.size := by rw [ByteArray.size_extract]; omega
    have hl : utf_Lower.f (s.extract 0 5) = some (strOfNums ((bytesOf (s.extract 0 5)).map Low.low)) := by
      unfold utf_Lower.f
      rw [if_pos (by omega)]
    rw [hl, Option.bind_some]
    show span_Parse.j0 (k + 1) s (wordB s) = _
    cases hw : wordB s with
    | true => rw [span_Parse.j0, if_pos rfl, if_pos rfl]; rfl
    | false =>
      rw [span_Parse.j0, if_neg Bool.false_ne_true, if_neg Bool.false_ne_true, if_pos (by omega)]
      have e0 : bytesOf (s.extract 5 s.size) = (bytesOf s).drop 5 := bytes_from s 5
      have z0 : (s.extract 5 s.size).size ≤ s.size := by rw [ByteArray.size_extract]; omega
      obtain ⟨S1, f1, b1, z1⟩ := skip_f (s.extract 5 s.size)
      rw [f1, Option.bind_some]
      rw [e0] at b1
      cases hr1 : skipL ((bytesOf s).drop 5) with
      | nil =>
        obtain ⟨S2, f2⟩ := cut_no (s := S1) (p := (⟨#[61]⟩ : ByteArray)) (c := 61) rfl (fun r => by rw [b1, hr1]; exact (fun e => nomatch e))
        rw [f2, Option.bind_some]
        rfl
      | cons c r2 =>
        rw [hr1] at b1
        by_cases hc : c = 61
        · subst hc
          obtain ⟨S2, f2, b2, z2⟩ := cut_yes (s := S1) (p := (⟨#[61]⟩ : ByteArray)) (c := 61) rfl b1
          rw [f2, Option.bind_some]
          simp only [if_true, tailL]
          obtain ⟨S3, f3, b3, z3⟩ := skip_f S2
          rw [f3, Option.bind_some]
          obtain ⟨S4, f4, b4, z4⟩ := num_f (s := S3) (k := k) (by omega) (by omega)
          rw [f4, Option.bind_some]
          rw [b2] at b3
          rw [b3] at b4 f4 ⊢
          unfold fromL
          obtain ⟨S5, f5, b5, z5⟩ := skip_f S4
          simp only []
          rw [f5, Option.bind_some]
          rw [b4] at b5
          cases hr5 : skipL (numL (skipL r2) 0).2 with
          | nil =>
            obtain ⟨S6, f6⟩ := cut_no (s := S5) (p := (⟨#[45]⟩ : ByteArray)) (c := 45) rfl (fun r => by rw [b5, hr5]; exact (fun e => nomatch e))
            rw [f6, Option.bind_some]
            rfl
          | cons c r6 =>
            rw [hr5] at b5
            by_cases hc : c = 45
            · subst hc
              obtain ⟨S6, f6, b6, z6⟩ := cut_yes (s := S5) (p := (⟨#[45]⟩ : ByteArray)) (c := 45) rfl b5
              rw [f6, Option.bind_some]
              simp only [if_true, afterNum]
              obtain ⟨S7, f7, b7, z7⟩ := skip_f S6
              rw [f7, Option.bind_some]
              obtain ⟨S8, f8, b8, z8⟩ := num_f (s := S7) (k := k) (by omega) (by omega)
              rw [f8, Option.bind_some]
              rw [b6] at b7
              rw [b7] at b8 f8 ⊢
              have hnil : S8.toList = ([] : List UInt8) ↔ (numL (skipL r6) 0).2 = [] := by
                rw [← b8, ByteArray.toList_eq]
                unfold bytesOf
                rw [List.map_eq_nil_iff]
              unfold toL
              simp only [hnil]
              repeat' split
              all_goals first | rfl | (exfalso; omega)
            · obtain ⟨S6, f6⟩ := cut_no (s := S5) (p := (⟨#[45]⟩ : ByteArray)) (c := 45) rfl (head_ne b5 hc)
              rw [f6, Option.bind_some]
              simp only [afterNum, if_neg hc, Bool.false_eq_true, if_false]
              rfl
        · obtain ⟨S2, f2⟩ := cut_no (s := S1) (p := (⟨#[61]⟩ : ByteArray)) (c := 61) rfl (head_ne b1 hc)
          rw [f2, Option.bind_some]
          simp only [tailL, if_neg hc, Bool.false_eq_true, if_false]
          rfl

/-- A place in s whose rest is r. -/
theorem at_suffix {s : ByteArray} {p r : List Int} (h : bytesOf s = p ++ r) : (bytesOf s).drop (s.size - r.length) = r := by
  rw [← bytesOf_length s]; exact suffix_drop h
theorem drop_suffix (s : ByteArray) (i : Nat) {p r : List Int} (h : (bytesOf s).drop i = p ++ r) : ∃ q, bytesOf s = q ++ r := ⟨(bytesOf s).take i ++ p, by rw [List.append_assoc, ← h, List.take_append_drop]⟩

theorem rparse_j2 {s : ByteArray} (hs : s.size ≤ 140737488351232) (k : Nat) (hk : 2 * s.size + 3 ≤ k) (a : Nat) (c : Int) (r6 : List Int) (ha : (bytesOf s).drop a = c :: r6) (n : Int) (hf : Bool) :
    carryallref20_Parse.j2 k s (a : Int) (c != 45) n 0 hf false = some (if c = 45 then toL n hf (skipL r6) else bad) := by
  obtain ⟨k, rfl⟩ : ∃ j, k = j + 1 := ⟨k - 1, by omega⟩
  have hlen := congrArg List.length ha
  rw [len_drop, List.length_cons] at hlen
  by_cases hc : c = 45
  · subst hc
    have hd : (bytesOf s).drop (a + 1) = r6 := by
      have := congrArg (List.drop 1) ha
      rw [List.drop_drop] at this
      exact this
    have hw : wrap64 ((a : Int) + 1) = ((a + 1 : Nat) : Int) := by rw [wrap_in (by omega) (by omega)]; omega
    rw [carryallref20_Parse.j2, if_neg (by simp), hw, carryallref20_skip.f, rskip_l0 s (by omega) _ (a + 1) k rfl (by omega) (by omega), Option.bind_some, hd]
    obtain ⟨p, hp⟩ := skipL_suffix r6
    obtain ⟨q, hq⟩ := drop_suffix s (a + 1) (hd.trans hp)
    have h7 := at_suffix hq
    have hl7 : (skipL r6).length ≤ s.size := by have := skipL_len r6; omega
    rw [carryallref20_number.f, rnum_l0 s (by omega) _ (s.size - (skipL r6).length) 0 k rfl (by omega) (by omega) ⟨by omega, by omega⟩, Option.bind_some, h7]
    have hl8 := numL_len (skipL r6) 0
    unfold toL
    have hn0 : ((s.size - (numL (skipL r6) 0).2.length : Nat) : Int) = (s.size : Int) ↔ (numL (skipL r6) 0).2 = [] := by
      constructor
      · intro h; exact List.eq_nil_of_length_eq_zero (by omega)
      · intro h; rw [h]; simp
    have hgt : ((s.size - (numL (skipL r6) 0).2.length : Nat) : Int) > ((s.size - (skipL r6).length : Nat) : Int) ↔ (numL (skipL r6) 0).2.length < (skipL r6).length := by omega
    simp only [hn0, hgt, if_pos, decide_eq_true_eq]
    repeat' split
    all_goals first | rfl | (exfalso; omega)
  · rw [carryallref20_Parse.j2, if_pos (by simpa using hc), if_neg hc]; rfl

theorem rparse_j1 {s : ByteArray} (hs : s.size ≤ 140737488351232) (k : Nat) (hk : 2 * s.size + 4 ≤ k) (a : Nat) (c : Int) (r2 : List Int) (ha : (bytesOf s).drop a = c :: r2) :
    carryallref20_Parse.j1 k s (a : Int) (c != 61) = some (if c = 61 then fromL (skipL r2) else bad) := by
  obtain ⟨k, rfl⟩ : ∃ j, k = j + 1 := ⟨k - 1, by omega⟩
  have hlen := congrArg List.length ha
  rw [len_drop, List.length_cons] at hlen
  by_cases hc : c = 61
  · subst hc
    have hd : (bytesOf s).drop (a + 1) = r2 := by
      have := congrArg (List.drop 1) ha
      rw [List.drop_drop] at this
      exact this
    have hw : wrap64 ((a : Int) + 1) = ((a + 1 : Nat) : Int) := by rw [wrap_in (by omega) (by omega)]; omega
    rw [carryallref20_Parse.j1, if_neg (by simp), if_pos rfl, hw, carryallref20_skip.f, rskip_l0 s (by omega) _ (a + 1) k rfl (by omega) (by omega), Option.bind_some, hd]
    obtain ⟨p, hp⟩ := skipL_suffix r2
    obtain ⟨q, hq⟩ := drop_suffix s (a + 1) (hd.trans hp)
    have h3 := at_suffix hq
    have hl3 : (skipL r2).length ≤ s.size := by have := skipL_len r2; omega
    rw [carryallref20_number.f, rnum_l0 s (by omega) _ (s.size - (skipL r2).length) 0 k rfl (by omega) (by omega) ⟨by omega, by omega⟩, Option.bind_some, h3]
    have hl4 := numL_len (skipL r2) 0
    obtain ⟨p2, hp2⟩ := numL_suffix (skipL r2) 0
    obtain ⟨q2, hq2⟩ := drop_suffix s (s.size - (skipL r2).length) (h3.trans hp2)
    have h4 := at_suffix hq2
    simp only []
    rw [carryallref20_skip.f, rskip_l0 s (by omega) _ (s.size - (numL (skipL r2) 0).2.length) k rfl (by omega) (by omega), Option.bind_some, h4]
    obtain ⟨p3, hp3⟩ := skipL_suffix (numL (skipL r2) 0).2
    obtain ⟨q3, hq3⟩ := drop_suffix s (s.size - (numL (skipL r2) 0).2.length) (h4.trans hp3)
    have h5 := at_suffix hq3
    have hl5 := skipL_len (numL (skipL r2) 0).2
    have hgt : decide (((s.size - (numL (skipL r2) 0).2.length : Nat) : Int) > ((s.size - (skipL r2).length : Nat) : Int)) = decide ((numL (skipL r2) 0).2.length < (skipL r2).length) := by
      by_cases g : (numL (skipL r2) 0).2.length < (skipL r2).length
      · rw [decide_eq_true g, decide_eq_true (by omega)]
      · rw [decide_eq_false g, decide_eq_false (by omega)]
    rw [hgt]
    unfold fromL
    cases hr5 : skipL (numL (skipL r2) 0).2 with
    | nil =>
      rw [if_pos (by simp)]
      obtain ⟨k, rfl⟩ : ∃ j, k = j + 1 := ⟨k - 1, by omega⟩
      rw [carryallref20_Parse.j2, if_pos rfl]; rfl
    | cons c r6 =>
      rw [hr5] at h5 hl5
      rw [List.length_cons] at hl5
      rw [if_neg (by rw [List.length_cons]; omega), if_pos (by omega), if_pos (by rw [List.length_cons]; omega)]
      have hb : bt s ((s.size - (c :: r6).length : Nat) : Int) = c := by
        have := drop_bt s (s.size - (c :: r6).length) (by rw [List.length_cons]; omega)
        rw [h5] at this
        exact (List.cons.inj this).1.symm
      rw [hb, rparse_j2 hs k (by omega) _ c r6 h5]
      rfl
  · rw [carryallref20_Parse.j1, if_pos (by simpa using hc), if_neg hc]; rfl

theorem rparse_f {s : ByteArray} (hs : s.size ≤ 140737488351232) {k : Nat} (hk : 2 * s.size + 10 ≤ k) : carryallref20_Parse.f k s = some (parseL s) := by
  obtain ⟨k, rfl⟩ : ∃ j, k = j + 1 := ⟨k - 1, by omega⟩
  unfold carryallref20_Parse.f parseL
  by_cases h5 : (s.size : Int) < 5
  · rw [if_pos h5, if_pos h5, carryallref20_Parse.j0, if_pos rfl]; rfl
  · rw [if_neg h5, if_neg h5, if_pos (by omega), if_pos (by omega)]
    have hx : (s.extract 0 5).size ≤ 5 := by rw [ByteArray.size_extract]; omega
    have hl : carryallref01_Lower.f (k + 1) (s.extract 0 5) = some (strOfNums ((bytesOf (s.extract 0 5)).map Low.low)) := by
      unfold carryallref01_Lower.f
      have := low_l0 (s.extract 0 5) (by omega) _ 0 [] (k + 1) rfl (by omega) (by omega) (by simp)
      rw [List.nil_append, List.drop_zero] at this
      exact this
    rw [hl, Option.bind_some]
    show carryallref20_Parse.j0 (k + 1) s (wordB s) = _
    cases hw : wordB s with
    | true => rw [carryallref20_Parse.j0, if_pos rfl, if_pos rfl]; rfl
    | false =>
      have r5 := rskip_l0 s (by omega) _ 5 k rfl (by omega) (by omega)
      rw [carryallref20_Parse.j0, if_neg Bool.false_ne_true, if_neg Bool.false_ne_true, carryallref20_skip.f]
      rw [show ((5 : Nat) : Int) = 5 from rfl] at r5
      rw [r5, Option.bind_some]
      obtain ⟨p, hp⟩ := skipL_suffix ((bytesOf s).drop 5)
      obtain ⟨q, hq⟩ := drop_suffix s 5 hp
      have h1 := at_suffix hq
      have hl1 := skipL_len ((bytesOf s).drop 5)
      rw [len_drop] at hl1
      cases hr : skipL ((bytesOf s).drop 5) with
      | nil =>
        rw [if_pos (by simp)]
        obtain ⟨k, rfl⟩ : ∃ j, k = j + 1 := ⟨k - 1, by omega⟩
        rw [carryallref20_Parse.j1, if_pos rfl]; rfl
      | cons c r2 =>
        rw [hr] at h1 hl1
        rw [List.length_cons] at hl1
        rw [if_neg (by rw [List.length_cons]; omega), if_pos (by omega), if_pos (by rw [List.length_cons]; omega)]
        have hb : bt s ((s.size - (c :: r2).length : Nat) : Int) = c := by
          have := drop_bt s (s.size - (c :: r2).length) (by rw [List.length_cons]; omega)
          rw [h1] at this
          exact (List.cons.inj this).1.symm
        rw [hb, rparse_j1 hs k (by omega) _ c r2 h1]
        rfl
end Go.Proofs.YtpgdafckelecjaaDoor.Span
