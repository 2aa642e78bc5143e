/- Quoted and Quote, of the program and of its reference, in plain lists. -/
import Derived.Test.YtflhnhjbbddgmaaDoorPx1
import Derived.Test.YtflhnhjbbddgmaaDoorPx2
import Derived.Test.YtflhnhjbbddgmaaDoorPl
import Derived.Test.YtflhnhjbbddgmaaDoorQte
namespace Go.Proofs.YtflhnhjbbddgmaaDoor.Qt
open Go.RowKit Go.Proofs.YtflhnhjbbddgmaaDoor.P Go.Proofs.YtflhnhjbbddgmaaDoor.Pl Go.Proofs.YtflhnhjbbddgmaaDoor.Rpl Go.Proofs.YtflhnhjbbddgmaaDoorW.PrintWords Go.Proofs.YtflhnhjbbddgmaaDoorW.PrintLast
set_option linter.unusedVariables false
theorem awake_at : ∀ (k : Nat), 30 ≤ k → carryalllaw04_awake.f k = some true := by
  intro k hk
  induction k with
  | zero => omega
  | succ k ih =>
    rcases Nat.lt_or_ge k 30 with h | h
    · obtain rfl : k = 29 := by omega
      decide +kernel
    · exact carryalllaw04_awake.mono k _ (ih h)
/-- What is read behind the first quote: the value, and how many bytes. -/
def unq : List Int → List Int × Nat
  | [] => ([], 0)
  | [b] => if b = 34 then ([], 1) else ([b], 1)
  | b :: c :: t => if b = 34 then ([], 1) else if b = 92 then (c :: (unq t).1, (unq t).2 + 2) else (b :: (unq (c :: t)).1, (unq (c :: t)).2 + 1)
theorem unq_34 (t : List Int) : unq (34 :: t) = ([], 1) := by cases t <;> simp [unq]
theorem unq_92 (c : Int) (t : List Int) : unq (92 :: c :: t) = (c :: (unq t).1, (unq t).2 + 2) := by rw [unq, if_neg (by decide), if_pos rfl]
theorem unq_one (b : Int) (h : ¬ b = 34) (t : List Int) (h2 : b = 92 → t = []) : unq (b :: t) = (b :: (unq t).1, (unq t).2 + 1) := by
  cases t with
  | nil => simp [unq, h]
  | cons c t => rw [unq, if_neg h, if_neg (fun e => by have := h2 e; cases this)]
theorem q_l0 (s : ByteArray) (hs : s.size ≤ 1000000) : ∀ (d i k : Nat) (acc : List Int), s.size - i = d → i ≤ s.size → d + 1 ≤ k → acc.length ≤ i →
    token_Quoted.l0 k s acc (i : Int) = some (strOfNums (acc ++ (unq ((bytesOf s).drop i)).1), ((i + (unq ((bytesOf s).drop i)).2 : Nat) : Int)) := by
  intro d
  induction d using Nat.strongRecOn with
  | ind d ih =>
    intro i k acc hd hi hk ha
    obtain ⟨k, rfl⟩ : ∃ j, k = j + 1 := ⟨k - 1, by omega⟩
    rw [token_Quoted.l0]
    by_cases hlt : i < s.size
    · have hw : wrap64 ((i : Int) + 1) = ((i + 1 : Nat) : Int) := by rw [wrap_in (by omega) (by omega)]; omega
      have hd1 := drop_bt s i hlt
      rw [if_pos (by omega), if_pos (by omega), hw, hd1]
      by_cases h34 : bt s (i : Int) = 34
      · rw [if_pos h34, h34, unq_34]
        simp
      · rw [if_neg h34]
        by_cases h92 : bt s (i : Int) = 92
        · rw [if_pos h92]
          by_cases hl2 : i + 1 < s.size
          · have hw2 : wrap64 (((i + 1 : Nat) : Int) + 1) = ((i + 2 : Nat) : Int) := by rw [wrap_in (by omega) (by omega)]; omega
            rw [if_pos (by omega), if_pos (by omega), if_pos (by omega), hw2, ih (s.size - (i + 2)) (by omega) (i + 2) k _ rfl (by omega) (by omega) (by rw [List.length_append, List.length_singleton]; omega), h92, drop_bt s (i + 1) hl2, unq_92, List.append_assoc]
            rw [show i + 1 + 1 = i + 2 from rfl]
            simp; omega
          · have hnil : (bytesOf s).drop (i + 1) = [] := drop_end s (i + 1) (by omega)
            rw [if_neg (by omega), if_pos (by omega), ih (s.size - (i + 1)) (by omega) (i + 1) k _ rfl (by omega) (by omega) (by rw [List.length_append, List.length_singleton]; omega), unq_one _ h34 _ (fun _ => hnil), List.append_assoc]
            simp; omega
        · rw [if_neg h92, if_pos (by omega), ih (s.size - (i + 1)) (by omega) (i + 1) k _ rfl (by omega) (by omega) (by rw [List.length_append, List.length_singleton]; omega), unq_one _ h34 _ (fun e => absurd e h92), List.append_assoc]
          simp; omega
    · rw [if_neg (by omega), drop_end s i (by omega)]
      have : i = s.size := by omega
      simp [unq, this]
theorem rq_l0 (s : ByteArray) (hs : s.size ≤ 1000000) : ∀ (d i k : Nat) (acc : List Int), s.size - i = d → i ≤ s.size → 2 * d + 2 ≤ k → acc.length ≤ i →
    carryallref04_Quoted.l0 k s acc (i : Int) = some (strOfNums (acc ++ (unq ((bytesOf s).drop i)).1), ((i + (unq ((bytesOf s).drop i)).2 : Nat) : Int)) := by
  intro d
  induction d using Nat.strongRecOn with
  | ind d ih =>
    intro i k acc hd hi hk ha
    obtain ⟨k, rfl⟩ : ∃ j, k = j + 2 := ⟨k - 2, by omega⟩
    rw [carryallref04_Quoted.l0]
    by_cases hlt : i < s.size
    · have hw : wrap64 ((i : Int) + 1) = ((i + 1 : Nat) : Int) := by rw [wrap_in (by omega) (by omega)]; omega
      have hd1 := drop_bt s i hlt
      rw [if_pos (by omega), if_pos (by omega), carryallref04_Quoted.j2, hw, hd1]
      by_cases h34 : bt s (i : Int) = 34
      · rw [if_neg (by simp [h34]), h34, unq_34]
        have : mn ((i + 1 : Nat) : Int) (s.size : Int) = ((i + 1 : Nat) : Int) := by unfold mn; split <;> omega
        rw [this]
        simp
      · rw [if_pos (by simp [h34]), if_pos (by omega), if_pos (by omega)]
        by_cases h92 : bt s (i : Int) = 92
        · rw [if_pos h92]
          by_cases hl2 : i + 1 < s.size
          · have hw2 : wrap64 (((i + 1 : Nat) : Int) + 1) = ((i + 2 : Nat) : Int) := by rw [wrap_in (by omega) (by omega)]; omega
            rw [if_pos (by omega), if_pos (by omega), if_pos (by omega), hw2, ih (s.size - (i + 2)) (by omega) (i + 2) k _ rfl (by omega) (by omega) (by rw [List.length_append, List.length_singleton]; omega), h92, drop_bt s (i + 1) hl2, unq_92, List.append_assoc]
            rw [show i + 1 + 1 = i + 2 from rfl]
            simp; omega
          · have hnil : (bytesOf s).drop (i + 1) = [] := drop_end s (i + 1) (by omega)
            rw [if_neg (by omega), if_pos (by omega), ih (s.size - (i + 1)) (by omega) (i + 1) k _ rfl (by omega) (by omega) (by rw [List.length_append, List.length_singleton]; omega), unq_one _ h34 _ (fun _ => hnil), List.append_assoc]
            simp; omega
        · rw [if_neg h92, if_pos (by omega), ih (s.size - (i + 1)) (by omega) (i + 1) k _ rfl (by omega) (by omega) (by rw [List.length_append, List.length_singleton]; omega), unq_one _ h34 _ (fun e => absurd e h92), List.append_assoc]
          simp; omega
    · rw [if_neg (by omega), carryallref04_Quoted.j2, if_neg (by simp), drop_end s i (by omega)]
      have : i = s.size := by omega
      subst this
      have hw : wrap64 ((s.size : Int) + 1) = (s.size : Int) + 1 := by rw [wrap_in (by omega) (by omega)]
      have : mn ((s.size : Int) + 1) (s.size : Int) = (s.size : Int) := by unfold mn; split <;> omega
      rw [hw, this]
      simp [unq]
/-- A quoted string's value, and how many bytes it takes. -/
def qd (l : List Int) : List Int × Nat := match l with
  | [] => ([], 0)
  | b :: t => if b = 34 then ((unq t).1, (unq t).2 + 1) else ([], 0)
theorem qd_cons (b : Int) (t : List Int) : qd (b :: t) = if b = 34 then ((unq t).1, (unq t).2 + 1) else ([], 0) := rfl
def hp : List Int → Bool
  | [] => false
  | b :: _ => decide (b = 34)
theorem hp_f (s : ByteArray) : strings_HasPrefix.f s (⟨#[34]⟩ : ByteArray) = some (hp (bytesOf s)) := by
  unfold strings_HasPrefix.f
  congr 1
  have hb : bytesOf s = s.data.toList.map fun b => (b.toNat : Int) := rfl
  rw [hb]
  cases s.data.toList with
  | nil => rfl
  | cons x l =>
    by_cases h : x = 34
    · subst h
      rfl
    · have hx : ¬ ((x.toNat : Int) = 34) := fun e => h (UInt8.toNat_inj.1 (by show x.toNat = 34; omega))
      have hne : ¬ (34 : UInt8) = x := fun e => h e.symm
      show Lib.hasPrefix (x :: l) [34] = decide ((x.toNat : Int) = 34)
      rw [decide_eq_false hx]
      simp [Lib.hasPrefix, List.isPrefixOf, hne]
theorem quoted_f (s : ByteArray) (hs : s.size ≤ 1000000) (k : Nat) (hk : s.size + 2 ≤ k) : token_Quoted.f k s = some (strOfNums (qd (bytesOf s)).1, (((qd (bytesOf s)).2 : Nat) : Int)) := by
  unfold token_Quoted.f
  rw [hp_f, Option.bind_some]
  have hl := bytesOf_length s
  cases ht : bytesOf s with
  | nil => rfl
  | cons b t =>
    rw [ht, List.length_cons] at hl
    by_cases h : b = 34
    · subst h
      have := q_l0 s hs (s.size - 1) 1 k [] rfl (by omega) (by omega) (by simp)
      rw [ht, List.drop_one, List.tail_cons, List.nil_append] at this
      rw [if_pos (show hp (34 :: t) = true from rfl)]
      refine this.trans ?_
      rw [qd_cons, if_pos rfl]
      simp; omega
    · have hq : qd (b :: t) = ([], 0) := by rw [qd_cons, if_neg h]
      rw [if_neg (show ¬ hp (b :: t) = true from fun e => h (of_decide_eq_true e)), hq]
      rfl
theorem rquoted_f (s : ByteArray) (hs : s.size ≤ 1000000) (k : Nat) (hk : 2 * s.size + 4 ≤ k) : carryallref04_Quoted.f k s = some (strOfNums (qd (bytesOf s)).1, (((qd (bytesOf s)).2 : Nat) : Int)) := by
  unfold carryallref04_Quoted.f
  obtain ⟨k, rfl⟩ : ∃ j, k = j + 1 := ⟨k - 1, by omega⟩
  by_cases h0 : s.toList = []
  · have hb : bytesOf s = [] := by
      have : s.data.toList = [] := by rw [← ByteArray.toList_eq]; exact h0
      unfold bytesOf; rw [this]; rfl
    rw [if_pos h0, carryallref04_Quoted.j0, if_pos rfl, hb]
    rfl
  · have hz : 0 < s.size := by
      rcases Nat.eq_zero_or_pos s.size with e | e
      · exfalso; apply h0
        rw [ByteArray.toList_eq]
        exact List.length_eq_zero_iff.1 (by rw [Array.length_toList]; exact e)
      · exact e
    have hd1 := drop_bt s 0 hz
    rw [List.drop_zero] at hd1
    rw [if_neg h0, if_pos (by omega), carryallref04_Quoted.j0]
    have hd1' : bytesOf s = bt s 0 :: (bytesOf s).drop 1 := hd1
    by_cases h34 : bt s 0 = 34
    · rw [if_neg (by simp [h34])]
      have := rq_l0 s hs (s.size - 1) 1 k [] rfl hz (by omega) (by simp)
      rw [List.nil_append] at this
      refine this.trans ?_
      have hq : qd (bytesOf s) = ((unq ((bytesOf s).drop 1)).1, (unq ((bytesOf s).drop 1)).2 + 1) := by
        conv => lhs; rw [hd1', h34]
        rw [qd_cons, if_pos rfl]
      rw [hq]
      simp; omega
    · rw [if_pos (by simp [h34])]
      have hq : qd (bytesOf s) = ([], 0) := by
        conv => lhs; rw [hd1']
        rw [qd_cons, if_neg h34]
      rw [hq]
      rfl

/-! in quotes -/
theorem bytes_rep (s : ByteArray) : ∀ x ∈ rep (bytesOf s), byte x := by
  intro x hx
  unfold rep at hx
  obtain ⟨b, hb, hx⟩ := List.mem_flatMap.1 hx
  have h := bytes_all s b hb
  unfold rp at hx
  split at hx
  · simp at hx; subst hx; exact ⟨by omega, by omega⟩
  · split at hx
    · simp at hx; rcases hx with rfl | rfl <;> exact ⟨by omega, by omega⟩
    · simp at hx; subst hx; exact h
theorem quo_bytes (s : ByteArray) : bytesOf (quoS s) = 34 :: (rep (bytesOf s) ++ [34]) := by
  unfold quoS
  rw [bytes_append, bytes_append, bytes_str _ (bytes_rep s)]
  rfl
theorem rquote_l0 (s : ByteArray) (hs : s.size ≤ 1000000) : ∀ (d i k : Nat) (acc : List Int), s.size - i = d → i ≤ s.size → d + 1 ≤ k → acc.length ≤ 3 * i →
    carryallref04_Quote.l0 k s acc (s.size : Int) (i : Int) = some ((⟨#[34]⟩ ++ strOfNums (acc ++ rep ((bytesOf s).drop i))) ++ ⟨#[34]⟩) := by
  intro d
  induction d with
  | zero =>
    intro i k acc hd hi hk ha
    obtain ⟨k, rfl⟩ : ∃ j, k = j + 1 := ⟨k - 1, by omega⟩
    have e1 : (⟨#[34]⟩ : ByteArray).size = 1 := rfl
    rw [carryallref04_Quote.l0, if_neg (by omega), size_str, if_pos (by omega), ByteArray.size_append, size_str, if_pos (by omega), drop_end s i (by omega), rep_nil, List.append_nil]
  | succ d ih =>
    intro i k acc hd hi hk ha
    obtain ⟨k, rfl⟩ : ∃ j, k = j + 1 := ⟨k - 1, by omega⟩
    have hw : wrap64 ((i : Int) + 1) = ((i + 1 : Nat) : Int) := by rw [wrap_in (by omega) (by omega)]; omega
    rw [carryallref04_Quote.l0, if_pos (by omega), if_pos (by omega), if_pos (by omega), hw, drop_bt s i (by omega), rep_cons]
    by_cases h34 : bt s (i : Int) = 34
    · rw [if_pos h34, if_pos (by omega), Option.bind_some, if_pos (by rw [List.length_append, List.length_singleton]; omega), ih (i + 1) k _ (by omega) (by omega) (by omega) (by rw [List.length_append, List.length_append, List.length_singleton, List.length_singleton]; omega), h34]
      have : rp 34 = [92, 34] := by decide
      rw [this, List.append_assoc, List.append_assoc]
      rfl
    · by_cases h92 : bt s (i : Int) = 92
      · rw [if_neg h34, if_pos h92, if_pos (by omega), Option.bind_some, if_pos (by rw [List.length_append, List.length_singleton]; omega), ih (i + 1) k _ (by omega) (by omega) (by omega) (by rw [List.length_append, List.length_append, List.length_singleton, List.length_singleton]; omega), h92]
        have : rp 92 = [92, 92] := by decide
        rw [this, List.append_assoc, List.append_assoc]
        rfl
      · rw [if_neg h34, if_neg h92, if_pos (by omega), ih (i + 1) k _ (by omega) (by omega) (by omega) (by rw [List.length_append, List.length_singleton]; omega)]
        have : rp (bt s (i : Int)) = [bt s (i : Int)] := by unfold rp; rw [if_neg h92, if_neg h34]
        rw [this, List.append_assoc]
theorem rquote_f (s : ByteArray) (hs : s.size ≤ 1000000) (k : Nat) (hk : s.size + 1 ≤ k) : carryallref04_Quote.f k s = some (quoS s) := by
  have := rquote_l0 s hs s.size 0 k [] (by omega) (by omega) hk (by simp)
  rw [List.drop_zero, List.nil_append] at this
  exact this
theorem quote_f (s : ByteArray) (hs : s.size ≤ 1000000) : token_Quote.f s = some (quoS s) := by
  unfold token_Quote.f
  rw [if_pos hs]
theorem unq_rep (l t : List Int) : unq (rep l ++ 34 :: t) = (l, (rep l).length + 1) := by
  induction l with
  | nil => rw [rep_nil, List.nil_append, unq_34]; rfl
  | cons b l ih =>
    rw [rep_cons, List.append_assoc]
    by_cases h92 : b = 92
    · subst h92
      have : rp 92 = [92, 92] := by decide
      rw [this]
      show unq (92 :: 92 :: (rep l ++ 34 :: t)) = _
      rw [unq_92, ih]
      first | (simp; done) | (simp; omega)
    · by_cases h34 : b = 34
      · subst h34
        have : rp 34 = [92, 34] := by decide
        rw [this]
        show unq (92 :: 34 :: (rep l ++ 34 :: t)) = _
        rw [unq_92, ih]
        first | (simp; done) | (simp; omega)
      · have : rp b = [b] := by unfold rp; rw [if_neg h92, if_neg h34]
        rw [this]
        show unq (b :: (rep l ++ 34 :: t)) = _
        rw [unq_one b h34 _ (fun e => absurd e h92), ih]
        first | (simp; done) | (simp; omega)
end Go.Proofs.YtflhnhjbbddgmaaDoor.Qt
