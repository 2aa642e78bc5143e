/- Chapter 21: the document's answer is the program's; a name apart from another; capital letters. -/
import Derived.Test.YtdombgagobooiaaIdP
namespace Go.Proofs.Ytdombgagobooiaa.Id
open Go.RowKit Go.Proofs.YtdombgagobooiaaW.PrintWords Go.Proofs.YtdombgagobooiaaW.PrintLast Go.Proofs.YtdombgagobooiaaW.PrintMore Go.Proofs.Ytdombgagobooiaa.Pl Go.Proofs.Ytdombgagobooiaa.G Go.Proofs.Ytdombgagobooiaa.P
set_option linter.unusedVariables false
set_option linter.unusedSimpArgs false
theorem rhex_f (c : Int) (h : byte c) (K : Nat) (hK : 18 ≤ K) : carryallref01_Hex.f K c = some (hxv c) := by
  obtain ⟨n, rfl⟩ := Int.eq_ofNat_of_zero_le h.1
  have hn : n < 256 := by have := h.2; omega
  have H : ∀ n : Nat, n < 256 → carryallref01_Hex.f 18 (n : Int) = some (hxv (n : Int)) := by decide +kernel
  have G : ∀ K, carryallref01_Hex.f (18 + K) (n : Int) = some (hxv (n : Int)) := by
    intro K
    induction K with
    | zero => exact H n hn
    | succ K ih => exact carryallref01_Hex.mono _ _ _ ih
  have := G (K - 18)
  rwa [show 18 + (K - 18) = K by omega] at this
theorem hx_neg (c : Int) : 0 ≤ hxv c ↔ (lowx c = true ∨ (65 ≤ c ∧ c ≤ 70)) := by
  unfold hxv lowx
  simp only [Bool.or_eq_true, decide_eq_true_eq]
  split
  · rename_i h; exact ⟨fun _ => Or.inl (Or.inl h), fun _ => by omega⟩
  · split
    · rename_i h; exact ⟨fun _ => Or.inl (Or.inr h), fun _ => by omega⟩
    · split
      · rename_i h; exact ⟨fun _ => Or.inr h, fun _ => by omega⟩
      · exact ⟨fun h => absurd h (by decide), fun h => by omega⟩
theorem j2_at (K : Nat) (S : ByteArray) (i : Nat) (hi : i < 36) (c : Int) : carryalllaw21_is.j2 (K + 1) S c (lowx c) 36 (i : Int) (i : Int) (dshB i) = if okc i c = true then carryalllaw21_is.l0 K S 36 ((i + 1 : Nat) : Int) else some false := by
  have hw : wrap64 ((i : Int) + 1) = ((i + 1 : Nat) : Int) := by rw [wrap_in (by omega) (by omega)]; omega
  rw [carryalllaw21_is.j2, hw]
  unfold okc
  cases hd : dshB i with
  | true => simp
  | false =>
    by_cases h14 : i = 14
    · subst h14; simp
    · have e14 : ¬ ((i : Int) = 14) := by omega
      by_cases h19 : i = 19
      · subst h19
        simp only [if_neg e14, h14, if_false, Bool.false_eq_true]
        by_cases a : c = 56 <;> by_cases b : c = 57 <;> by_cases d : c = 97 <;> by_cases e : c = 98 <;> simp [a, b, d, e]
      · have e19 : ¬ ((i : Int) = 19) := by omega
        simp only [if_neg e14, if_neg e19, h14, h19, if_false, Bool.false_eq_true]
theorem j1_at (K : Nat) (S : ByteArray) (i : Nat) (hi : i < 36) (c : Int) : carryalllaw21_is.j1 (K + 2) S (i : Int) c (lowx c) 36 (i : Int) = if okc i c = true then carryalllaw21_is.l0 K S 36 ((i + 1 : Nat) : Int) else some false := by
  rw [← j2_at K S i hi c, carryalllaw21_is.j1]
  unfold dshB
  by_cases h8 : i = 8
  · subst h8; rfl
  by_cases h13 : i = 13
  · subst h13; rfl
  by_cases h18 : i = 18
  · subst h18; rfl
  have e8 : ¬ ((i : Int) = 8) := by omega
  have e13 : ¬ ((i : Int) = 13) := by omega
  have e18 : ¬ ((i : Int) = 18) := by omega
  rw [if_neg e8, if_neg e13, if_neg e18]
  have : ((i : Int) == 23) = (i == 8 || i == 13 || i == 18 || i == 23) := by
    by_cases h23 : i = 23
    · subst h23; rfl
    · have e23 : ¬ ((i : Int) = 23) := by omega
      rw [beq_false_of_ne e23, beq_false_of_ne h8, beq_false_of_ne h13, beq_false_of_ne h18, beq_false_of_ne h23]
      rfl
  rw [this]
theorem l0_at (K : Nat) (hK : 18 ≤ K) (S : ByteArray) (hS : S.size = 36) (i : Nat) (hi : i < 36) : carryalllaw21_is.l0 (K + 3) S 36 (i : Int) = if okc i (bt S (i : Nat)) = true then carryalllaw21_is.l0 K S 36 ((i + 1 : Nat) : Int) else some false := by
  rw [carryalllaw21_is.l0, if_pos (by omega), if_pos (by omega), if_pos (by omega), rhex_f _ (bt_byte S _) (K + 2) (by omega)]
  simp only [Option.bind_some]
  rw [← j1_at K S i hi (bt S (i : Nat))]
  generalize bt S (i : Nat) = c
  have hx := hx_neg c
  by_cases h0 : 0 ≤ hxv c
  · rw [if_pos h0]
    by_cases h65 : c < 65
    · rw [if_pos h65]
      have : lowx c = true := by rcases hx.1 h0 with h | h; exact h; omega
      rw [this]
    · rw [if_neg h65]
      have : decide (c > 70) = lowx c := by
        by_cases h70 : c > 70
        · rw [decide_eq_true h70]
          rcases hx.1 h0 with h | h
          · exact h.symm
          · omega
        · rw [decide_eq_false h70]
          unfold lowx
          rw [decide_eq_false (by omega), decide_eq_false (by omega)]
          rfl
      rw [this]
  · rw [if_neg h0]
    have : lowx c = false := by
      cases h : lowx c with
      | false => rfl
      | true => exact absurd (hx.2 (Or.inl h)) h0
    rw [this]
theorem l0_all (S : ByteArray) (hS : S.size = 36) : ∀ n, n ≤ 36 → ∀ K, 18 ≤ K → carryalllaw21_is.l0 (K + 3 * n + 1) S 36 ((36 - n : Nat) : Int) = some ((List.range n).all fun j => okc (36 - n + j) (bt S ((36 - n + j : Nat) : Int)))
  | 0, _, K, _ => by
    rw [show K + 3 * 0 + 1 = K + 1 by omega, carryalllaw21_is.l0, if_neg (by omega)]
    rfl
  | n + 1, hn, K, hK => by
    have ih := l0_all S hS n (by omega) K hK
    rw [show K + 3 * (n + 1) + 1 = (K + 3 * n + 1) + 3 by omega, l0_at _ (by omega) S hS (36 - (n + 1)) (by omega), show 36 - (n + 1) + 1 = 36 - n by omega, ih, List.range_succ_eq_map, List.all_cons, List.all_map]
    have e : ((fun j => okc (36 - (n + 1) + j) (bt S ((36 - (n + 1) + j : Nat) : Int))) ∘ Nat.succ) = fun j => okc (36 - n + j) (bt S ((36 - n + j : Nat) : Int)) := by
      funext j
      show okc (36 - (n + 1) + (j + 1)) _ = _
      rw [show 36 - (n + 1) + (j + 1) = 36 - n + j by omega]
    rw [e]
    cases h : okc (36 - (n + 1)) (bt S ((36 - (n + 1) : Nat) : Int)) with
    | true => rw [if_pos rfl]; simp only [Nat.add_zero, h, Bool.true_and]
    | false => rw [if_neg (by decide)]; simp only [Nat.add_zero, h, Bool.false_and]
theorem is_f (S : ByteArray) : carryalllaw21_is.f 200 S = some (isC S) := by
  unfold carryalllaw21_is.f isC
  by_cases hS : S.size = 36
  · have hc : (S.size : Int) = 36 := by omega
    rw [if_pos hc, hc]
    have := l0_all S hS 36 (Nat.le_refl _) 91 (by omega)
    simp only [Nat.sub_self, Nat.zero_add] at this
    rw [show (200 : Nat) = 91 + 3 * 36 + 1 by rfl]
    rw [show ((0 : Nat) : Int) = 0 from rfl] at this
    rw [this]
    simp [hS]
  · rw [if_neg (by omega)]
    simp [hS]
theorem is_call (S : ByteArray) (w : World) : Calls Try.prog 10 #[.string S] w fun e w' => e = .returned (.bool (isC S)) ∧ Drawn0 w w' := carryalllaw21_is.calls 200 S _ w (is_f S)
def nm (l : List Int) : ByteArray := strOfNums (ofL l)
theorem nm_bytes (l : List Int) (hl : l.length = 16) (hb : ∀ x ∈ l, byte x) : bytesOf (nm l) = ofL l := by
  unfold nm
  rw [bytes_str]
  intro x hx
  obtain ⟨i, hi, rfl⟩ := List.getElem_of_mem hx
  have := (of_okc l hl hb i (by rw [of_len] at hi; exact hi)).2
  rwa [List.getD_eq_getElem?_getD, List.getElem?_eq_getElem hi] at this
theorem nm_size (l : List Int) : (nm l).size = 36 := by unfold nm; rw [size_str, of_len]
theorem nm_is (l : List Int) (hl : l.length = 16) (hb : ∀ x ∈ l, byte x) : isC (nm l) = true := by
  unfold isC
  simp only [Bool.and_eq_true, decide_eq_true_eq, List.all_eq_true, List.mem_range]
  refine ⟨nm_size l, fun i hi => ?_⟩
  have hbs := nm_bytes l hl hb
  have := (of_okc l hl hb i hi).1
  rw [bt_get _ i (by rw [hbs, of_len]; exact hi)]
  have e : (ofL l).getD i 0 = (bytesOf (nm l))[i]'(by rw [hbs, of_len]; exact hi) := by
    rw [List.getD_eq_getElem?_getD, List.getElem?_eq_getElem (show i < (ofL l).length by rw [of_len]; exact hi)]
    simp only [hbs, Option.getD_some]
  rw [← e]
  exact this
theorem is_long (S : ByteArray) (h : S.size ≠ 36) : isC S = false := by unfold isC; simp [h]
theorem is_ahead (s : ByteArray) (l : List Int) (hl : l.length = 16) (hb : ∀ x ∈ l, byte x) : isC (s ++ nm l) = s.toList.isEmpty := by
  by_cases h : s.size = 0
  · have : s = ⟨#[]⟩ := bytes_inj (List.eq_nil_of_length_eq_zero (by rw [bytesOf_length]; exact h))
    subst this
    have e : (⟨#[]⟩ : ByteArray) ++ nm l = nm l := ByteArray.empty_append
    rw [e, nm_is l hl hb, data_of_bytes]
    rfl
  · rw [is_long _ (by rw [ByteArray.size_append, nm_size]; omega)]
    rw [data_of_bytes]
    cases hbs : bytesOf s with
    | nil => have := congrArg List.length hbs; rw [bytesOf_length] at this; exact absurd this h
    | cons x t => rfl
theorem is_behind (s : ByteArray) (l : List Int) (hl : l.length = 16) (hb : ∀ x ∈ l, byte x) : isC (nm l ++ s) = s.toList.isEmpty := by
  by_cases h : s.size = 0
  · have : s = ⟨#[]⟩ := bytes_inj (List.eq_nil_of_length_eq_zero (by rw [bytesOf_length]; exact h))
    subst this
    have e : nm l ++ (⟨#[]⟩ : ByteArray) = nm l := ByteArray.append_empty
    rw [e, nm_is l hl hb, data_of_bytes]
    rfl
  · rw [is_long _ (by rw [ByteArray.size_append, nm_size]; omega)]
    rw [data_of_bytes]
    cases hbs : bytesOf s with
    | nil => have := congrArg List.length hbs; rw [bytesOf_length] at this; exact absurd this h
    | cons x t => rfl
/-- A capital letter stands nowhere. -/
theorem okc_cap (i : Nat) (c : Int) (h0 : 65 ≤ c) (h1 : c ≤ 70) : okc i c = false := by
  unfold okc
  split
  · exact beq_false_of_ne (by omega)
  · split
    · exact beq_false_of_ne (by omega)
    · split
      · simp only [Bool.or_eq_false_iff]
        exact ⟨⟨⟨beq_false_of_ne (by omega), beq_false_of_ne (by omega)⟩, beq_false_of_ne (by omega)⟩, beq_false_of_ne (by omega)⟩
      · unfold lowx
        rw [decide_eq_false (by omega), decide_eq_false (by omega)]
        rfl
theorem cap_is (l : List Int) (k : Nat) (hk : k < 36) (c : Int) (hb : ∀ x ∈ (ofL l).set k c, byte x) (h0 : 65 ≤ c) (h1 : c ≤ 70) : isC (strOfNums ((ofL l).set k c)) = false := by
  unfold isC
  have e : (List.range 36).all (fun i => okc i (bt (strOfNums ((ofL l).set k c)) i)) = false := by
    rw [List.all_eq_false]
    refine ⟨k, List.mem_range.2 hk, ?_⟩
    have hlen : k < (bytesOf (strOfNums ((ofL l).set k c))).length := by rw [bytes_str _ hb, List.length_set, of_len]; exact hk
    rw [bt_get _ k hlen]
    simp only [bytes_str _ hb, List.getElem_set_self]
    rw [okc_cap k c h0 h1]
    decide
  rw [e, Bool.and_false]
end Go.Proofs.Ytdombgagobooiaa.Id
