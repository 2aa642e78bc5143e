/- What bytes are read as, in steps: the reference's Decode goes the same steps. -/
import Derived.Test.YtkoddcihcoekgaaDoorPx3
import Derived.Test.YtkoddcihcoekgaaDoorPx4
import Derived.Test.YtkoddcihcoekgaaDoorPx5
import Derived.Test.YtkoddcihcoekgaaDoorDecR
namespace Go.Proofs.YtkoddcihcoekgaaDoor.Dec
open Go.RowKit Go.Proofs.YtkoddcihcoekgaaDoor.P Go.Proofs.YtkoddcihcoekgaaDoor.Pl Go.Proofs.YtkoddcihcoekgaaDoor.Utf Go.Proofs.YtkoddcihcoekgaaDoorW.PrintWords Go.Proofs.YtkoddcihcoekgaaDoorW.PrintLast Go.Proofs.YtkoddcihcoekgaaDoorW.PrintMore
set_option linter.unusedVariables false
set_option linter.unusedSimpArgs false
def many1 (b : Int) : Int := if b < 128 then 1 else manyv b
/-- The branches ahead of the loop come to one. -/
theorem st_j2 {b : Int} (hb : byte b) (t : List Int) (k : Nat) (hk : 10 ≤ k) : ∃ k', k - 3 ≤ k' ∧ carryallref01_starts.f k (b :: t) = carryallref01_starts.j2 k' (b :: t) (many1 b) := by
  obtain ⟨j, rfl⟩ : ∃ j, k = j + 3 := ⟨k - 3, by omega⟩
  have h0 : 0 < ((b :: t).length : Int) := by rw [List.length_cons]; omega
  obtain ⟨b0, b1⟩ := hb
  unfold carryallref01_starts.f
  rw [if_pos h0, rd0]
  by_cases h1 : b < 128
  · rw [if_pos h1]
    exact ⟨j + 3, by omega, by unfold many1; rw [if_pos h1]⟩
  · rw [if_neg h1]
    have hm1 : many1 b = manyv b := by unfold many1; rw [if_neg h1]
    rw [hm1]
    by_cases h2 : b ≥ 194
    · rw [if_pos h2]
      by_cases h3 : b ≤ 223
      · rw [decide_eq_true h3, carryallref01_starts.j0, if_pos rfl]
        exact ⟨j + 2, by omega, by unfold manyv; rw [if_pos (by omega)]⟩
      · rw [decide_eq_false h3, carryallref01_starts.j0, if_neg Bool.false_ne_true, if_pos h0, rd0, if_pos (by omega)]
        by_cases h4 : b ≤ 239
        · rw [decide_eq_true h4, carryallref01_starts.j1, if_pos rfl]
          exact ⟨j + 1, by omega, by unfold manyv; rw [if_neg (by omega), if_pos (by omega)]⟩
        · rw [decide_eq_false h4, carryallref01_starts.j1, if_neg Bool.false_ne_true, if_pos h0, rd0, if_pos (by omega)]
          by_cases h5 : b ≤ 244
          · rw [if_pos h5]
            exact ⟨j + 1, by omega, by unfold manyv; rw [if_neg (by omega), if_neg (by omega), if_pos (by omega)]⟩
          · rw [if_neg h5]
            exact ⟨j + 1, by omega, by unfold manyv; rw [if_neg (by omega), if_neg (by omega), if_neg (by omega)]⟩
    · rw [if_neg h2, carryallref01_starts.j0, if_neg Bool.false_ne_true, if_pos h0, rd0, if_neg (by omega), carryallref01_starts.j1, if_neg Bool.false_ne_true, if_pos h0, rd0, if_neg (by omega)]
      exact ⟨j + 1, by omega, by unfold manyv; rw [if_neg (by omega), if_neg (by omega), if_neg (by omega)]⟩
theorem w2 : wrap64 ((1 : Int) + 1) = 2 := by decide +kernel
theorem w3 : wrap64 ((2 : Int) + 1) = 3 := by decide +kernel
theorem w4 : wrap64 ((3 : Int) + 1) = 4 := by decide +kernel
/-- The loop's end: the two first bytes. -/
theorem sl_end {b c : Int} {t : List Int} (many : Int) (i : Int) (k : Nat) (hi : ¬ i < ((b :: c :: t).length : Int)) (hc : 128 ≤ c ∧ c ≤ 191) :
    carryallref01_starts.l0 (k + 1) (b :: c :: t) many i = if lowv b ≤ c ∧ c ≤ highv b ∨ ¬ (194 ≤ b ∧ b ≤ 244) then some (true, ((b :: c :: t).length : Int) == many) else some (false, false) := by
  have h1 : ((b :: c :: t).length : Int) > 1 := by rw [List.length_cons, List.length_cons]; omega
  have h0 : 0 < ((b :: c :: t).length : Int) := by omega
  have h1' : (1 : Int) < ((b :: c :: t).length : Int) := h1
  have r0 : rd (b :: c :: t) 0 = b := rfl
  have r1 : rd (b :: c :: t) 1 = c := rfl
  generalize hL : (b :: c :: t) = L at *
  rw [carryallref01_starts.l0, if_neg hi, if_pos h1, if_pos h0]
  simp only [r0, r1, if_pos h1']
  unfold lowv highv
  by_cases e1 : b = 224
  · subst e1
    simp only [if_true, show ¬ ((224 : Int) = 237) by omega, show ¬ ((224 : Int) = 240) by omega, show ¬ ((224 : Int) = 244) by omega, if_false, show (194 : Int) ≤ 224 by omega, show (224 : Int) ≤ 244 by omega, and_self, not_true, or_false]
    by_cases hh : c < 160
    · rw [if_pos hh, if_neg (by omega)]
    · rw [if_neg hh, if_pos (by omega)]
  · by_cases e2 : b = 237
    · subst e2
      simp only [if_true, show ¬ ((237 : Int) = 224) by omega, show ¬ ((237 : Int) = 240) by omega, show ¬ ((237 : Int) = 244) by omega, if_false, show (194 : Int) ≤ 237 by omega, show (237 : Int) ≤ 244 by omega, and_self, not_true, or_false]
      by_cases hh : c > 159
      · rw [if_pos hh, if_neg (by omega)]
      · rw [if_neg hh, if_pos (by omega)]
    · by_cases e3 : b = 240
      · subst e3
        simp only [if_true, show ¬ ((240 : Int) = 224) by omega, show ¬ ((240 : Int) = 237) by omega, show ¬ ((240 : Int) = 244) by omega, if_false, show (194 : Int) ≤ 240 by omega, show (240 : Int) ≤ 244 by omega, and_self, not_true, or_false]
        by_cases hh : c < 144
        · rw [if_pos hh, if_neg (by omega)]
        · rw [if_neg hh, if_pos (by omega)]
      · by_cases e4 : b = 244
        · subst e4
          simp only [if_true, show ¬ ((244 : Int) = 224) by omega, show ¬ ((244 : Int) = 237) by omega, show ¬ ((244 : Int) = 240) by omega, if_false, show (194 : Int) ≤ 244 by omega, show (244 : Int) ≤ 244 by omega, and_self, not_true, or_false]
          by_cases hh : c > 143
          · rw [if_pos hh, if_neg (by omega)]
          · rw [if_neg hh, if_pos (by omega)]
        · simp only [if_neg e1, if_neg e2, if_neg e3, if_neg e4]
          rw [if_pos]
          by_cases h : 194 ≤ b ∧ b ≤ 244
          · left
            rw [if_pos h, if_pos h]
            exact hc
          · exact Or.inr h
theorem sl_no {l : List Int} {many : Int} {i : Nat} {c : Int} (k : Nat) (hc : l[i]? = some c) (h : ¬ (128 ≤ c ∧ c ≤ 191)) : carryallref01_starts.l0 (k + 1) l many (i : Int) = some (false, false) := by
  have hlt := (List.getElem?_eq_some_iff.1 hc).1
  rw [carryallref01_starts.l0, if_pos (by omega), if_pos (by omega), rd_at hc]
  split
  · rfl
  · rw [if_pos (by omega)]
theorem sl_yes {l : List Int} {many : Int} {i : Nat} {c : Int} (k : Nat) (hl : l.length ≤ 10) (hc : l[i]? = some c) (h : 128 ≤ c ∧ c ≤ 191) : carryallref01_starts.l0 (k + 1) l many (i : Int) = carryallref01_starts.l0 k l many ((i + 1 : Nat) : Int) := by
  have hlt := (List.getElem?_eq_some_iff.1 hc).1
  have hw : wrap64 ((i : Int) + 1) = ((i + 1 : Nat) : Int) := by rw [wrap_in (by omega) (by omega)]; omega
  rw [carryallref01_starts.l0, if_pos (by omega), if_pos (by omega), rd_at hc, if_neg (by omega), if_neg (by omega), hw]
theorem lead_rng {b : Int} (h : 2 ≤ manyv b) : 194 ≤ b ∧ b ≤ 244 := by unfold manyv at h; repeat' split at h <;> omega
theorem many1_of {b : Int} (h : 2 ≤ manyv b) : many1 b = manyv b := by have := lead_rng h; unfold many1; rw [if_neg (by omega)]
/-- A fine beginning. -/
theorem st_good {b : Int} {p : List Int} (hb : byte b) (h0 : 128 ≤ b) (g : Good (b :: p)) (hm : ((b :: p).length : Int) ≤ manyv b) (h2 : 2 ≤ manyv b) (k : Nat) (hk : 10 ≤ k) : carryallref01_starts.f k (b :: p) = some (true, ((b :: p).length : Int) == manyv b) := by
  obtain ⟨k', hk', e⟩ := st_j2 hb p k hk
  obtain ⟨j, rfl⟩ : ∃ j, k' = j + 6 := ⟨k' - 6, by omega⟩
  have hr := lead_rng h2
  rw [e, many1_of h2, carryallref01_starts.j2, if_neg (by omega)]
  have hne : manyv b ≠ 0 := by omega
  cases g with
  | one =>
    rw [carryallref01_starts.l0, if_neg (by simp), if_neg (by simp)]
  | two _ c hc =>
    have c1 := next_cont hc hne
    have c2 := next_one.1 hc
    rw [show (1 : Int) = ((1 : Nat) : Int) from rfl, sl_yes (i := 1) (c := c) _ (by simp) rfl c1, sl_end _ _ _ (by simp) c1, if_pos (Or.inl c2)]
  | three _ c d hc hd =>
    have c1 := next_cont hc hne
    have c2 := next_one.1 hc
    have d1 := next_cont hd hne
    rw [show (1 : Int) = ((1 : Nat) : Int) from rfl, sl_yes (i := 1) (c := c) _ (by simp) rfl c1, sl_yes (i := 2) (c := d) _ (by simp) rfl d1, sl_end _ _ _ (by simp) c1, if_pos (Or.inl c2)]
  | four _ c d f hc hd hf =>
    have c1 := next_cont hc hne
    have c2 := next_one.1 hc
    have d1 := next_cont hd hne
    have f1 := next_cont hf hne
    rw [show (1 : Int) = ((1 : Nat) : Int) from rfl, sl_yes (i := 1) (c := c) _ (by simp) rfl c1, sl_yes (i := 2) (c := d) _ (by simp) rfl d1, sl_yes (i := 3) (c := f) _ (by simp) rfl f1, sl_end _ _ _ (by simp) c1, if_pos (Or.inl c2)]
/-- One byte more that may not follow. -/
theorem st_cut {b : Int} {p : List Int} {x : Int} (hb : byte b) (h0 : 128 ≤ b) (g : Good (b :: p)) (hm : ((b :: p).length : Int) < manyv b) (hx : ¬ next b (b :: p).length x) (k : Nat) (hk : 10 ≤ k) : carryallref01_starts.f k (b :: p ++ [x]) = some (false, false) := by
  obtain ⟨k', hk', e⟩ := st_j2 hb (p ++ [x]) k hk
  obtain ⟨j, rfl⟩ : ∃ j, k' = j + 6 := ⟨k' - 6, by omega⟩
  have h2 : 2 ≤ manyv b := by rw [List.length_cons] at hm; rcases many_cases b with h | h | h | h <;> omega
  have hr := lead_rng h2
  have hne : manyv b ≠ 0 := by omega
  rw [show b :: p ++ [x] = b :: (p ++ [x]) from rfl, e, many1_of h2, carryallref01_starts.j2, if_neg (by simp only [List.length_cons, List.length_append, List.length_nil] at *; omega)]
  cases g with
  | one =>
    by_cases c1 : 128 ≤ x ∧ x ≤ 191
    · rw [show (1 : Int) = ((1 : Nat) : Int) from rfl, sl_yes (i := 1) (c := x) _ (by simp) rfl c1]
      show carryallref01_starts.l0 _ (b :: x :: []) _ _ = _
      rw [sl_end _ _ _ (by simp) c1, if_neg]
      rintro (h | h)
      · exact hx (next_one.2 h)
      · exact h hr
    · exact sl_no (i := 1) (c := x) _ rfl c1
  | two _ c hc =>
    have c1 := next_cont hc hne
    rw [show (1 : Int) = ((1 : Nat) : Int) from rfl, sl_yes (i := 1) (c := c) _ (by simp) rfl c1]
    exact sl_no (i := 2) (c := x) _ rfl (fun h => hx (next_two.2 h))
  | three _ c d hc hd =>
    have c1 := next_cont hc hne
    have d1 := next_cont hd hne
    rw [show (1 : Int) = ((1 : Nat) : Int) from rfl, sl_yes (i := 1) (c := c) _ (by simp) rfl c1, sl_yes (i := 2) (c := d) _ (by simp) rfl d1]
    exact sl_no (i := 3) (c := x) _ rfl (fun h => hx (next_three.2 h))
  | four => simp at hm; rcases many_cases b with h | h | h | h <;> omega
theorem st_asc {b : Int} (hb : byte b) (h : b < 128) (k : Nat) (hk : 10 ≤ k) : carryallref01_starts.f k [b] = some (true, true) := by
  obtain ⟨k', hk', e⟩ := st_j2 hb [] k hk
  obtain ⟨j, rfl⟩ : ∃ j, k' = j + 6 := ⟨k' - 6, by omega⟩
  have : many1 b = 1 := by unfold many1; rw [if_pos h]
  rw [e, this, carryallref01_starts.j2, if_neg (by simp), carryallref01_starts.l0, if_neg (by simp), if_neg (by simp)]
  rfl
theorem st_bad {b : Int} (hb : byte b) (h : 128 ≤ b) (hm : manyv b = 0) (k : Nat) (hk : 10 ≤ k) : carryallref01_starts.f k [b] = some (false, false) := by
  obtain ⟨k', hk', e⟩ := st_j2 hb [] k hk
  obtain ⟨j, rfl⟩ : ∃ j, k' = j + 6 := ⟨k' - 6, by omega⟩
  have : many1 b = 0 := by unfold many1; rw [if_neg (by omega), hm]
  rw [e, this, carryallref01_starts.j2, if_pos (by simp)]
theorem byte32 {x : Int} (h : byte x) : wrap32 x = x := by obtain ⟨a, b⟩ := h; unfold wrap32; omega
theorem num_full {b : Int} {p : List Int} (hb : bytes (b :: p)) (h0 : 128 ≤ b) (g : Good (b :: p)) (hm : manyv b = ((b :: p).length : Int)) (h2 : 2 ≤ (b :: p).length) (k : Nat) (hk : 10 ≤ k) : carryallref01_number.f k (b :: p) = some (val (b :: p)) := by
  obtain ⟨j, rfl⟩ : ∃ j, k = j + 6 := ⟨k - 6, by omega⟩
  have bb := hb b List.mem_cons_self
  have e32 := byte32 bb
  have hne : manyv b ≠ 0 := by omega
  unfold carryallref01_number.f
  cases g with
  | one => simp at h2
  | two _ c hc =>
    have c1 := next_cont hc hne
    have hr : 194 ≤ b ∧ b ≤ 223 := by simp at hm; unfold manyv at hm; repeat' split at hm <;> omega
    have r1 : rd [b, c] 1 = c := rfl
    have r0 : rd [b, c] 0 = b := rfl
    rw [if_pos (by simp), if_pos (by simp), r0, carryallref01_number.j0, carryallref01_number.l0, if_pos (by simp), if_pos (by omega), r1, w2, carryallref01_number.l0, if_neg (by simp)]
    show some _ = some ((b - 192) * 64 + (c - 128))
    congr 1
    unfold wrap32
    omega
  | three _ c d hc hd =>
    have c1 := next_cont hc hne
    have d1 := next_cont hd hne
    have hr : 224 ≤ b ∧ b ≤ 239 := by simp at hm; unfold manyv at hm; repeat' split at hm <;> omega
    have r1 : rd [b, c, d] 1 = c := rfl
    have r2 : rd [b, c, d] 2 = d := rfl
    have r0 : rd [b, c, d] 0 = b := rfl
    rw [if_pos (by simp), if_neg (by simp), if_pos (by simp), r0, carryallref01_number.j0, carryallref01_number.l0, if_pos (by simp), if_pos (by omega), r1, w2, carryallref01_number.l0, if_pos (by simp), if_pos (by omega), r2, w3, carryallref01_number.l0, if_neg (by simp)]
    show some _ = some (((b - 224) * 64 + (c - 128)) * 64 + (d - 128))
    congr 1
    have e1 : wrap32 (wrap32 (wrap32 (wrap32 (wrap32 b - 224) * 64) + wrap32 c) - 128) = (b - 224) * 64 + (c - 128) := by unfold wrap32; omega
    rw [e1]
    unfold wrap32
    omega
  | four _ c d f hc hd hf =>
    have c1 := next_cont hc hne
    have d1 := next_cont hd hne
    have f1 := next_cont hf hne
    have hr : 240 ≤ b ∧ b ≤ 244 := by simp at hm; unfold manyv at hm; repeat' split at hm <;> omega
    have r1 : rd [b, c, d, f] 1 = c := rfl
    have r2 : rd [b, c, d, f] 2 = d := rfl
    have r3 : rd [b, c, d, f] 3 = f := rfl
    have r0 : rd [b, c, d, f] 0 = b := rfl
    rw [if_pos (by simp), if_neg (by simp), if_neg (by simp), if_pos (by simp), r0, carryallref01_number.j0, carryallref01_number.l0, if_pos (by simp), if_pos (by omega), r1, w2, carryallref01_number.l0, if_pos (by simp), if_pos (by omega), r2, w3, carryallref01_number.l0, if_pos (by simp), if_pos (by omega), r3, w4, carryallref01_number.l0, if_neg (by simp)]
    show some _ = some ((((b - 240) * 64 + (c - 128)) * 64 + (d - 128)) * 64 + (f - 128))
    congr 1
    have e1 : wrap32 (wrap32 (wrap32 (wrap32 (wrap32 b - 240) * 64) + wrap32 c) - 128) = (b - 240) * 64 + (c - 128) := by unfold wrap32; omega
    rw [e1]
    have e2 : wrap32 (wrap32 (wrap32 (((b - 240) * 64 + (c - 128)) * 64) + wrap32 d) - 128) = ((b - 240) * 64 + (c - 128)) * 64 + (d - 128) := by unfold wrap32; omega
    rw [e2]
    unfold wrap32
    omega
theorem num_asc {b : Int} (hb : byte b) (k : Nat) (hk : 10 ≤ k) : carryallref01_number.f k [b] = some b := by
  obtain ⟨j, rfl⟩ : ∃ j, k = j + 2 := ⟨k - 2, by omega⟩
  have r0 : rd [b] 0 = b := rfl
  unfold carryallref01_number.f
  rw [if_pos (by simp), if_neg (by simp), if_neg (by simp), if_neg (by simp), r0, byte32 hb, carryallref01_number.j0, carryallref01_number.l0, if_neg (by simp)]

/-! the reference's Decode -/
def RE (l acc X : List Int) : Prop := ∃ k0, ∀ k, k0 ≤ k → carryallref01_Decode.l0 k l acc = some X
def RE1 (l acc : List Int) (n : Nat) (w : Bool) (X : List Int) : Prop := ∃ k0, ∀ k, k0 ≤ k → carryallref01_Decode.l1 k l acc (n : Int) w = some X
theorem re_more {l acc X : List Int} {n : Nat} {w : Bool} (hn : n < l.length) (hl : l.length ≤ 1000000) (hs : ∀ k, 10 ≤ k → carryallref01_starts.f k (l.take (n + 1)) = some (true, w)) (h : RE1 l acc (n + 1) w X) : RE1 l acc n false X := by
  obtain ⟨k0, hk⟩ := h
  refine ⟨k0 + 20, fun k hk' => ?_⟩
  obtain ⟨j, rfl⟩ : ∃ j, k = j + 2 := ⟨k - 2, by omega⟩
  have hw : wrap64 ((n : Int) + 1) = ((n + 1 : Nat) : Int) := by rw [wrap_in (by omega) (by omega)]; omega
  rw [carryallref01_Decode.l1, if_pos (by omega), carryallref01_Decode.j2, if_pos (by decide), hw, if_pos (by omega), if_pos (by omega), Int.toNat_natCast, hs j (by omega), Option.bind_some, if_pos rfl]
  exact hk j (by omega)
theorem mx_one (n : Nat) : mx (n : Int) 1 = ((max n 1 : Nat) : Int) := by unfold mx; split <;> omega
theorem re_stop {l acc X : List Int} {n : Nat} (hn : n < l.length) (hl : acc.length + l.length ≤ 1000000) (hs : ∀ k, 10 ≤ k → carryallref01_starts.f k (l.take (n + 1)) = some (false, false)) (h : RE (l.drop (max n 1)) (acc ++ [65533]) X) : RE1 l acc n false X := by
  obtain ⟨k0, hk⟩ := h
  refine ⟨k0 + 20, fun k hk' => ?_⟩
  obtain ⟨j, rfl⟩ : ∃ j, k = j + 2 := ⟨k - 2, by omega⟩
  have hw : wrap64 ((n : Int) + 1) = ((n + 1 : Nat) : Int) := by rw [wrap_in (by omega) (by omega)]; omega
  rw [carryallref01_Decode.l1, if_pos (by omega), carryallref01_Decode.j2, if_pos (by decide), hw, if_pos (by omega), if_pos (by omega), Int.toNat_natCast, hs j (by omega), Option.bind_some, if_neg Bool.false_ne_true, if_neg Bool.false_ne_true, if_pos (by omega), mx_one, if_pos (by omega), if_pos (by omega), Int.toNat_natCast]
  exact hk j (by omega)
theorem re_end {l acc X : List Int} {n : Nat} (hn : n = l.length) (h1 : 1 ≤ n) (hl : acc.length + l.length ≤ 1000000) (h : RE (l.drop n) (acc ++ [65533]) X) : RE1 l acc n false X := by
  obtain ⟨k0, hk⟩ := h
  refine ⟨k0 + 20, fun k hk' => ?_⟩
  obtain ⟨j, rfl⟩ : ∃ j, k = j + 2 := ⟨k - 2, by omega⟩
  have hm : max n 1 = n := by omega
  rw [carryallref01_Decode.l1, if_neg (by omega), carryallref01_Decode.j2, if_neg Bool.false_ne_true, if_neg Bool.false_ne_true, if_pos (by omega), mx_one, if_pos (by omega), if_pos (by omega), Int.toNat_natCast, hm]
  exact hk j (by omega)
theorem re_whole {l acc X : List Int} {n : Nat} {v : Int} (hn : n ≤ l.length) (h1 : 1 ≤ n) (hl : acc.length + l.length ≤ 1000000) (hv : ∀ k, 10 ≤ k → carryallref01_number.f k (l.take n) = some v) (h : RE (l.drop n) (acc ++ [v]) X) : RE1 l acc n true X := by
  obtain ⟨k0, hk⟩ := h
  refine ⟨k0 + 20, fun k hk' => ?_⟩
  obtain ⟨j, rfl⟩ : ∃ j, k = j + 2 := ⟨k - 2, by omega⟩
  have tail : (if (true : Bool) = true then (if 0 ≤ (n : Int) then (if (n : Int) ≤ (l.length : Int) then ((carryallref01_number.f j (l.take (n : Int).toNat)).bind fun t248 => (if acc.length < 35184372088832 then (carryallref01_Decode.l0 j (l.drop (n : Int).toNat) (acc ++ [t248])) else (none))) else (none)) else (none)) else none) = some X := by
    rw [if_pos rfl, if_pos (by omega), if_pos (by omega), Int.toNat_natCast, hv j (by omega), Option.bind_some, if_pos (by omega)]
    exact hk j (by omega)
  rw [if_pos rfl] at tail
  rw [carryallref01_Decode.l1]
  split
  · rw [carryallref01_Decode.j2, if_neg (by decide), if_pos rfl]
    exact tail
  · rw [carryallref01_Decode.j2, if_neg (by decide), if_pos rfl]
    exact tail
theorem re_l0 {l acc X : List Int} (h0 : 0 < l.length) (h : RE1 l acc 0 false X) : RE l acc X := by
  obtain ⟨k0, hk⟩ := h
  refine ⟨k0 + 1, fun k hk' => ?_⟩
  obtain ⟨j, rfl⟩ : ∃ j, k = j + 1 := ⟨k - 1, by omega⟩
  rw [carryallref01_Decode.l0, if_pos (by omega)]
  exact hk j (by omega)
/-- The beginnings of what is fine are taken one by one. -/
theorem re_good {b : Int} (hb : byte b) (h0 : 128 ≤ b) (h2 : 2 ≤ manyv b) {acc X : List Int} : ∀ (p t : List Int), Good (b :: p) → ((b :: p).length : Int) ≤ manyv b → (b :: p ++ t).length ≤ 1000000 → RE1 (b :: p ++ t) acc (b :: p).length (((b :: p).length : Int) == manyv b) X → RE1 (b :: p ++ t) acc 0 false X := by
  intro p t g hm hl h
  have cnt : ∀ (q u : List Int), Good (b :: q) → ((b :: q).length : Int) ≤ manyv b → b :: p ++ t = b :: q ++ u → ∀ k, 10 ≤ k → carryallref01_starts.f k ((b :: p ++ t).take (q.length + 1)) = some (true, ((b :: q).length : Int) == manyv b) := by
    intro q u gq hq he k hk
    rw [he, List.take_left' (by simp)]
    exact st_good hb h0 gq hq h2 k hk
  have ne : ∀ n : Nat, (n : Int) < manyv b → ((n : Int) == manyv b) = false := fun n h => by simp; omega
  cases g with
  | one => exact re_more (n := 0) (by simp) hl (cnt [] t (.one b) hm rfl) h
  | two _ c hc =>
    have hm' : (2 : Int) ≤ manyv b := by simpa using hm
    refine re_more (n := 0) (w := false) (by simp) hl (fun k hk => ?_) (re_more (n := 1) (by simp) hl (cnt [c] t (.two b c hc) hm rfl) h)
    exact (cnt [] (c :: t) (.one b) (by simp; omega) rfl k hk).trans (congrArg (fun x => some (true, x)) (ne 1 (by omega)))
  | three _ c d hc hd =>
    have hm' : (3 : Int) ≤ manyv b := by simpa using hm
    refine re_more (n := 0) (w := false) (by simp) hl (fun k hk => ?_) (re_more (n := 1) (w := false) (by simp) hl (fun k hk => ?_) (re_more (n := 2) (by simp) hl (cnt [c, d] t (.three b c d hc hd) hm rfl) h))
    · exact (cnt [] (c :: d :: t) (.one b) (by simp; omega) rfl k hk).trans (congrArg (fun x => some (true, x)) (ne 1 (by omega)))
    · exact (cnt [c] (d :: t) (.two b c hc) (by simp; omega) rfl k hk).trans (congrArg (fun x => some (true, x)) (ne 2 (by omega)))
  | four _ c d f hc hd hf =>
    have hm' : (4 : Int) ≤ manyv b := by simpa using hm
    refine re_more (n := 0) (w := false) (by simp) hl (fun k hk => ?_) (re_more (n := 1) (w := false) (by simp) hl (fun k hk => ?_) (re_more (n := 2) (w := false) (by simp) hl (fun k hk => ?_) (re_more (n := 3) (by simp) hl (cnt [c, d, f] t (.four b c d f hc hd hf) hm rfl) h)))
    · exact (cnt [] (c :: d :: f :: t) (.one b) (by simp; omega) rfl k hk).trans (congrArg (fun x => some (true, x)) (ne 1 (by omega)))
    · exact (cnt [c] (d :: f :: t) (.two b c hc) (by simp; omega) rfl k hk).trans (congrArg (fun x => some (true, x)) (ne 2 (by omega)))
    · exact (cnt [c, d] (f :: t) (.three b c d hc hd) (by simp; omega) rfl k hk).trans (congrArg (fun x => some (true, x)) (ne 3 (by omega)))
theorem re_step {l acc X : List Int} {r : Int} {m : Nat} {ok : Bool} (hb : bytes l) (hl : acc.length + l.length ≤ 1000000) (s : Step l r m ok) (h : RE (l.drop m) (acc ++ [r]) X) : RE l acc X := by
  have hsl := step_len s
  refine re_l0 (by omega) ?_
  cases s with
  | asc _ t h0 h1 =>
    have bb := hb r List.mem_cons_self
    exact re_more (n := 0) (by simp) (by omega) (fun k hk => st_asc bb h1 k hk) (re_whole (n := 1) (by simp) (by omega) hl (fun k hk => num_asc bb k hk) h)
  | bad b t h0 hm =>
    have bb := hb b List.mem_cons_self
    exact re_stop (n := 0) (by simp) hl (fun k hk => st_bad bb h0 hm k hk) h
  | full b p t h0 g hm h2 =>
    have bb := hb b List.mem_cons_self
    have h2' : 2 ≤ manyv b := by omega
    refine re_good bb h0 h2' p t g (by omega) (by omega) ?_
    rw [show (((b :: p).length : Int) == manyv b) = true by rw [hm]; simp]
    refine re_whole (by simp) (by omega) hl (fun k hk => ?_) h
    rw [List.take_left' rfl]
    exact num_full (fun x hx => hb x (List.mem_append_left _ hx)) h0 g hm h2 k hk
  | end_ b p h0 g hm =>
    have bb := hb b List.mem_cons_self
    have h2' : 2 ≤ manyv b := by rw [List.length_cons] at hm; rcases many_cases b with h | h | h | h <;> omega
    have := re_good (acc := acc) (X := X) bb h0 h2' p [] g (by omega) (by rw [List.append_nil]; omega)
    rw [List.append_nil] at this
    refine this ?_
    rw [show (((b :: p).length : Int) == manyv b) = false by simp at hm ⊢; omega]
    exact re_end rfl (by simp) hl h
  | cut b p c t h0 g hm hn =>
    have bb := hb b List.mem_cons_self
    have h2' : 2 ≤ manyv b := by rw [List.length_cons] at hm; rcases many_cases b with h | h | h | h <;> omega
    refine re_good bb h0 h2' p (c :: t) g (by omega) (by omega) ?_
    rw [show (((b :: p).length : Int) == manyv b) = false by simp at hm ⊢; omega]
    refine re_stop (by simp) hl (fun k hk => ?_) ?_
    · have e : (b :: p ++ c :: t).take ((b :: p).length + 1) = b :: p ++ [c] := by
        rw [show b :: p ++ c :: t = (b :: p ++ [c]) ++ t by simp, List.take_left' (by simp)]
      rw [e]
      exact st_cut bb h0 g hm hn k hk
    · rw [show max (b :: p).length 1 = (b :: p).length by simp]
      exact h
end Go.Proofs.YtkoddcihcoekgaaDoor.Dec
