/- Chapter 21: which texts are names: plain laws. -/
import Derived.Test.YtdombgagobooiaaIdAw
namespace Go.Proofs.Ytdombgagobooiaa.Id
open Go.RowKit Go.Proofs.YtdombgagobooiaaW.PrintWords Go.Proofs.YtdombgagobooiaaW.PrintLast Go.Proofs.YtdombgagobooiaaW.PrintMore Go.Proofs.Ytdombgagobooiaa.Pl Go.Proofs.Ytdombgagobooiaa.G Go.Proofs.Ytdombgagobooiaa.P
set_option linter.unusedVariables false
set_option linter.unusedSimpArgs false
def dshB (i : Nat) : Bool := i == 8 || i == 13 || i == 18 || i == 23
def lowx (c : Int) : Bool := decide (48 ≤ c ∧ c ≤ 57) || decide (97 ≤ c ∧ c ≤ 102)
def okc (i : Nat) (c : Int) : Bool := if dshB i = true then c == 45 else if i = 14 then c == 52 else if i = 19 then (c == 56 || c == 57 || c == 97 || c == 98) else lowx c
def isC (S : ByteArray) : Bool := decide (S.size = 36) && (List.range 36).all fun i => okc i (bt S i)
theorem out_36 (m : List Int) : outL m 16 = [dg (m.getD 0 0 / 16), dg (m.getD 0 0 % 16), dg (m.getD 1 0 / 16), dg (m.getD 1 0 % 16), dg (m.getD 2 0 / 16), dg (m.getD 2 0 % 16), dg (m.getD 3 0 / 16), dg (m.getD 3 0 % 16), 45, dg (m.getD 4 0 / 16), dg (m.getD 4 0 % 16), dg (m.getD 5 0 / 16), dg (m.getD 5 0 % 16), 45, dg (m.getD 6 0 / 16), dg (m.getD 6 0 % 16), dg (m.getD 7 0 / 16), dg (m.getD 7 0 % 16), 45, dg (m.getD 8 0 / 16), dg (m.getD 8 0 % 16), dg (m.getD 9 0 / 16), dg (m.getD 9 0 % 16), 45, dg (m.getD 10 0 / 16), dg (m.getD 10 0 % 16), dg (m.getD 11 0 / 16), dg (m.getD 11 0 % 16), dg (m.getD 12 0 / 16), dg (m.getD 12 0 % 16), dg (m.getD 13 0 / 16), dg (m.getD 13 0 % 16), dg (m.getD 14 0 / 16), dg (m.getD 14 0 % 16), dg (m.getD 15 0 / 16), dg (m.getD 15 0 % 16)] := by
  simp [outL, oneL, dashB]
theorem set_at (l : List Int) (hl : l.length = 16) (j : Nat) (hj : j < 16) : (setL l).getD j 0 = nmC l j := nmC_set l hl j hj
theorem dg_low (n : Int) (h0 : 0 ≤ n) (h1 : n < 16) : lowx (dg n) = true := by
  unfold lowx dg
  split <;> simp <;> omega
theorem hxv_dg (n : Int) (h0 : 0 ≤ n) (h1 : n < 16) : hxv (dg n) = n := by
  unfold hxv dg
  split
  · rw [if_pos (by omega)]; omega
  · rw [if_neg (by omega), if_pos (by omega)]; omega
theorem dg_hxv (c : Int) (h : lowx c = true) : dg (hxv c) = c ∧ 0 ≤ hxv c ∧ hxv c < 16 := by
  unfold lowx at h
  simp at h
  unfold hxv dg
  rcases h with h | h
  · rw [if_pos h, if_pos (by omega)]; omega
  · rw [if_neg (by omega), if_pos h, if_neg (by omega)]; omega
theorem dg_byte (n : Int) (h0 : 0 ≤ n) (h1 : n < 16) : byte (dg n) := by
  unfold dg
  split
  · exact ⟨by omega, by omega⟩
  · exact ⟨by omega, by omega⟩
theorem set_byte (l : List Int) (hl : l.length = 16) (hb : ∀ x ∈ l, byte x) (j : Nat) (hj : j < 16) : byte ((setL l).getD j 0) := by
  rw [set_at l hl j hj]
  have hm : ∀ k, k < 16 → byte (l.getD k 0) := fun k hk => by
    rw [List.getD_eq_getElem?_getD, List.getElem?_eq_getElem (by omega)]
    exact hb _ (List.getElem_mem _)
  unfold nmC
  split
  · unfold v6; exact ⟨by omega, by omega⟩
  · split
    · unfold v8; exact ⟨by omega, by omega⟩
    · exact hm j hj
theorem set_len (l : List Int) : (setL l).length = l.length := by unfold setL; simp
theorem of_len (l : List Int) : (ofL l).length = 36 := by rw [ofL, out_36]; rfl
/-- All that stands in a name fits. -/
theorem of_okc (l : List Int) (hl : l.length = 16) (hb : ∀ x ∈ l, byte x) : ∀ i, i < 36 → okc i ((ofL l).getD i 0) = true ∧ byte ((ofL l).getD i 0) := by
  have q : ∀ j, j < 16 → 0 ≤ (setL l).getD j 0 ∧ (setL l).getD j 0 ≤ 255 := fun j hj => set_byte l hl hb j hj
  have g6 : (setL l).getD 6 0 / 16 = 4 := by rw [set_at l hl 6 (by omega)]; show v6 _ / 16 = 4; unfold v6; omega
  have g8 : 8 ≤ (setL l).getD 8 0 / 16 ∧ (setL l).getD 8 0 / 16 ≤ 11 := by rw [set_at l hl 8 (by omega)]; show 8 ≤ v8 _ / 16 ∧ v8 _ / 16 ≤ 11; unfold v8; omega
  unfold ofL
  generalize setL l = m at *
  rw [out_36]
  have lo : ∀ j, j < 16 → lowx (dg (m.getD j 0 % 16)) = true ∧ byte (dg (m.getD j 0 % 16)) := fun j hj => ⟨dg_low _ (by omega) (by omega), dg_byte _ (by omega) (by omega)⟩
  have hi : ∀ j, j < 16 → lowx (dg (m.getD j 0 / 16)) = true ∧ byte (dg (m.getD j 0 / 16)) := fun j hj => ⟨dg_low _ (by have := q j hj; omega) (by have := q j hj; omega), dg_byte _ (by have := q j hj; omega) (by have := q j hj; omega)⟩
  have b45 : byte 45 := ⟨by decide, by decide⟩
  have h19 : (dg (m.getD 8 0 / 16) == 56 || dg (m.getD 8 0 / 16) == 57 || dg (m.getD 8 0 / 16) == 97 || dg (m.getD 8 0 / 16) == 98) = true := by
    generalize m.getD 8 0 / 16 = z at *
    have : z = 8 ∨ z = 9 ∨ z = 10 ∨ z = 11 := by omega
    rcases this with rfl | rfl | rfl | rfl <;> rfl
  have h14 : (dg (m.getD 6 0 / 16) == 52) = true := by rw [g6]; rfl
  intro i hi36
  match i, hi36 with
  | 0, _ => exact hi 0 (by omega)
  | 1, _ => exact lo 0 (by omega)
  | 2, _ => exact hi 1 (by omega)
  | 3, _ => exact lo 1 (by omega)
  | 4, _ => exact hi 2 (by omega)
  | 5, _ => exact lo 2 (by omega)
  | 6, _ => exact hi 3 (by omega)
  | 7, _ => exact lo 3 (by omega)
  | 8, _ => exact ⟨rfl, b45⟩
  | 9, _ => exact hi 4 (by omega)
  | 10, _ => exact lo 4 (by omega)
  | 11, _ => exact hi 5 (by omega)
  | 12, _ => exact lo 5 (by omega)
  | 13, _ => exact ⟨rfl, b45⟩
  | 14, _ => exact ⟨h14, (hi 6 (by omega)).2⟩
  | 15, _ => exact lo 6 (by omega)
  | 16, _ => exact hi 7 (by omega)
  | 17, _ => exact lo 7 (by omega)
  | 18, _ => exact ⟨rfl, b45⟩
  | 19, _ => exact ⟨h19, (hi 8 (by omega)).2⟩
  | 20, _ => exact lo 8 (by omega)
  | 21, _ => exact hi 9 (by omega)
  | 22, _ => exact lo 9 (by omega)
  | 23, _ => exact ⟨rfl, b45⟩
  | 24, _ => exact hi 10 (by omega)
  | 25, _ => exact lo 10 (by omega)
  | 26, _ => exact hi 11 (by omega)
  | 27, _ => exact lo 11 (by omega)
  | 28, _ => exact hi 12 (by omega)
  | 29, _ => exact lo 12 (by omega)
  | 30, _ => exact hi 13 (by omega)
  | 31, _ => exact lo 13 (by omega)
  | 32, _ => exact hi 14 (by omega)
  | 33, _ => exact lo 14 (by omega)
  | 34, _ => exact hi 15 (by omega)
  | 35, _ => exact lo 15 (by omega)
  | n + 36, h => exact absurd h (by omega)
set_option maxHeartbeats 1000000 in
/-- A text that fits is the name of its own digits. -/
theorem fit_name (S : ByteArray) (h : isC S = true) : bytesOf S = ofL (vals S) ∧ (∀ k, k < 16 → okk S k) ∧ S.size = 36 := by
  unfold isC at h
  simp only [Bool.and_eq_true, decide_eq_true_eq, List.all_eq_true, List.mem_range] at h
  obtain ⟨hs, hc⟩ := h
  have hlow : ∀ i, i < 36 → dshB i = false → lowx (bt S (i : Nat)) = true := by
    intro i hi hd
    have := hc i hi
    unfold okc at this
    rw [hd] at this
    simp only [Bool.false_eq_true, if_false] at this
    split at this
    · simp at this; unfold lowx; rw [this]; rfl
    · split at this
      · simp at this; unfold lowx; rcases this with ((e | e) | e) | e <;> (rw [e]; rfl)
      · exact this
  have hval : ∀ j, j < 16 → (vals S).getD j 0 = 16 * hi4 S j + lo4 S j := by
    intro j hj
    unfold vals
    simp [List.getD, hj]
  have hnd : ∀ j, j < 16 → dshB (posd j) = false ∧ dshB (posd j + 1) = false ∧ posd j + 1 < 36 := by decide +kernel
  have hH : ∀ j, j < 16 → dg (hi4 S j) = bt S (posd j : Nat) ∧ 0 ≤ hi4 S j ∧ hi4 S j < 16 := fun j hj => dg_hxv _ (hlow (posd j) (by have := (hnd j hj).2.2; omega) (hnd j hj).1)
  have hL : ∀ j, j < 16 → dg (lo4 S j) = bt S ((posd j + 1 : Nat) : Int) ∧ 0 ≤ lo4 S j ∧ lo4 S j < 16 := fun j hj => dg_hxv _ (hlow (posd j + 1) (hnd j hj).2.2 (hnd j hj).2.1)
  have hdash : ∀ i, i < 36 → dshB i = true → bt S (i : Nat) = 45 := by
    intro i hi hd
    have := hc i hi
    unfold okc at this
    rw [if_pos hd] at this
    exact beq_iff_eq.1 this
  have hvl : (vals S).length = 16 := by simp [vals]
  have hset : ∀ j, j < 16 → (setL (vals S)).getD j 0 = 16 * hi4 S j + lo4 S j := by
    intro j hj
    rw [set_at _ hvl j hj]
    unfold nmC
    split
    · rename_i e
      subst e
      rw [hval 6 (by omega)]
      have h14 := hc 14 (by omega)
      unfold okc at h14
      rw [if_neg (by decide), if_pos rfl] at h14
      have e4 : hi4 S 6 = 4 := by show hxv (bt S ((14 : Nat) : Int)) = 4; rw [beq_iff_eq.1 h14]; rfl
      have := hL 6 (by omega)
      unfold v6
      omega
    · split
      · rename_i e
        subst e
        rw [hval 8 (by omega)]
        have h19 := hc 19 (by omega)
        unfold okc at h19
        rw [if_neg (by decide), if_neg (by decide), if_pos rfl] at h19
        simp only [Bool.or_eq_true, beq_iff_eq] at h19
        have e4 : hi4 S 8 = 8 ∨ hi4 S 8 = 9 ∨ hi4 S 8 = 10 ∨ hi4 S 8 = 11 := by
          show hxv (bt S ((19 : Nat) : Int)) = 8 ∨ hxv (bt S ((19 : Nat) : Int)) = 9 ∨ hxv (bt S ((19 : Nat) : Int)) = 10 ∨ hxv (bt S ((19 : Nat) : Int)) = 11
          rcases h19 with ((e | e) | e) | e <;> rw [e]
          · exact Or.inl rfl
          · exact Or.inr (Or.inl rfl)
          · exact Or.inr (Or.inr (Or.inl rfl))
          · exact Or.inr (Or.inr (Or.inr rfl))
        have := hL 8 (by omega)
        unfold v8
        omega
      · exact hval j hj
  have hdiv : ∀ j, j < 16 → dg ((setL (vals S)).getD j 0 / 16) = bt S (posd j : Nat) := by
    intro j hj
    have h1 := hH j hj
    have h2 := hL j hj
    rw [hset j hj, show (16 * hi4 S j + lo4 S j) / 16 = hi4 S j by omega]
    exact h1.1
  have hmod : ∀ j, j < 16 → dg ((setL (vals S)).getD j 0 % 16) = bt S ((posd j + 1 : Nat) : Int) := by
    intro j hj
    have h1 := hH j hj
    have h2 := hL j hj
    rw [hset j hj, show (16 * hi4 S j + lo4 S j) % 16 = lo4 S j by omega]
    exact h2.1
  refine ⟨?_, fun k hk => ⟨(hH k hk).2.1, (hL k hk).2.1⟩, hs⟩
  have hlen : (bytesOf S).length = 36 := by rw [bytesOf_length]; exact hs
  refine List.ext_getElem (by rw [hlen, of_len]) fun i h1 h2 => ?_
  rw [← bt_get S i h1]
  unfold ofL at *
  generalize setL (vals S) = m at *
  simp only [out_36]
  match i, (show i < 36 by omega) with
  | 0, _ => exact (hdiv 0 (by omega)).symm
  | 1, _ => exact (hmod 0 (by omega)).symm
  | 2, _ => exact (hdiv 1 (by omega)).symm
  | 3, _ => exact (hmod 1 (by omega)).symm
  | 4, _ => exact (hdiv 2 (by omega)).symm
  | 5, _ => exact (hmod 2 (by omega)).symm
  | 6, _ => exact (hdiv 3 (by omega)).symm
  | 7, _ => exact (hmod 3 (by omega)).symm
  | 8, _ => exact hdash 8 (by omega) rfl
  | 9, _ => exact (hdiv 4 (by omega)).symm
  | 10, _ => exact (hmod 4 (by omega)).symm
  | 11, _ => exact (hdiv 5 (by omega)).symm
  | 12, _ => exact (hmod 5 (by omega)).symm
  | 13, _ => exact hdash 13 (by omega) rfl
  | 14, _ => exact (hdiv 6 (by omega)).symm
  | 15, _ => exact (hmod 6 (by omega)).symm
  | 16, _ => exact (hdiv 7 (by omega)).symm
  | 17, _ => exact (hmod 7 (by omega)).symm
  | 18, _ => exact hdash 18 (by omega) rfl
  | 19, _ => exact (hdiv 8 (by omega)).symm
  | 20, _ => exact (hmod 8 (by omega)).symm
  | 21, _ => exact (hdiv 9 (by omega)).symm
  | 22, _ => exact (hmod 9 (by omega)).symm
  | 23, _ => exact hdash 23 (by omega) rfl
  | 24, _ => exact (hdiv 10 (by omega)).symm
  | 25, _ => exact (hmod 10 (by omega)).symm
  | 26, _ => exact (hdiv 11 (by omega)).symm
  | 27, _ => exact (hmod 11 (by omega)).symm
  | 28, _ => exact (hdiv 12 (by omega)).symm
  | 29, _ => exact (hmod 12 (by omega)).symm
  | 30, _ => exact (hdiv 13 (by omega)).symm
  | 31, _ => exact (hmod 13 (by omega)).symm
  | 32, _ => exact (hdiv 14 (by omega)).symm
  | 33, _ => exact (hmod 14 (by omega)).symm
  | 34, _ => exact (hdiv 15 (by omega)).symm
  | 35, _ => exact (hmod 15 (by omega)).symm
  | n + 36, h => exact absurd h (by omega)
set_option maxHeartbeats 1000000 in
theorem fit_iff (S : ByteArray) : isQ S = isC S := by
  rw [Bool.eq_iff_iff]
  constructor
  · intro h
    unfold isQ at h
    simp only [Bool.and_eq_true, decide_eq_true_eq, List.all_eq_true, List.mem_range] at h
    obtain ⟨⟨hs, hok⟩, he⟩ := h
    have hvl : (vals S).length = 16 := by simp [vals]
    have hvb : ∀ x ∈ vals S, byte x := by
      intro y hy
      obtain ⟨j, hj, rfl⟩ := List.mem_map.1 hy
      have hj' := List.mem_range.1 hj
      have hok := hok j hj'
      have e1 : hi4 S j ≤ 15 := (hxv_le (bt S (posd j : Nat))).2
      have e2 : lo4 S j ≤ 15 := (hxv_le (bt S ((posd j + 1 : Nat) : Int))).2
      have := hok.1
      have := hok.2
      exact ⟨by omega, by omega⟩
    have heq : strOfNums (ofL (vals S)) = S := toList_iff.1 (beq_iff_eq.1 he)
    have hall := of_okc (vals S) hvl hvb
    have hbs : bytesOf S = ofL (vals S) := by
      rw [← heq, bytes_str]
      · rw [heq]
      · intro x hx
        obtain ⟨i, hi, rfl⟩ := List.getElem_of_mem hx
        have := (hall i hi).2
        rwa [List.getD_eq_getElem?_getD, List.getElem?_eq_getElem hi] at this
    unfold isC
    simp only [Bool.and_eq_true, decide_eq_true_eq, List.all_eq_true, List.mem_range]
    refine ⟨hs, fun i hi => ?_⟩
    have := (hall i hi).1
    rw [bt_get S i (by rw [hbs, of_len]; exact hi)]
    have e : (ofL (vals S)).getD i 0 = (bytesOf S)[i]'(by rw [hbs, of_len]; exact hi) := by
      rw [List.getD_eq_getElem?_getD, List.getElem?_eq_getElem (show i < (ofL (vals S)).length by rw [of_len]; exact hi)]
      simp only [hbs, Option.getD_some]
    rw [← e]
    exact this
  · intro h
    obtain ⟨h1, h2, h3⟩ := fit_name S h
    unfold isQ
    have e : strOfNums (ofL (vals S)) = S := by rw [← h1]; exact str_bytes S
    rw [e]
    simp only [h3, decide_true, Bool.true_and, beq_self_eq_true, Bool.and_true, List.all_eq_true, List.mem_range]
    exact fun k hk => decide_eq_true (h2 k hk)
end Go.Proofs.Ytdombgagobooiaa.Id
