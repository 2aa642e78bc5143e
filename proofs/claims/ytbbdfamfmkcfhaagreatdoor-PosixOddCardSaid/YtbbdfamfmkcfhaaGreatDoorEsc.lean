/- What the functions of package escape compute, told on lists of bytes: the digits' numbers, a text meant, bytes escaped. For strings up to 2^47 bytes. -/
import Derived.Test.YtbbdfamfmkcfhaaGreatDoorPx1
import Derived.Test.YtbbdfamfmkcfhaaGreatDoorPx4
import Derived.Test.YtbbdfamfmkcfhaaGreatDoorPl
namespace Go.Proofs.YtbbdfamfmkcfhaaGreatDoor.Esc
open Go.RowKit Go.Proofs.YtbbdfamfmkcfhaaGreatDoor.P Go.Proofs.YtbbdfamfmkcfhaaGreatDoor.Pl Go.Proofs.YtbbdfamfmkcfhaaGreatDoorW.PrintWords Go.Proofs.YtbbdfamfmkcfhaaGreatDoorW.PrintLast
set_option linter.unusedVariables false

def hexv (c : Int) : Int := if 48 ≤ c ∧ c ≤ 57 then c - 48 else if 97 ≤ c ∧ c ≤ 102 then c - 87 else if 65 ≤ c ∧ c ≤ 70 then c - 55 else -1
theorem hexv_range (c : Int) : -1 ≤ hexv c ∧ hexv c ≤ 15 := by
  unfold hexv
  split
  · omega
  · split
    · omega
    · split <;> omega
theorem hex_f (k : Nat) (c : Int) (hb : byte c) : utf_Hex.f (k + 1) c = some (hexv c) := by
  obtain ⟨h0, h1⟩ := hb
  unfold utf_Hex.f utf_Digit.f hexv
  by_cases a : 48 ≤ c
  · by_cases b : c ≤ 57
    · have e : (c - 48) % 256 = c - 48 := by omega
      simp [a, b, e]
    · by_cases d : 97 ≤ c
      · by_cases f : c ≤ 102
        · have e : (c - 97) % 256 + 10 = c - 87 := by omega
          simp [a, b, d, f, utf_Hex.j0, e]
        · have g : ¬ c ≤ 70 := by omega
          simp [a, b, d, f, g, utf_Hex.j0]
      · by_cases f : 65 ≤ c
        · by_cases g : c ≤ 70
          · have e : (c - 65) % 256 + 10 = c - 55 := by omega
            simp [a, b, d, f, g, utf_Hex.j0, e]
          · simp [a, b, d, f, g, utf_Hex.j0]
        · simp [a, b, d, f, utf_Hex.j0]
  · have d : ¬ 97 ≤ c := by omega
    have f : ¬ 65 ≤ c := by omega
    simp [a, d, f, utf_Hex.j0]

theorem or_hex {a b : Int} (ha : 0 ≤ a) (ha' : a ≤ 15) (hb : 0 ≤ b) (hb' : b ≤ 15) : (Go.bits .or .i64 (wrap64 (a * 16)) b) % 256 = 16 * a + b := by
  obtain ⟨m, rfl⟩ := Int.eq_ofNat_of_zero_le ha
  obtain ⟨n, rfl⟩ := Int.eq_ofNat_of_zero_le hb
  have H : ∀ m : Nat, m < 16 → ∀ n : Nat, n < 16 → (Go.bits .or .i64 (wrap64 ((m : Int) * 16)) (n : Int)) % 256 = 16 * (m : Int) + (n : Int) := by decide +kernel
  exact H m (by omega) n (by omega)

/-- What a text means. -/
def dec : List Int → List Int
  | [] => []
  | [c] => [c]
  | [c, a] => [c, a]
  | c :: a :: b :: t => if c = 37 ∧ 0 ≤ hexv a ∧ 0 ≤ hexv b then (16 * hexv a + hexv b) :: dec t else c :: dec (a :: b :: t)
theorem dec_ne {c : Int} (h : c ≠ 37) (t : List Int) : dec (c :: t) = c :: dec t := by
  match t with
  | [] => rfl
  | [a] => rfl
  | a :: b :: u => simp [dec, h]
theorem dec_hex {a b : Int} (ha : 0 ≤ hexv a) (hb : 0 ≤ hexv b) (t : List Int) : dec (37 :: a :: b :: t) = (16 * hexv a + hexv b) :: dec t := by simp [dec, ha, hb]
theorem dec_no {a b : Int} (h : ¬ (0 ≤ hexv a ∧ 0 ≤ hexv b)) (t : List Int) : dec (37 :: a :: b :: t) = 37 :: dec (a :: b :: t) := by
  rw [dec, if_neg (fun hh => h hh.2)]
theorem dec_byte : ∀ (l : List Int), (∀ x ∈ l, byte x) → ∀ x ∈ dec l, byte x
  | [], _ => fun x hx => by simp [dec] at hx
  | [c], h => fun x hx => h x (by simpa [dec] using hx)
  | [c, a], h => fun x hx => h x (by simpa [dec] using hx)
  | c :: a :: b :: t, h => fun x hx => by
    rw [dec] at hx
    split at hx
    · rename_i hc
      rcases List.mem_cons.1 hx with rfl | hx
      · have h1 := hexv_range a
        have h2 := hexv_range b
        exact ⟨by omega, by omega⟩
      · exact dec_byte t (fun y hy => h y (by simp [hy])) x hx
    · rcases List.mem_cons.1 hx with rfl | hx
      · exact h _ (by simp)
      · exact dec_byte (a :: b :: t) (fun y hy => h y (List.mem_cons_of_mem _ hy)) x hx
theorem dec_len : ∀ (l : List Int), (dec l).length ≤ l.length
  | [] => Nat.le_refl _
  | [c] => Nat.le_refl _
  | [c, a] => Nat.le_refl _
  | c :: a :: b :: t => by
    rw [dec]
    split
    · have := dec_len t
      simp only [List.length_cons]
      omega
    · have := dec_len (a :: b :: t)
      simp only [List.length_cons] at this ⊢
      omega

theorem j1_no {k : Nat} {s : ByteArray} {acc : List Int} {i : Nat} (hi : i < s.size) (hs : s.size ≤ 140737488351232) (ha : acc.length ≤ i) :
    escape_Decode.j1 (k + 1) s acc (i : Int) false = escape_Decode.l0 k s (acc ++ [bt s i]) ((i + 1 : Nat) : Int) := by
  have e : wrap64 ((i : Int) + 1) = ((i + 1 : Nat) : Int) := by rw [wrap_in (by omega) (by omega)]; omega
  simp only [escape_Decode.j1, Bool.false_eq_true, if_false]
  rw [if_pos (by omega), if_pos (by omega), if_pos (by omega), e]
theorem j1_yes {k : Nat} {s : ByteArray} {acc : List Int} {i : Nat} (hi : i + 2 < s.size) (hs : s.size ≤ 140737488351232) (ha : acc.length ≤ i) (h1 : 0 ≤ hexv (bt s ((i + 1 : Nat) : Int))) (h2 : 0 ≤ hexv (bt s ((i + 2 : Nat) : Int))) :
    escape_Decode.j1 (k + 2) s acc (i : Int) true = escape_Decode.l0 (k + 1) s (acc ++ [16 * hexv (bt s ((i + 1 : Nat) : Int)) + hexv (bt s ((i + 2 : Nat) : Int))]) ((i + 3 : Nat) : Int) := by
  have e1 : wrap64 ((i : Int) + 1) = ((i + 1 : Nat) : Int) := by rw [wrap_in (by omega) (by omega)]; omega
  have e2 : wrap64 ((i : Int) + 2) = ((i + 2 : Nat) : Int) := by rw [wrap_in (by omega) (by omega)]; omega
  have e3 : wrap64 (((i + 2 : Nat) : Int) + 1) = ((i + 3 : Nat) : Int) := by rw [wrap_in (by omega) (by omega)]; omega
  have r1 := hexv_range (bt s ((i + 1 : Nat) : Int))
  have r2 := hexv_range (bt s ((i + 2 : Nat) : Int))
  simp only [escape_Decode.j1, if_true]
  rw [e1, e2, if_pos (by omega), if_pos (by omega), hex_f _ _ (bt_byte _ _), Option.bind_some, if_pos (by omega), if_pos (by omega), hex_f _ _ (bt_byte _ _), Option.bind_some, if_pos (by omega), e3, or_hex h1 r1.2 h2 r2.2]

theorem dec_l0 (s : ByteArray) (hs : s.size ≤ 140737488351232) : ∀ (n k i : Nat) (acc : List Int), s.size - i ≤ n → i ≤ s.size → acc.length ≤ i → 2 * n + 2 ≤ k →
    escape_Decode.l0 k s acc (i : Int) = some (acc ++ dec ((bytesOf s).drop i)) := by
  intro n
  induction n using Nat.strongRecOn with
  | _ n ih =>
  intro k i acc hn hi ha hk
  obtain ⟨k, rfl⟩ : ∃ m, k = m + 2 := ⟨k - 2, by omega⟩
  rcases Nat.lt_or_ge i s.size with hlt | hge
  · have hd := drop_bt s i hlt
    have go_on : ∀ (c : Int), bt s (i : Int) = c → dec ((bytesOf s).drop i) = c :: dec ((bytesOf s).drop (i + 1)) → escape_Decode.j1 (k + 1) s acc (i : Int) false = some (acc ++ dec ((bytesOf s).drop i)) := by
      intro c hc hdec
      rw [j1_no hlt hs ha, ih (s.size - (i + 1)) (by omega) _ _ _ (Nat.le_refl _) (by omega) (by simp; omega) (by omega), hdec, hc]
      simp
    simp only [escape_Decode.l0]
    rw [if_pos (by omega), if_pos (by omega)]
    by_cases hc : bt s (i : Int) = 37
    · rw [if_pos hc]
      have e1 : wrap64 ((i : Int) + 1) = ((i + 1 : Nat) : Int) := by rw [wrap_in (by omega) (by omega)]; omega
      have e2 : wrap64 ((i : Int) + 2) = ((i + 2 : Nat) : Int) := by rw [wrap_in (by omega) (by omega)]; omega
      rw [e1, e2]
      by_cases h2 : i + 2 < s.size
      · have hd1 := drop_bt s (i + 1) (by omega)
        have hd2 := drop_bt s (i + 2) (by omega)
        rw [if_pos (by omega), if_pos (by omega), if_pos (by omega), hex_f _ _ (bt_byte _ _), Option.bind_some]
        by_cases g1 : 0 ≤ hexv (bt s ((i + 1 : Nat) : Int))
        · rw [if_pos g1, if_pos (by omega), hex_f _ _ (bt_byte _ _), Option.bind_some]
          by_cases g2 : 0 ≤ hexv (bt s ((i + 2 : Nat) : Int))
          · rw [decide_eq_true (show hexv (bt s ((i + 2 : Nat) : Int)) ≥ 0 from g2)]
            obtain ⟨k, rfl⟩ : ∃ m, k = m + 1 := ⟨k - 1, by omega⟩
            rw [j1_yes h2 hs ha g1 g2, ih (s.size - (i + 3)) (by omega) _ _ _ (Nat.le_refl _) (by omega) (by simp; omega) (by omega), hd, hd1, hd2, hc, dec_hex g1 g2]
            simp
          · rw [decide_eq_false (show ¬ hexv (bt s ((i + 2 : Nat) : Int)) ≥ 0 from g2)]
            exact go_on 37 hc (by rw [hd, hd1, hd2, hc, dec_no (fun h => g2 h.2)])
        · rw [if_neg g1]
          exact go_on 37 hc (by rw [hd, hd1, hd2, hc, dec_no (fun h => g1 h.1)])
      · rw [if_neg (by omega)]
        refine go_on 37 hc ?_
        rcases Nat.lt_or_ge (i + 1) s.size with h1 | h1
        · rw [hd, drop_bt s (i + 1) h1, drop_end s (i + 1 + 1) (by omega), hc]
          rfl
        · rw [hd, drop_end s (i + 1) h1, hc]
          rfl
    · rw [if_neg hc]
      exact go_on _ rfl (by rw [hd, dec_ne hc])
  · simp only [escape_Decode.l0]
    rw [if_neg (by omega), drop_end s i hge]
    simp [dec]

theorem dec_f {s : ByteArray} {k : Nat} (hs : s.size ≤ 140737488351232) (hk : 2 * s.size + 2 ≤ k) : escape_Decode.f k s = some (dec (bytesOf s)) := by
  unfold escape_Decode.f
  have := dec_l0 s hs s.size k 0 [] (by omega) (by omega) (by simp) hk
  simpa using this

/-! ### what a set has -/
def inB (a c : Int) : Bool := (escape_In.f 1 a c).getD false
theorem in_f (k : Nat) (a c : Int) : escape_In.f (k + 1) a c = some (inB a c) := by
  have H : ∃ b, ∀ k, escape_In.f (k + 1) a c = some b := by
    unfold escape_In.f
    have J : ∀ b, ∃ r, ∀ k, escape_In.j0 (k + 1) a c b = some r := by
      intro b
      cases b
      · obtain ⟨t, ht⟩ : ∃ t, escape_signs.f a = some t := by
          unfold escape_signs.f
          repeat' split
          all_goals exact ⟨_, rfl⟩
        by_cases h1 : c < 32
        · exact ⟨true, fun k => by simp [escape_In.j0, h1]⟩
        · by_cases h2 : c > 126
          · exact ⟨true, fun k => by simp [escape_In.j0, h1, h2]⟩
          · exact ⟨_, fun k => by simp only [escape_In.j0, Bool.false_eq_true, if_false]; rw [if_neg h1, if_neg h2, ht]; rfl⟩
      · exact ⟨false, fun k => rfl⟩
    split
    · exact J true
    · exact J _
  obtain ⟨b, hb⟩ := H
  rw [hb k]
  unfold inB
  rw [hb 0]
  rfl
theorem in_none {a : Int} (h : ¬ (0 ≤ a ∧ a ≤ 6)) (c : Int) : inB a c = false := by
  unfold inB escape_In.f
  by_cases hn : a < 0
  · rw [if_pos hn]; rfl
  · rw [if_neg hn, decide_eq_true (by omega : a > 6)]; rfl

/-! ### bytes, escaped -/
def escs (a : Int) (l : List Int) : List Int := l.flatMap fun c => escape_Encode.enc1 (inB a c) c
theorem go_enc (a : Int) : ∀ l : List Int, (∀ x ∈ l, byte x) → escape_Encode.go a l = some (escs a l)
  | [], _ => rfl
  | c :: t, h => by
    have hc := h c List.mem_cons_self
    rw [escape_Encode.go, if_pos ⟨hc.1, hc.2⟩, in_f 2 a c, Option.bind_some, go_enc a t (fun y hy => h y (List.mem_cons_of_mem _ hy))]
    simp [escs]
theorem enc_f {a : Int} {l : List Int} (h : ∀ x ∈ l, byte x) (hl : l.length * 3 ≤ 140737488355328) : escape_Encode.f a l = some (strOfNums (escs a l)) := by
  unfold escape_Encode.f
  rw [if_pos hl, go_enc a l h]
  rfl
theorem hxd_byte {n : Int} (h0 : 0 ≤ n) (h1 : n ≤ 15) : byte (escape_Encode.hxd n) := by
  unfold escape_Encode.hxd
  split <;> exact ⟨by omega, by omega⟩
theorem hexv_hxd {n : Int} (h0 : 0 ≤ n) (h1 : n ≤ 15) : hexv (escape_Encode.hxd n) = n := by
  obtain ⟨m, rfl⟩ := Int.eq_ofNat_of_zero_le h0
  have H : ∀ m : Nat, m < 16 → hexv (escape_Encode.hxd (m : Int)) = (m : Int) := by decide +kernel
  exact H m (by omega)
theorem enc1_byte {b : Bool} {c : Int} (h : byte c) : ∀ x ∈ escape_Encode.enc1 b c, byte x := by
  intro x hx
  obtain ⟨h0, h1⟩ := h
  unfold escape_Encode.enc1 at hx
  cases b
  · simp at hx
    subst hx
    exact ⟨h0, h1⟩
  · simp at hx
    rcases hx with rfl | rfl | rfl
    · exact ⟨by omega, by omega⟩
    · exact hxd_byte (by omega) (by omega)
    · exact hxd_byte (by omega) (by omega)
theorem escs_byte (a : Int) {l : List Int} (h : ∀ x ∈ l, byte x) : ∀ x ∈ escs a l, byte x := by
  intro x hx
  obtain ⟨c, hc, hx⟩ := List.mem_flatMap.1 hx
  exact enc1_byte (h c hc) x hx
theorem enc1_len (b : Bool) (c : Int) : (escape_Encode.enc1 b c).length ≤ 3 := by
  unfold escape_Encode.enc1
  split <;> simp
theorem escs_len (a : Int) : ∀ l : List Int, (escs a l).length ≤ 3 * l.length
  | [] => Nat.le_refl _
  | c :: t => by
    have h1 := enc1_len (inB a c) c
    have h2 := escs_len a t
    simp only [escs, List.flatMap_cons, List.length_append, List.length_cons] at h2 ⊢
    omega
theorem escs_append (a : Int) (l m : List Int) : escs a (l ++ m) = escs a l ++ escs a m := by simp [escs]

/-- What is escaped is meant as it was, if each percent sign is escaped. -/
theorem dec_escs (a : Int) : ∀ l : List Int, (∀ x ∈ l, byte x) → (∀ x ∈ l, x = 37 → inB a x = true) → dec (escs a l) = l
  | [], _, _ => rfl
  | c :: t, h, hp => by
    have ih := dec_escs a t (fun y hy => h y (List.mem_cons_of_mem _ hy)) (fun y hy => hp y (List.mem_cons_of_mem _ hy))
    obtain ⟨h0, h1⟩ := h c List.mem_cons_self
    have e : escs a (c :: t) = escape_Encode.enc1 (inB a c) c ++ escs a t := by simp [escs]
    rw [e]
    cases hb : inB a c
    · have hc : c ≠ 37 := fun hc => by rw [hp c List.mem_cons_self hc] at hb; cases hb
      simp only [escape_Encode.enc1, Bool.false_eq_true, if_false, List.singleton_append]
      rw [dec_ne hc, ih]
    · have d1 : hexv (escape_Encode.hxd (c / 16)) = c / 16 := hexv_hxd (by omega) (by omega)
      have d2 : hexv (escape_Encode.hxd (c % 16)) = c % 16 := hexv_hxd (by omega) (by omega)
      simp only [escape_Encode.enc1, if_true, List.cons_append, List.nil_append]
      rw [dec_hex (by omega) (by omega), ih, d1, d2]
      congr 1
      omega
theorem in_plain {a : Int} (h : a ≠ 6) : inB a 37 = false ∧ ∀ n : Int, 0 ≤ n → n ≤ 15 → inB a (escape_Encode.hxd n) = false := by
  by_cases h0 : 0 ≤ a ∧ a ≤ 6
  · obtain ⟨m, rfl⟩ := Int.eq_ofNat_of_zero_le h0.1
    have H : ∀ m : Nat, m < 6 → inB (m : Int) 37 = false ∧ ∀ n : Nat, n < 16 → inB (m : Int) (escape_Encode.hxd (n : Int)) = false := by decide +kernel
    refine ⟨(H m (by omega)).1, fun n hn0 hn1 => ?_⟩
    obtain ⟨n, rfl⟩ := Int.eq_ofNat_of_zero_le hn0
    exact (H m (by omega)).2 n (by omega)
  · exact ⟨in_none h0 _, fun n _ _ => in_none h0 _⟩
theorem escs_same {a : Int} : ∀ l : List Int, (∀ x ∈ l, inB a x = false) → escs a l = l
  | [], _ => rfl
  | c :: t, h => by
    have e : escs a (c :: t) = escape_Encode.enc1 (inB a c) c ++ escs a t := by simp [escs]
    rw [e, h c List.mem_cons_self, escs_same t (fun y hy => h y (List.mem_cons_of_mem _ hy))]
    simp [escape_Encode.enc1]
/-- Escaped twice it is the same, where the percent sign itself isn't escaped. -/
theorem escs_twice {a : Int} (ha : a ≠ 6) {l : List Int} (h : ∀ x ∈ l, byte x) : escs a (escs a l) = escs a l := by
  refine escs_same _ (fun x hx => ?_)
  obtain ⟨c, hc, hx⟩ := List.mem_flatMap.1 hx
  obtain ⟨h0, h1⟩ := h c hc
  have hp := in_plain ha
  unfold escape_Encode.enc1 at hx
  cases hb : inB a c
  · rw [hb] at hx
    simp at hx
    rw [hx, hb]
  · rw [hb] at hx
    simp at hx
    rcases hx with rfl | rfl | rfl
    · exact hp.1
    · exact hp.2 _ (by omega) (by omega)
    · exact hp.2 _ (by omega) (by omega)

/-- Two texts are meant one by one, if the first one doesn't end within an escape. -/
theorem dec_append : ∀ (l m : List Int), (∀ i, l.length ≤ i + 2 → l[i]? ≠ some 37) → dec (l ++ m) = dec l ++ dec m
  | [], m, _ => rfl
  | [c], m, h => by
    have hc : c ≠ 37 := fun e => h 0 (by simp) (by simp [e])
    rw [List.singleton_append, dec_ne hc]
    rfl
  | [c, d], m, h => by
    have hc : c ≠ 37 := fun e => h 0 (by simp) (by simp [e])
    have hd : d ≠ 37 := fun e => h 1 (by simp) (by simp [e])
    rw [List.cons_append, dec_ne hc, List.singleton_append, dec_ne hd]
    rfl
  | c :: x :: y :: t, m, h => by
    have ht : ∀ i, t.length ≤ i + 2 → t[i]? ≠ some 37 := fun i hi => by
      have := h (i + 3) (by simp; omega)
      simpa using this
    have ht2 : ∀ i, (x :: y :: t).length ≤ i + 2 → (x :: y :: t)[i]? ≠ some 37 := fun i hi => by
      have := h (i + 1) (by simp at hi ⊢; omega)
      simpa using this
    simp only [List.cons_append]
    rw [dec, dec]
    split
    · rw [dec_append t m ht]
      rfl
    · have := dec_append (x :: y :: t) m ht2
      simp only [List.cons_append] at this
      rw [this]
      rfl
end Go.Proofs.YtbbdfamfmkcfhaaGreatDoor.Esc
