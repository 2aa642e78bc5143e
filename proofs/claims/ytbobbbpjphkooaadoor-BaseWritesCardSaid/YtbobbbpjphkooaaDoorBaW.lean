/- Bytes' letters: the reference's are base.Encode's; read again they are the bytes. -/
import Derived.Test.YtbobbbpjphkooaaDoorPx1
import Derived.Test.YtbobbbpjphkooaaDoorEnc
import Derived.Test.YtbobbbpjphkooaaDoorBaV
namespace Go.Proofs.YtbobbbpjphkooaaDoor.BaW
open Go.RowKit Go.Proofs.YtbobbbpjphkooaaDoor.P Go.Proofs.YtbobbbpjphkooaaDoor.Pl Go.Proofs.YtbobbbpjphkooaaDoor.Mp Go.Proofs.YtbobbbpjphkooaaDoor.En Go.Proofs.YtbobbbpjphkooaaDoor.BaD Go.Proofs.YtbobbbpjphkooaaDoor.BaG Go.Proofs.YtbobbbpjphkooaaDoor.BaP2 Go.Proofs.YtbobbbpjphkooaaDoor.BaT Go.Proofs.YtbobbbpjphkooaaDoor.BaU Go.Proofs.YtbobbbpjphkooaaDoor.BaV Go.Proofs.YtbobbbpjphkooaaDoorW.PrintWords Go.Proofs.YtbobbbpjphkooaaDoorW.PrintLast Go.Proofs.YtbobbbpjphkooaaDoorW.PrintMore
/-- Bytes' letters without what fills up. -/
def lets : List Int → List Int
  | [] => []
  | [a] => [ltr (x24 a.toNat 0 0 / 262144), ltr (x24 a.toNat 0 0 / 4096 % 64)]
  | [a, b] => [ltr (x24 a.toNat b.toNat 0 / 262144), ltr (x24 a.toNat b.toNat 0 / 4096 % 64), ltr (x24 a.toNat b.toNat 0 / 64 % 64)]
  | a :: b :: c :: t => [ltr (x24 a.toNat b.toNat c.toNat / 262144), ltr (x24 a.toNat b.toNat c.toNat / 4096 % 64), ltr (x24 a.toNat b.toNat c.toNat / 64 % 64), ltr (x24 a.toNat b.toNat c.toNat % 64)] ++ lets t
def pads (n : Nat) : Nat := if n % 3 = 0 then 0 else if n % 3 = 1 then 2 else 1
theorem pads_of (n : Nat) : (n % 3 = 0 ∧ pads n = 0) ∨ (n % 3 = 1 ∧ pads n = 2) ∨ (n % 3 = 2 ∧ pads n = 1) := by
  unfold pads
  by_cases h : n % 3 = 0
  · rw [if_pos h]; omega
  · rw [if_neg h]
    by_cases h1 : n % 3 = 1
    · rw [if_pos h1]; omega
    · rw [if_neg h1]; omega
theorem encL_lets : ∀ l : List Int, encL l = lets l ++ List.replicate (pads l.length) 61
  | [] => rfl
  | [a] => rfl
  | [a, b] => rfl
  | a :: b :: c :: t => by
    have e : pads (a :: b :: c :: t).length = pads t.length := by
      have h1 := pads_of t.length
      have h2 := pads_of (a :: b :: c :: t).length
      simp only [List.length_cons] at h2 ⊢
      omega
    rw [encL, lets, e, encL_lets t, List.append_assoc]
    rfl
theorem lets_len : ∀ l : List Int, (lets l).length = (8 * l.length + 5) / 6
  | [] => by simp [lets]
  | [a] => by simp [lets]
  | [a, b] => by simp [lets]
  | a :: b :: c :: t => by
    rw [lets, List.length_append, lets_len t]
    simp only [List.length_cons, List.length_nil]
    omega
def Letter (c : Int) : Prop := ∃ n, n < 64 ∧ c = ltr n
theorem lets_all : ∀ l : List Int, (∀ x ∈ l, byte x) → ∀ c ∈ lets l, Letter c
  | [], _, c, h => by cases h
  | [a], hb, c, h => by
    have := hb a (by simp)
    unfold byte at this
    simp only [lets, List.mem_cons, List.not_mem_nil, or_false] at h
    rcases h with rfl | rfl
    · exact ⟨_, by unfold x24; omega, rfl⟩
    · exact ⟨_, by omega, rfl⟩
  | [a, b], hb, c, h => by
    have h1 := hb a (by simp)
    have h2 := hb b (by simp)
    unfold byte at h1 h2
    simp only [lets, List.mem_cons, List.not_mem_nil, or_false] at h
    rcases h with rfl | rfl | rfl
    · exact ⟨_, by unfold x24; omega, rfl⟩
    · exact ⟨_, by omega, rfl⟩
    · exact ⟨_, by omega, rfl⟩
  | a :: b :: d :: t, hb, c, h => by
    have h1 := hb a (by simp)
    have h2 := hb b (by simp)
    have h3 := hb d (by simp)
    unfold byte at h1 h2 h3
    rw [lets] at h
    rcases List.mem_append.1 h with h | h
    · simp only [List.mem_cons, List.not_mem_nil, or_false] at h
      rcases h with rfl | rfl | rfl | rfl
      · exact ⟨_, by unfold x24; omega, rfl⟩
      · exact ⟨_, by omega, rfl⟩
      · exact ⟨_, by omega, rfl⟩
      · exact ⟨_, by omega, rfl⟩
    · exact lets_all t (fun x hx => hb x (by simp [hx])) c h
theorem ltr_facts : ∀ n : Nat, n < 64 → idx (ltr n) = (n : Int) ∧ ltr n ≠ 61 ∧ Mp.blank (ltr n) = false ∧ ltr n < 128 ∧ carryallref03_letter.f (n : Int) = some (ltr n) := by decide +kernel
theorem go_lets : ∀ (m : Nat) (l acc : List Int) (b : Nat), l.length ≤ m → (∀ x ∈ l, byte x) → b < 65536 → go (lets l) acc (b : Int) 0 = (acc ++ l, true)
  | _, [], acc, b, _, _, _ => by simp [lets, go]
  | _, [a], acc, b, _, hby, hb => by
    obtain ⟨p0, p1⟩ := hby a (by simp)
    obtain ⟨a, rfl⟩ := Int.eq_ofNat_of_zero_le p0
    have g0 : x24 a 0 0 / 262144 < 64 := by unfold x24; omega
    have g1 : x24 a 0 0 / 4096 % 64 < 64 := by omega
    rw [lets]
    show go [ltr (x24 a 0 0 / 262144), ltr (x24 a 0 0 / 4096 % 64)] acc b 0 = _
    rw [go0 _ _ acc b _ hb g0 (ltr_facts _ g0).1, go1 _ _ acc _ _ 6 (by omega) g1 (by omega) (by omega) (ltr_facts _ g1).1, go]
    rw [show (64 * ((64 * (b % 1024) + x24 a 0 0 / 262144) % 1024) + x24 a 0 0 / 4096 % 64) / 2 ^ (6 - 2) % 256 = a by unfold x24; omega]
  | _, [a, c], acc, b, _, hby, hb => by
    obtain ⟨p0, p1⟩ := hby a (by simp)
    obtain ⟨q0, q1⟩ := hby c (by simp)
    obtain ⟨a, rfl⟩ := Int.eq_ofNat_of_zero_le p0
    obtain ⟨c, rfl⟩ := Int.eq_ofNat_of_zero_le q0
    have g0 : x24 a c 0 / 262144 < 64 := by unfold x24; omega
    have g1 : x24 a c 0 / 4096 % 64 < 64 := by omega
    have g2 : x24 a c 0 / 64 % 64 < 64 := by omega
    rw [lets]
    show go [ltr (x24 a c 0 / 262144), ltr (x24 a c 0 / 4096 % 64), ltr (x24 a c 0 / 64 % 64)] acc b 0 = _
    rw [go0 _ _ acc b _ hb g0 (ltr_facts _ g0).1, go1 _ _ acc _ _ 6 (by omega) g1 (by omega) (by omega) (ltr_facts _ g1).1, go1 _ _ _ _ _ (6 - 2) (by omega) g2 (by omega) (by omega) (ltr_facts _ g2).1, go]
    obtain ⟨y0, e0⟩ : ∃ y, x24 a c 0 / 262144 = y := ⟨_, rfl⟩
    obtain ⟨y1, e1⟩ : ∃ y, x24 a c 0 / 4096 % 64 = y := ⟨_, rfl⟩
    obtain ⟨y2, e2⟩ : ∃ y, x24 a c 0 / 64 % 64 = y := ⟨_, rfl⟩
    rw [e0, e1, e2]
    rw [e0] at g0
    rw [e1] at g1
    rw [e2] at g2
    unfold x24 at e0 e1 e2
    rw [show (64 * ((64 * (b % 1024) + y0) % 1024) + y1) / 2 ^ (6 - 2) % 256 = a by omega, show (64 * ((64 * ((64 * (b % 1024) + y0) % 1024) + y1) % 1024) + y2) / 2 ^ (6 - 2 - 2) % 256 = c by omega, List.append_assoc]
    rfl
  | 0, a :: c :: d :: t, acc, b, h, _, _ => by simp at h
  | m + 1, a :: c :: d :: t, acc, b, hm, hby, hb => by
    obtain ⟨p0, p1⟩ := hby a (by simp)
    obtain ⟨q0, q1⟩ := hby c (by simp)
    obtain ⟨r0, r1⟩ := hby d (by simp)
    obtain ⟨a, rfl⟩ := Int.eq_ofNat_of_zero_le p0
    obtain ⟨c, rfl⟩ := Int.eq_ofNat_of_zero_le q0
    obtain ⟨d, rfl⟩ := Int.eq_ofNat_of_zero_le r0
    simp only [List.length_cons] at hm
    have ih := fun acc b hb => go_lets m t acc b (by omega) (fun x hx => hby x (by simp [hx])) hb
    have g0 : x24 a c d / 262144 < 64 := by unfold x24; omega
    have g1 : x24 a c d / 4096 % 64 < 64 := by omega
    have g2 : x24 a c d / 64 % 64 < 64 := by omega
    have g3 : x24 a c d % 64 < 64 := by omega
    rw [lets]
    show go (ltr (x24 a c d / 262144) :: ltr (x24 a c d / 4096 % 64) :: ltr (x24 a c d / 64 % 64) :: ltr (x24 a c d % 64) :: lets t) acc b 0 = _
    rw [go0 _ _ acc b _ hb g0 (ltr_facts _ g0).1, go1 _ _ acc _ _ 6 (by omega) g1 (by omega) (by omega) (ltr_facts _ g1).1, go1 _ _ _ _ _ (6 - 2) (by omega) g2 (by omega) (by omega) (ltr_facts _ g2).1, go1 _ _ _ _ _ (6 - 2 - 2) (by omega) g3 (by omega) (by omega) (ltr_facts _ g3).1]
    refine (ih _ _ (by omega)).trans ?_
    obtain ⟨y0, e0⟩ : ∃ y, x24 a c d / 262144 = y := ⟨_, rfl⟩
    obtain ⟨y1, e1⟩ : ∃ y, x24 a c d / 4096 % 64 = y := ⟨_, rfl⟩
    obtain ⟨y2, e2⟩ : ∃ y, x24 a c d / 64 % 64 = y := ⟨_, rfl⟩
    obtain ⟨y3, e3⟩ : ∃ y, x24 a c d % 64 = y := ⟨_, rfl⟩
    rw [e0, e1, e2, e3]
    rw [e0] at g0
    rw [e1] at g1
    rw [e2] at g2
    rw [e3] at g3
    unfold x24 at e0 e1 e2 e3
    rw [show (64 * ((64 * (b % 1024) + y0) % 1024) + y1) / 2 ^ (6 - 2) % 256 = a by omega, show (64 * ((64 * ((64 * (b % 1024) + y0) % 1024) + y1) % 1024) + y2) / 2 ^ (6 - 2 - 2) % 256 = c by omega, show (64 * ((64 * ((64 * ((64 * (b % 1024) + y0) % 1024) + y1) % 1024) + y2) % 1024) + y3) / 2 ^ (6 - 2 - 2 - 2) % 256 = d by omega]
    simp [List.append_assoc]
theorem lets_mod (l : List Int) : (lets l).length % 4 ≠ 1 := by rw [lets_len]; omega
theorem dec_lets (l : List Int) (hb : ∀ x ∈ l, byte x) : decB (lets l) = (l, true) := by
  unfold decB
  rw [if_neg (lets_mod l)]
  have := go_lets l.length l [] 0 (Nat.le_refl _) hb (by omega)
  simpa using this
/-- Letters, with nothing, or what fills up, behind. -/
theorem trim_pads (A : List Int) (p : Nat) (hp : p ≤ 2) (hA : ∀ c ∈ A, c ≠ 61) (h : p = 0 ∨ (A.length + p) % 4 = 0) (h2 : 0 < p → 1 ≤ A.length) : refTrim (A ++ List.replicate p 61) = A := by
  have hlast : ∀ n : Nat, n < A.length → rd A (n : Int) ≠ 61 := fun n hn => by rw [rd_nat A n hn]; exact hA _ (List.getElem_mem _)
  have : p = 0 ∨ p = 1 ∨ p = 2 := by omega
  rcases this with rfl | rfl | rfl
  · rw [List.replicate_zero, List.append_nil]
    unfold refTrim
    rw [if_neg]
    rintro ⟨a0, _, a2⟩
    exact hlast _ (by omega) a2
  · have e : (A ++ List.replicate 1 (61 : Int)).length = A.length + 1 := by simp
    have e1 : (A ++ List.replicate 1 (61 : Int)).take A.length = A := List.take_left' rfl
    have := (last_iff (A ++ List.replicate 1 61)).2 ⟨A, rfl⟩
    unfold refTrim
    rw [if_pos ⟨this.1, by rw [e]; omega, this.2⟩, e, show A.length + 1 - 1 = A.length by omega, e1, if_neg (hlast _ (by omega))]
  · have e : (A ++ List.replicate 2 (61 : Int)).length = A.length + 2 := by simp
    have ee : A ++ List.replicate 2 (61 : Int) = (A ++ [61]) ++ [61] := by simp [List.replicate]
    have e1 : (A ++ List.replicate 2 (61 : Int)).take (A.length + 1) = A ++ [61] := by rw [ee]; exact List.take_left' (by simp)
    have := (last_iff (A ++ List.replicate 2 61)).2 ⟨A ++ [61], ee⟩
    have t2 := ((last_iff (A ++ [61])).2 ⟨A, rfl⟩).2
    rw [List.length_append, List.length_singleton, Nat.add_sub_cancel] at t2
    unfold refTrim
    rw [if_pos ⟨this.1, by rw [e]; omega, this.2⟩, e, show A.length + 2 - 1 = A.length + 1 by omega, show A.length + 2 - 2 = A.length by omega, e1, if_pos t2]
    exact List.take_left' rfl
theorem text_low {L : List Int} (hL : ∀ c ∈ L, Letter c ∨ c = 61) : (∀ c ∈ L, byte c) ∧ (∀ b ∈ (strOfNums L).data.toList, b.toNat < 128) ∧ fl L = L := by
  have h1 : ∀ c ∈ L, 0 ≤ c ∧ c < 128 ∧ Mp.blank c = false := by
    intro c hc
    rcases hL c hc with ⟨n, hn, rfl⟩ | rfl
    · obtain ⟨_, _, a3, a4, _⟩ := ltr_facts n hn
      exact ⟨(ltr_byte n).1, a4, a3⟩
    · exact ⟨by omega, by omega, rfl⟩
  refine ⟨fun c hc => ⟨(h1 c hc).1, by have := (h1 c hc).2.1; omega⟩, ?_, ?_⟩
  · intro b hb
    rw [strOfNums_data] at hb
    obtain ⟨c, hc, rfl⟩ := List.mem_map.1 hb
    obtain ⟨c0, c1, _⟩ := h1 c hc
    simp
    omega
  · unfold fl
    rw [List.filter_eq_self]
    intro c hc
    rw [(h1 c hc).2.2]
    rfl
theorem sqz_text {L : List Int} (hL : ∀ c ∈ L, Letter c ∨ c = 61) : bytesOf (sqz (strOfNums L)) = refTrim L := by
  obtain ⟨h1, h2, h3⟩ := text_low hL
  unfold sqz
  rw [trim_f, blank_f _ h2, bytes_str L h1, h3]
theorem lets_ne (l : List Int) (hb : ∀ x ∈ l, byte x) : ∀ c ∈ lets l, c ≠ 61 := fun c hc => by
  obtain ⟨n, hn, rfl⟩ := lets_all l hb c hc
  exact (ltr_facts n hn).2.1
theorem dec_full (l : List Int) (hb : ∀ x ∈ l, byte x) : decB (bytesOf (sqz (strOfNums (encL l)))) = (l, true) := by
  have hp := pads_of l.length
  rw [encL_lets, sqz_text (fun c hc => by
    rcases List.mem_append.1 hc with h | h
    · exact .inl (lets_all l hb c h)
    · exact .inr (List.eq_of_mem_replicate h)), trim_pads (lets l) (pads l.length) (by omega) (lets_ne l hb) (.inr (by rw [lets_len]; omega)) (by rw [lets_len]; omega), dec_lets l hb]
theorem dec_bare (l : List Int) (hb : ∀ x ∈ l, byte x) : decB (bytesOf (sqz (strOfNums (lets l)))) = (l, true) := by
  have := trim_pads (lets l) 0 (by omega) (lets_ne l hb) (.inl rfl) (by omega)
  rw [List.replicate_zero, List.append_nil] at this
  rw [sqz_text (fun c hc => .inl (lets_all l hb c hc)), this, dec_lets l hb]
/- The reference's letters. -/
def bitAt (l : List Int) (k : Nat) : Nat := (l.getD (k / 8) 0).toNat / 2 ^ (7 - k % 8) % 2
def num (l : List Int) (j : Nat) : Nat := 2 * (2 * (2 * (2 * (2 * bitAt l (6 * j) + bitAt l (6 * j + 1)) + bitAt l (6 * j + 2)) + bitAt l (6 * j + 3)) + bitAt l (6 * j + 4)) + bitAt l (6 * j + 5)
theorem shr_8 : ∀ j : Nat, j < 8 → 0 ≤ (IntKind.u64.wrap (7 - (IntKind.u64.wrap (j : Int)))) ∧ ∀ v : Nat, v < 256 → (Go.bits .and .u8 (shr .u8 (v : Int) (IntKind.u64.wrap (7 - (IntKind.u64.wrap (j : Int))))) 1 = 1 ↔ v / 2 ^ (7 - j) % 2 = 1) := by decide +kernel
theorem bit_le (l : List Int) (k : Nat) : bitAt l k ≤ 1 := by unfold bitAt; omega
theorem l1_step (k : Nat) (l x3 : List Int) (j n m : Nat) (hl : l.length ≤ 10000) (hb : ∀ x ∈ l, byte x) (hj : j ≤ 100000) (hn : n ≤ 64) (hm : m < 6 * j + 6) :
    carryallref03_Encode.l1 (k + 1) l x3 ((6 * j : Nat) : Int) (n : Int) (m : Int) = carryallref03_Encode.l1 k l x3 ((6 * j : Nat) : Int) ((2 * n + bitAt l m : Nat) : Int) ((m + 1 : Nat) : Int) := by
  have w1 : wrap64 (((6 * j : Nat) : Int) + 6) = ((6 * j + 6 : Nat) : Int) := by rw [wrap_in (by omega) (by omega)]; omega
  have w2 : wrap64 (8 * (l.length : Int)) = ((8 * l.length : Nat) : Int) := by rw [wrap_in (by omega) (by omega)]; omega
  have w3 : wrap64 (Int.tdiv (m : Int) 8) = ((m / 8 : Nat) : Int) := by rw [Int.tdiv_eq_ediv_of_nonneg (by omega), wrap_in (by omega) (by omega)]; omega
  have w4 : Int.tmod (m : Int) 8 = ((m % 8 : Nat) : Int) := by rw [Int.tmod_eq_emod_of_nonneg (by omega)]; omega
  have w5 : wrap64 (2 * (n : Int)) = ((2 * n : Nat) : Int) := by rw [wrap_in (by omega) (by omega)]; omega
  have w6 : wrap64 (((2 * n : Nat) : Int) + 1) = ((2 * n + 1 : Nat) : Int) := by rw [wrap_in (by omega) (by omega)]; omega
  have w7 : wrap64 ((m : Int) + 1) = ((m + 1 : Nat) : Int) := by rw [wrap_in (by omega) (by omega)]; omega
  rw [carryallref03_Encode.l1, w1, w2, w3, w4, w5, w6, w7]
  clear w1 w2 w3 w4 w5 w6 w7
  rw [if_pos (by omega)]
  have hle := bit_le l m
  by_cases h : m < 8 * l.length
  · obtain ⟨s0, s1⟩ := shr_8 (m % 8) (by omega)
    have hg : rd l ((m / 8 : Nat) : Int) = l[m / 8]'(by omega) := rd_nat l _ (by omega)
    obtain ⟨p0, p1⟩ := hb _ (List.getElem_mem (show m / 8 < l.length by omega))
    obtain ⟨v, hv⟩ : ∃ v : Nat, l[m / 8]'(by omega) = v := ⟨_, (Int.toNat_of_nonneg p0).symm⟩
    have hbit : bitAt l m = v / 2 ^ (7 - m % 8) % 2 := by
      unfold bitAt
      rw [List.getD_eq_getElem?_getD, List.getElem?_eq_getElem (show m / 8 < l.length by omega), hv]
      rfl
    have s2 := s1 v (by omega)
    rw [if_pos (by omega), if_pos (by omega), if_pos (by omega), if_pos s0, hg, hv]
    by_cases h1 : v / 2 ^ (7 - m % 8) % 2 = 1
    · rw [if_pos (s2.2 h1), hbit, h1]
    · rw [if_neg (fun hh => h1 (s2.1 hh)), show bitAt l m = 0 by rw [hbit]; omega]
      rfl
  · have hbit : bitAt l m = 0 := by
      unfold bitAt
      rw [List.getD_eq_getElem?_getD, List.getElem?_eq_none (by omega)]
      simp
    rw [if_neg (by omega), hbit]
    rfl
theorem l1_run (k : Nat) (l x3 : List Int) (j : Nat) (hl : l.length ≤ 10000) (hb : ∀ x ∈ l, byte x) (hj : j ≤ 100000) (h3 : x3.length ≤ 100000) :
    carryallref03_Encode.l1 (k + 7) l x3 ((6 * j : Nat) : Int) 0 ((6 * j : Nat) : Int) = carryallref03_Encode.l0 k l (x3 ++ [ltr (num l j)]) ((6 * (j + 1) : Nat) : Int) := by
  have b0 := bit_le l (6 * j)
  have b1 := bit_le l (6 * j + 1)
  have b2 := bit_le l (6 * j + 2)
  have b3 := bit_le l (6 * j + 3)
  have b4 := bit_le l (6 * j + 4)
  have b5 := bit_le l (6 * j + 5)
  have h0 := l1_step (k + 6) l x3 j 0 (6 * j) hl hb hj (by omega) (by omega)
  have h1 := l1_step (k + 5) l x3 j (2 * 0 + bitAt l (6 * j)) (6 * j + 1) hl hb hj (by omega) (by omega)
  have h2 := l1_step (k + 4) l x3 j (2 * (2 * 0 + bitAt l (6 * j)) + bitAt l (6 * j + 1)) (6 * j + 1 + 1) hl hb hj (by omega) (by omega)
  have h3' := l1_step (k + 3) l x3 j (2 * (2 * (2 * 0 + bitAt l (6 * j)) + bitAt l (6 * j + 1)) + bitAt l (6 * j + 2)) (6 * j + 1 + 1 + 1) hl hb hj (by omega) (by omega)
  have h4 := l1_step (k + 2) l x3 j (2 * (2 * (2 * (2 * 0 + bitAt l (6 * j)) + bitAt l (6 * j + 1)) + bitAt l (6 * j + 2)) + bitAt l (6 * j + 3)) (6 * j + 1 + 1 + 1 + 1) hl hb hj (by omega) (by omega)
  have h5 := l1_step (k + 1) l x3 j (2 * (2 * (2 * (2 * (2 * 0 + bitAt l (6 * j)) + bitAt l (6 * j + 1)) + bitAt l (6 * j + 2)) + bitAt l (6 * j + 3)) + bitAt l (6 * j + 4)) (6 * j + 1 + 1 + 1 + 1 + 1) hl hb hj (by omega) (by omega)
  refine h0.trans (h1.trans (h2.trans (h3'.trans (h4.trans (h5.trans ?_)))))
  have e : 2 * (2 * (2 * (2 * (2 * (2 * 0 + bitAt l (6 * j)) + bitAt l (6 * j + 1)) + bitAt l (6 * j + 2)) + bitAt l (6 * j + 3)) + bitAt l (6 * j + 4)) + bitAt l (6 * j + 5) = num l j := by unfold num; simp
  have w1 : wrap64 (((6 * j : Nat) : Int) + 6) = ((6 * (j + 1) : Nat) : Int) := by rw [wrap_in (by omega) (by omega)]; omega
  have hn : num l j < 64 := by unfold num; omega
  show carryallref03_Encode.l1 (k + 1) l x3 _ ((2 * (2 * (2 * (2 * (2 * (2 * 0 + bitAt l (6 * j)) + bitAt l (6 * j + 1)) + bitAt l (6 * j + 2)) + bitAt l (6 * j + 3)) + bitAt l (6 * j + 4)) + bitAt l (6 * j + 5) : Nat) : Int) ((6 * j + 1 + 1 + 1 + 1 + 1 + 1 : Nat) : Int) = _
  rw [e, carryallref03_Encode.l1, w1, if_neg (by omega), (ltr_facts _ hn).2.2.2.2, Option.bind_some, if_pos (by omega)]
def letsR (l : List Int) (j n : Nat) : List Int := (List.range n).map fun i => ltr (num l (j + i))
theorem l2_pad (L : List Int) (k : Nat) (h : L.length ≤ 100000) (hk : 4 ≤ k) : carryallref03_Encode.l2 k L = some (strOfNums (L ++ List.replicate ((4 - L.length % 4) % 4) 61)) := by
  obtain ⟨k, rfl⟩ : ∃ j, k = j + 4 := ⟨k - 4, by omega⟩
  have : L.length % 4 = 0 ∨ L.length % 4 = 1 ∨ L.length % 4 = 2 ∨ L.length % 4 = 3 := by omega
  rcases this with h0 | h0 | h0 | h0
  · rw [carryallref03_Encode.l2, if_pos (by omega), h0]
    simp
  · rw [carryallref03_Encode.l2, if_neg (by omega), if_pos (by omega), carryallref03_Encode.l2, if_neg (by simp; omega), if_pos (by simp; omega), carryallref03_Encode.l2, if_neg (by simp; omega), if_pos (by simp; omega), carryallref03_Encode.l2, if_pos (by simp; omega), h0]
    simp [List.replicate]
  · rw [carryallref03_Encode.l2, if_neg (by omega), if_pos (by omega), carryallref03_Encode.l2, if_neg (by simp; omega), if_pos (by simp; omega), carryallref03_Encode.l2, if_pos (by simp; omega), h0]
    simp [List.replicate]
  · rw [carryallref03_Encode.l2, if_neg (by omega), if_pos (by omega), carryallref03_Encode.l2, if_pos (by simp; omega), h0]
    simp
theorem l0_run (l : List Int) (hl : l.length ≤ 10000) (hb : ∀ x ∈ l, byte x) : ∀ (d k j : Nat) (x3 : List Int), j + d = (8 * l.length + 5) / 6 → x3.length = j → 100 + 8 * d ≤ k →
    carryallref03_Encode.l0 k l x3 ((6 * j : Nat) : Int) = some (strOfNums ((x3 ++ letsR l j d) ++ List.replicate ((4 - (j + d) % 4) % 4) 61)) := by
  intro d
  have w2 : wrap64 (8 * (l.length : Int)) = ((8 * l.length : Nat) : Int) := by rw [wrap_in (by omega) (by omega)]; omega
  induction d with
  | zero =>
    intro k j x3 hj h3 hk
    obtain ⟨k, rfl⟩ : ∃ i, k = i + 1 := ⟨k - 1, by omega⟩
    rw [carryallref03_Encode.l0, w2, if_neg (by omega), l2_pad x3 k (by omega) (by omega), h3]
    simp [letsR]
  | succ d ih =>
    intro k j x3 hj h3 hk
    obtain ⟨k, rfl⟩ : ∃ i, k = i + 8 := ⟨k - 8, by omega⟩
    rw [carryallref03_Encode.l0, w2, if_pos (by omega), l1_run k l x3 j hl hb (by omega) (by omega), ih k (j + 1) _ (by omega) (by rw [List.length_append, h3]; rfl) (by omega)]
    have e : letsR l j (d + 1) = ltr (num l j) :: letsR l (j + 1) d := by
      unfold letsR
      rw [List.range_succ_eq_map, List.map_cons, List.map_map]
      congr 1
      refine List.map_congr_left fun i _ => ?_
      show _ = ltr (num l (j + 1 + i))
      rw [show j + 1 + i = j + (i + 1) by omega]
      rfl
    rw [e, List.append_assoc x3, show j + 1 + d = j + (d + 1) by omega]
    rfl
theorem num_skip (a b c : Int) (t : List Int) (j : Nat) : num (a :: b :: c :: t) (4 + j) = num t j := by
  have h : ∀ k, bitAt (a :: b :: c :: t) (24 + k) = bitAt t k := by
    intro k
    unfold bitAt
    rw [show (24 + k) / 8 = k / 8 + 3 by omega, show (24 + k) % 8 = k % 8 by omega]
    rfl
  unfold num
  rw [show 6 * (4 + j) + 5 = 24 + (6 * j + 5) by omega, show 6 * (4 + j) + 4 = 24 + (6 * j + 4) by omega, show 6 * (4 + j) + 3 = 24 + (6 * j + 3) by omega, show 6 * (4 + j) + 2 = 24 + (6 * j + 2) by omega, show 6 * (4 + j) + 1 = 24 + (6 * j + 1) by omega, show 6 * (4 + j) = 24 + 6 * j by omega, h, h, h, h, h, h]
theorem num_one (a b c : Nat) (ha : a < 256) (hb : b < 256) (hc : c < 256) (l : List Int) (h0 : (l.getD 0 0).toNat = a) (h1 : (l.getD 1 0).toNat = b) (h2 : (l.getD 2 0).toNat = c) :
    num l 0 = x24 a b c / 262144 ∧ num l 1 = x24 a b c / 4096 % 64 ∧ num l 2 = x24 a b c / 64 % 64 ∧ num l 3 = x24 a b c % 64 := by
  have g0 : ∀ k, k < 8 → bitAt l k = a / 2 ^ (7 - k) % 2 := fun k hk => by unfold bitAt; rw [show k / 8 = 0 by omega, show k % 8 = k by omega, h0]
  have g1 : ∀ k, k < 8 → bitAt l (8 + k) = b / 2 ^ (7 - k) % 2 := fun k hk => by unfold bitAt; rw [show (8 + k) / 8 = 1 by omega, show (8 + k) % 8 = k by omega, h1]
  have g2 : ∀ k, k < 8 → bitAt l (16 + k) = c / 2 ^ (7 - k) % 2 := fun k hk => by unfold bitAt; rw [show (16 + k) / 8 = 2 by omega, show (16 + k) % 8 = k by omega, h2]
  have q0 : ∀ a : Nat, a < 256 → 32 * (a / 2 ^ (7 - 0) % 2) + 16 * (a / 2 ^ (7 - 1) % 2) + 8 * (a / 2 ^ (7 - 2) % 2) + 4 * (a / 2 ^ (7 - 3) % 2) + 2 * (a / 2 ^ (7 - 4) % 2) + (a / 2 ^ (7 - 5) % 2) = a / 4 := by decide +kernel
  have q1 : ∀ a : Nat, a < 256 → 2 * (a / 2 ^ (7 - 6) % 2) + (a / 2 ^ (7 - 7) % 2) = a % 4 := by decide +kernel
  have q2 : ∀ a : Nat, a < 256 → 8 * (a / 2 ^ (7 - 0) % 2) + 4 * (a / 2 ^ (7 - 1) % 2) + 2 * (a / 2 ^ (7 - 2) % 2) + (a / 2 ^ (7 - 3) % 2) = a / 16 := by decide +kernel
  have q3 : ∀ a : Nat, a < 256 → 8 * (a / 2 ^ (7 - 4) % 2) + 4 * (a / 2 ^ (7 - 5) % 2) + 2 * (a / 2 ^ (7 - 6) % 2) + (a / 2 ^ (7 - 7) % 2) = a % 16 := by decide +kernel
  have q4 : ∀ a : Nat, a < 256 → 2 * (a / 2 ^ (7 - 0) % 2) + (a / 2 ^ (7 - 1) % 2) = a / 64 := by decide +kernel
  have q5 : ∀ a : Nat, a < 256 → 32 * (a / 2 ^ (7 - 2) % 2) + 16 * (a / 2 ^ (7 - 3) % 2) + 8 * (a / 2 ^ (7 - 4) % 2) + 4 * (a / 2 ^ (7 - 5) % 2) + 2 * (a / 2 ^ (7 - 6) % 2) + (a / 2 ^ (7 - 7) % 2) = a % 64 := by decide +kernel
  have f0 := q0 a ha
  have f1 := q1 a ha
  have f2 := q2 b hb
  have f3 := q3 b hb
  have f4 := q4 c hc
  have f5 := q5 c hc
  rw [← g0 0 (by omega), ← g0 1 (by omega), ← g0 2 (by omega), ← g0 3 (by omega), ← g0 4 (by omega), ← g0 5 (by omega)] at f0
  rw [← g0 6 (by omega), ← g0 7 (by omega)] at f1
  rw [← g1 0 (by omega), ← g1 1 (by omega), ← g1 2 (by omega), ← g1 3 (by omega)] at f2
  rw [← g1 4 (by omega), ← g1 5 (by omega), ← g1 6 (by omega), ← g1 7 (by omega)] at f3
  rw [← g2 0 (by omega), ← g2 1 (by omega)] at f4
  rw [← g2 2 (by omega), ← g2 3 (by omega), ← g2 4 (by omega), ← g2 5 (by omega), ← g2 6 (by omega), ← g2 7 (by omega)] at f5
  clear q0 q1 q2 q3 q4 q5 g0 g1 g2
  simp only [Nat.reduceAdd] at f0 f1 f2 f3 f4 f5
  have y0 : x24 a b c / 262144 = a / 4 := by unfold x24; omega
  have y1 : x24 a b c / 4096 % 64 = a % 4 * 16 + b / 16 := by unfold x24; omega
  have y2 : x24 a b c / 64 % 64 = b % 16 * 4 + c / 64 := by unfold x24; omega
  have y3 : x24 a b c % 64 = c % 64 := by unfold x24; omega
  rw [y0, y1, y2, y3, ← f0, ← f1, ← f2, ← f3, ← f4, ← f5]
  unfold num
  simp only [Nat.reduceMul, Nat.reduceAdd]
  refine ⟨?_, ?_, ?_, ?_⟩ <;> omega
theorem letsR_lets : ∀ l : List Int, (∀ x ∈ l, byte x) → letsR l 0 ((8 * l.length + 5) / 6) = lets l
  | [], _ => rfl
  | [a], hb => by
    obtain ⟨p0, p1⟩ := hb a (by simp)
    obtain ⟨n0, n1, n2, n3⟩ := num_one a.toNat 0 0 (by omega) (by omega) (by omega) [a] rfl rfl rfl
    rw [lets, ← n0, ← n1, show (8 * [a].length + 5) / 6 = 2 by simp]
    rfl
  | [a, b], hb => by
    obtain ⟨p0, p1⟩ := hb a (by simp)
    obtain ⟨q0, q1⟩ := hb b (by simp)
    obtain ⟨n0, n1, n2, n3⟩ := num_one a.toNat b.toNat 0 (by omega) (by omega) (by omega) [a, b] rfl rfl rfl
    rw [lets, ← n0, ← n1, ← n2, show (8 * [a, b].length + 5) / 6 = 3 by simp]
    rfl
  | a :: b :: c :: t, hb => by
    obtain ⟨p0, p1⟩ := hb a (by simp)
    obtain ⟨q0, q1⟩ := hb b (by simp)
    obtain ⟨r0, r1⟩ := hb c (by simp)
    obtain ⟨n0, n1, n2, n3⟩ := num_one a.toNat b.toNat c.toNat (by omega) (by omega) (by omega) (a :: b :: c :: t) rfl rfl rfl
    have ih := letsR_lets t fun x hx => hb x (by simp [hx])
    rw [lets, ← n0, ← n1, ← n2, ← n3, ← ih]
    have e : (8 * (a :: b :: c :: t).length + 5) / 6 = 4 + (8 * t.length + 5) / 6 := by simp only [List.length_cons]; omega
    rw [e]
    unfold letsR
    rw [List.range_add, List.map_append, List.map_map]
    congr 1
    refine List.map_congr_left fun i _ => ?_
    show ltr (num (a :: b :: c :: t) (0 + (4 + i))) = ltr (num t (0 + i))
    rw [Nat.zero_add, Nat.zero_add, num_skip]
theorem ref_f (l : List Int) (k : Nat) (hl : l.length ≤ 300) (hb : ∀ x ∈ l, byte x) (hk : 10000 ≤ k) : carryallref03_Encode.f k l = some (strOfNums (encL l)) := by
  unfold carryallref03_Encode.f
  have := l0_run l (by omega) hb ((8 * l.length + 5) / 6) k 0 [] (by omega) rfl (by omega)
  rw [letsR_lets l hb] at this
  refine this.trans ?_
  rw [encL_lets, List.nil_append]
  rw [show (4 - (0 + (8 * l.length + 5) / 6) % 4) % 4 = pads l.length by have hp := pads_of l.length; omega]
end Go.Proofs.YtbobbbpjphkooaaDoor.BaW
