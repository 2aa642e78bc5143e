/- What is escaped is meant as it was, if there was no percent sign in it or that is escaped, too; escaped twice it is the same, but for that: for every set and all bytes. No condition. -/
import Derived.Test.YtmekpmfhckodaaaPx7
import Derived.Test.YtmekpmfhckodaaaEsc
import Derived.Test.YtmekpmfhckodaaaEscAwake
namespace Go.Proofs.Ytmekpmfhckodaaa.Pure
open Go.RowKit Go.Proofs.Ytmekpmfhckodaaa.P Go.Proofs.Ytmekpmfhckodaaa.Pl Go.Proofs.Ytmekpmfhckodaaa.Esc Go.Proofs.YtmekpmfhckodaaaW.PrintWords Go.Proofs.YtmekpmfhckodaaaW.PrintLast

theorem back_end {a0 : Int} {l : List Int} (hl : ∀ x ∈ l, byte x) (hn : l.length ≤ 1000) {p : Bool} (hp : p = true → ∀ x ∈ l, x ≠ 37) {k : Nat} (hk : 6100 ≤ k) :
    carryalllaw02_EscapeBack.l0 (k + 1) a0 l p (l.length : Int) (l.length : Int) = some true := by
  have hs : (strOfNums (escs a0 l)).size ≤ 3000 := by
    have := escs_len a0 l
    rw [size_str]
    omega
  have hb := bytes_str (escs a0 l) (escs_byte a0 hl)
  have hd : escape_Decode.f k (strOfNums (escs a0 l)) = some (dec (escs a0 l)) := by rw [dec_f (by omega) (by omega), hb]
  simp only [carryalllaw02_EscapeBack.l0]
  rw [if_neg (by omega), enc_f hl (by omega), Option.bind_some]
  by_cases h6 : a0 = 6
  · subst h6
    have e : dec (escs 6 l) = l := dec_escs 6 l hl (fun x _ hx => by subst hx; decide +kernel)
    rw [if_pos rfl, hd, e]
    simp
  · have he : escape_Encode.f a0 (bytesOf (strOfNums (escs a0 l))) = some (strOfNums (escs a0 l)) := by
      rw [hb, enc_f (escs_byte a0 hl) (by have := escs_len a0 l; omega), escs_twice h6 hl]
    rw [if_neg h6, if_pos (by omega), he, Option.bind_some, if_pos rfl]
    cases p
    · simp
    · have e : dec (escs a0 l) = l := dec_escs a0 l hl (fun x hx h37 => absurd h37 (hp rfl x hx))
      rw [if_pos rfl, hd, e]
      simp

theorem back_l0 {a0 : Int} {l : List Int} (hl : ∀ x ∈ l, byte x) (hn : l.length ≤ 1000) : ∀ (n k i : Nat) (p : Bool), l.length - i ≤ n → i ≤ l.length → (p = true → ∀ x ∈ l.take i, x ≠ 37) → n + 6101 ≤ k →
    carryalllaw02_EscapeBack.l0 k a0 l p (l.length : Int) (i : Int) = some true := by
  intro n
  induction n with
  | zero =>
    intro k i p hi hil hp hk
    obtain rfl : i = l.length := by omega
    obtain ⟨k, rfl⟩ : ∃ m, k = m + 1 := ⟨k - 1, by omega⟩
    exact back_end hl hn (by simpa using hp) (by omega)
  | succ n ih =>
    intro k i p hi hil hp hk
    rcases Nat.lt_or_ge i l.length with hlt | hge
    · obtain ⟨k, rfl⟩ : ∃ m, k = m + 1 := ⟨k - 1, by omega⟩
      have e : wrap64 ((i : Int) + 1) = ((i + 1 : Nat) : Int) := by rw [wrap_in (by omega) (by omega)]; omega
      have ht : l.take (i + 1) = l.take i ++ [rd l (i : Int)] := by
        rw [List.take_succ_eq_append_getElem hlt, rd_nat l i hlt]
      simp only [carryalllaw02_EscapeBack.l0]
      rw [if_pos (by omega), e]
      cases p
      · rw [if_neg (by simp)]
        exact ih k (i + 1) false (by omega) (by omega) (fun h => by cases h) (by omega)
      · rw [if_pos rfl, if_pos (by omega), if_pos (by omega)]
        refine ih k (i + 1) _ (by omega) (by omega) (fun h x hx => ?_) (by omega)
        rw [ht] at hx
        rcases List.mem_append.1 hx with hx | hx
        · exact hp rfl x hx
        · have : x = rd l (i : Int) := by simpa using hx
          rw [this]
          exact bne_iff_ne.1 h
    · obtain rfl : i = l.length := by omega
      obtain ⟨k, rfl⟩ : ∃ m, k = m + 1 := ⟨k - 1, by omega⟩
      exact back_end hl hn (by simpa using hp) (by omega)

theorem EscapeBack : carryalllaw02_EscapeBack.Pure := by
  intro a0 l _ _ _ hw
  have hl : ∀ x ∈ l, byte x := fun x hx => byte_of (hw x hx)
  obtain ⟨K, hK⟩ : ∃ K : Nat, 7200 ≤ K := ⟨7200, Nat.le_refl _⟩
  refine ⟨K + 1, ?_⟩
  unfold carryalllaw02_EscapeBack.f
  rw [awake_at (K + 1) (by omega), Option.bind_some, if_pos rfl]
  by_cases hn : l.length ≤ 1000
  · rw [decide_eq_false (show ¬ ((l.length : Int) > 1000) by omega)]
    show carryalllaw02_EscapeBack.l0 K a0 l true (l.length : Int) ((0 : Nat) : Int) = some true
    exact back_l0 hl hn l.length K 0 true (by omega) (by omega) (fun _ x hx => by simp at hx) (by omega)
  · rw [decide_eq_true (show ((l.length : Int) > 1000) by omega)]
    show ((carryalllaw02_awake.f K).bind fun t => some t) = some true
    rw [awake_at K (by omega)]
    rfl
end Go.Proofs.Ytmekpmfhckodaaa.Pure
