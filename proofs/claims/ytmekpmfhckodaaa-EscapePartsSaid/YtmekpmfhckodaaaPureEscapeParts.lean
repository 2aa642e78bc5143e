/- Two texts, one behind the other, are escaped one by one; and meant one by one, if the first one doesn't end within an escape: for every set and whatever texts. No condition. -/
import Derived.Test.YtmekpmfhckodaaaPx9
import Derived.Test.YtmekpmfhckodaaaEsc
import Derived.Test.YtmekpmfhckodaaaEscAwake
namespace Go.Proofs.Ytmekpmfhckodaaa.Pure
open Go.RowKit Go.Proofs.Ytmekpmfhckodaaa.P Go.Proofs.Ytmekpmfhckodaaa.Pl Go.Proofs.Ytmekpmfhckodaaa.Esc Go.Proofs.YtmekpmfhckodaaaW.PrintWords Go.Proofs.YtmekpmfhckodaaaW.PrintLast

theorem parts_j1 {s t : ByteArray} (hn : s.size + t.size ≤ 600) {b : Bool} (hb : b = false → ∀ i, (bytesOf s).length ≤ i + 2 → (bytesOf s)[i]? ≠ some 37) {k : Nat} (hk : 1300 ≤ k) :
    carryalllaw02_EscapeParts.j1 (k + 1) s t b = some true := by
  cases b
  · have hst : (s ++ t).size = s.size + t.size := by rw [ByteArray.size_append]
    have e := dec_append (bytesOf s) (bytesOf t) (hb rfl)
    have l1 := dec_len (bytesOf s)
    have l2 := dec_len (bytesOf t)
    rw [bytesOf_length] at l1 l2
    simp only [carryalllaw02_EscapeParts.j1, Bool.false_eq_true, if_false]
    rw [if_pos (by omega), dec_f (by omega) (by omega), Option.bind_some, dec_f (by omega) (by omega), Option.bind_some, dec_f (by omega) (by omega), Option.bind_some]
    rw [if_pos (by rw [size_str, size_str]; omega), bytes_append, e, str_append]
    simp
  · rfl

theorem no_tail {s : ByteArray} (h1 : 0 < s.size → bt s ((s.size - 1 : Nat) : Int) ≠ 37) (h2 : 1 < s.size → bt s ((s.size - 2 : Nat) : Int) ≠ 37) : ∀ i, (bytesOf s).length ≤ i + 2 → (bytesOf s)[i]? ≠ some 37 := by
  intro i hi he
  obtain ⟨hlt, he⟩ := List.getElem?_eq_some_iff.1 he
  rw [← bt_get s i hlt] at he
  rw [bytesOf_length] at hi hlt
  rcases Nat.lt_or_ge (i + 1) s.size with h | h
  · obtain rfl : i = s.size - 2 := by omega
    exact h2 (by omega) he
  · obtain rfl : i = s.size - 1 := by omega
    exact h1 (by omega) he

theorem EscapeParts : carryalllaw02_EscapeParts.Pure := by
  intro a0 s t _ hs ht
  obtain ⟨K, hK⟩ : ∃ K : Nat, 2000 ≤ K := ⟨2000, Nat.le_refl _⟩
  refine ⟨K + 2, ?_⟩
  have ew : wrap64 ((s.size : Int) + (t.size : Int)) = (s.size : Int) + (t.size : Int) := wrap_in (by omega) (by omega)
  unfold carryalllaw02_EscapeParts.f
  rw [awake_at (K + 2) (by omega), Option.bind_some, if_pos rfl, ew]
  by_cases hn : s.size + t.size ≤ 600
  · rw [decide_eq_false (show ¬ ((s.size : Int) + (t.size : Int) > 600) by omega)]
    have hst : (s ++ t).size = s.size + t.size := by rw [ByteArray.size_append]
    have ls : (bytesOf s).length = s.size := bytesOf_length s
    have lt : (bytesOf t).length = t.size := bytesOf_length t
    have lst : (bytesOf (s ++ t)).length = s.size + t.size := by rw [bytesOf_length, hst]
    have e1 : wrap64 ((s.size : Int) - 1) = (s.size : Int) - 1 := wrap_in (by omega) (by omega)
    have e2 : wrap64 ((s.size : Int) - 2) = (s.size : Int) - 2 := wrap_in (by omega) (by omega)
    have z1 := escs_len a0 (bytesOf s)
    have z2 := escs_len a0 (bytesOf t)
    simp only [carryalllaw02_EscapeParts.j0, Bool.false_eq_true, if_false]
    rw [if_pos (by omega), if_pos (by omega), enc_f (bytes_all _) (by omega), Option.bind_some, if_pos (by omega), enc_f (bytes_all _) (by omega), Option.bind_some, if_pos (by omega), enc_f (bytes_all _) (by omega), Option.bind_some]
    rw [if_pos (by rw [size_str, size_str]; omega), if_pos (by rw [bytes_append, escs_append, str_append]), e1, e2]
    have J : ∀ b, (b = false → ∀ i, (bytesOf s).length ≤ i + 2 → (bytesOf s)[i]? ≠ some 37) → carryalllaw02_EscapeParts.j1 (K + 1) s t b = some true := fun b hb => parts_j1 hn hb (by omega)
    have i1 : 0 < s.size → (s.size : Int) - 1 = ((s.size - 1 : Nat) : Int) := fun h => by omega
    have i2 : 1 < s.size → (s.size : Int) - 2 = ((s.size - 2 : Nat) : Int) := fun h => by omega
    have second : (0 < s.size → bt s ((s.size - 1 : Nat) : Int) ≠ 37) → (if (s.size : Int) > 1 then if 0 ≤ (s.size : Int) - 2 then if (s.size : Int) - 2 < (s.size : Int) then carryalllaw02_EscapeParts.j1 (K + 1) s t (bt s ((s.size : Int) - 2) == 37) else none else none else carryalllaw02_EscapeParts.j1 (K + 1) s t false) = some true := by
      intro h1
      by_cases g : 1 < s.size
      · rw [if_pos (by omega), if_pos (by omega), if_pos (by omega), i2 g]
        exact J _ (fun hb => no_tail h1 (fun _ => by simpa using hb))
      · rw [if_neg (by omega)]
        exact J _ (fun _ => no_tail h1 (fun h => absurd h g))
    by_cases g : 0 < s.size
    · rw [if_pos (by omega), if_pos (by omega), if_pos (by omega)]
      by_cases c : bt s ((s.size : Int) - 1) = 37
      · rw [if_pos c]
        exact J _ (fun h => by cases h)
      · rw [if_neg c]
        exact second (fun _ => by rw [← i1 g]; exact c)
    · rw [if_neg (by omega)]
      exact second (fun h => absurd h g)
  · rw [decide_eq_true (show ((s.size : Int) + (t.size : Int) > 600) by omega)]
    show ((carryalllaw02_awake.f (K + 1)).bind fun t => some t) = some true
    rw [awake_at (K + 1) (by omega)]
    rfl
end Go.Proofs.Ytmekpmfhckodaaa.Pure
