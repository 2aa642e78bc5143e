/- What bytes are read as, in steps: the program's Decode and the reference's are one; the library's Valid and the reference's are one. -/
import Derived.Test.YtkoddcihcoekgaaDoorPx2
import Derived.Test.YtkoddcihcoekgaaDoorPx3
import Derived.Test.YtkoddcihcoekgaaDoorPx4
import Derived.Test.YtkoddcihcoekgaaDoorPx5
import Derived.Test.YtkoddcihcoekgaaDoorDec
import Derived.Lib.ValidAsc
namespace Go.Proofs.YtkoddcihcoekgaaDoor.Dec
open Go.RowKit Go.Proofs.YtkoddcihcoekgaaDoor.P Go.Proofs.YtkoddcihcoekgaaDoor.Pl Go.Proofs.YtkoddcihcoekgaaDoor.Utf Go.Proofs.YtkoddcihcoekgaaDoorW.PrintWords Go.Proofs.YtkoddcihcoekgaaDoorW.PrintLast Go.Proofs.YtkoddcihcoekgaaDoorW.PrintMore
set_option linter.unusedVariables false
set_option linter.unusedSimpArgs false
def toU (l : List Int) : List UInt8 := l.map fun n => UInt8.ofNat n.toNat
/-- May a byte follow these? -/
def next (b : Int) (n : Nat) (c : Int) : Prop := if n = 1 then lowv b ≤ c ∧ c ≤ highv b else 128 ≤ c ∧ c ≤ 191
instance (b : Int) (n : Nat) (c : Int) : Decidable (next b n c) := by unfold next; split <;> infer_instance
/-- A lead byte and what follows it so far. -/
inductive Good : List Int → Prop
  | one (b : Int) : Good [b]
  | two (b c : Int) : next b 1 c → Good [b, c]
  | three (b c d : Int) : next b 1 c → next b 2 d → Good [b, c, d]
  | four (b c d e : Int) : next b 1 c → next b 2 d → next b 3 e → Good [b, c, d, e]
def val : List Int → Int
  | [b] => b
  | [b, c] => (b - 192) * 64 + (c - 128)
  | [b, c, d] => ((b - 224) * 64 + (c - 128)) * 64 + (d - 128)
  | [b, c, d, e] => (((b - 240) * 64 + (c - 128)) * 64 + (d - 128)) * 64 + (e - 128)
  | _ => 0
/-- One step: the character, how many bytes, and whether they are one's. -/
inductive Step : List Int → Int → Nat → Bool → Prop
  | asc (b : Int) (t : List Int) : 0 ≤ b → b < 128 → Step (b :: t) b 1 true
  | bad (b : Int) (t : List Int) : 128 ≤ b → manyv b = 0 → Step (b :: t) 65533 1 false
  | full (b : Int) (p t : List Int) : 128 ≤ b → Good (b :: p) → manyv b = ((b :: p).length : Int) → 2 ≤ (b :: p).length → Step (b :: p ++ t) (val (b :: p)) (b :: p).length true
  | end_ (b : Int) (p : List Int) : 128 ≤ b → Good (b :: p) → ((b :: p).length : Int) < manyv b → Step (b :: p) 65533 (b :: p).length false
  | cut (b : Int) (p : List Int) (c : Int) (t : List Int) : 128 ≤ b → Good (b :: p) → ((b :: p).length : Int) < manyv b → ¬ next b (b :: p).length c → Step (b :: p ++ c :: t) 65533 (b :: p).length false
theorem many_cases (b : Int) : manyv b = 0 ∨ manyv b = 2 ∨ manyv b = 3 ∨ manyv b = 4 := by
  unfold manyv
  split
  · exact .inr (.inl rfl)
  · split
    · exact .inr (.inr (.inl rfl))
    · split
      · exact .inr (.inr (.inr rfl))
      · exact .inl rfl
theorem step_any (l : List Int) (hb : bytes l) (h : l ≠ []) : ∃ r m ok, Step l r m ok := by
  match l, h with
  | b :: t, _ =>
    have hx := hb b List.mem_cons_self
    by_cases h1 : b < 128
    · exact ⟨_, _, _, .asc b t hx.1 h1⟩
    · have h1' : 128 ≤ b := by omega
      rcases many_cases b with hm | hm | hm | hm
      · exact ⟨_, _, _, .bad b t h1' hm⟩
      · match t with
        | [] => exact ⟨_, _, _, .end_ b [] h1' (.one b) (by simp [hm])⟩
        | c :: t =>
          by_cases h2 : next b 1 c
          · exact ⟨_, _, _, .full b [c] t h1' (.two b c h2) (by simp [hm]) (by simp)⟩
          · exact ⟨_, _, _, .cut b [] c t h1' (.one b) (by simp [hm]) h2⟩
      · match t with
        | [] => exact ⟨_, _, _, .end_ b [] h1' (.one b) (by simp [hm])⟩
        | c :: t =>
          by_cases h2 : next b 1 c
          · match t with
            | [] => exact ⟨_, _, _, .end_ b [c] h1' (.two b c h2) (by simp [hm])⟩
            | d :: t =>
              by_cases h3 : next b 2 d
              · exact ⟨_, _, _, .full b [c, d] t h1' (.three b c d h2 h3) (by simp [hm]) (by simp)⟩
              · exact ⟨_, _, _, .cut b [c] d t h1' (.two b c h2) (by simp [hm]) h3⟩
          · exact ⟨_, _, _, .cut b [] c t h1' (.one b) (by simp [hm]) h2⟩
      · match t with
        | [] => exact ⟨_, _, _, .end_ b [] h1' (.one b) (by simp [hm])⟩
        | c :: t =>
          by_cases h2 : next b 1 c
          · match t with
            | [] => exact ⟨_, _, _, .end_ b [c] h1' (.two b c h2) (by simp [hm])⟩
            | d :: t =>
              by_cases h3 : next b 2 d
              · match t with
                | [] => exact ⟨_, _, _, .end_ b [c, d] h1' (.three b c d h2 h3) (by simp [hm])⟩
                | e :: t =>
                  by_cases h4 : next b 3 e
                  · exact ⟨_, _, _, .full b [c, d, e] t h1' (.four b c d e h2 h3 h4) (by simp [hm]) (by simp)⟩
                  · exact ⟨_, _, _, .cut b [c, d] e t h1' (.three b c d h2 h3) (by simp [hm]) h4⟩
              · exact ⟨_, _, _, .cut b [c] d t h1' (.two b c h2) (by simp [hm]) h3⟩
          · exact ⟨_, _, _, .cut b [] c t h1' (.one b) (by simp [hm]) h2⟩
theorem next_cont {b : Int} {n : Nat} {c : Int} (h : next b n c) (hb : manyv b ≠ 0) : 128 ≤ c ∧ c ≤ 191 := by
  unfold next at h
  split at h
  · unfold lowv highv at h
    unfold manyv at hb
    repeat' split at h
    all_goals (repeat' split at hb)
    all_goals omega
  · exact h
theorem val_two {b c : Int} (hm : manyv b = 2) (h2 : next b 1 c) : isChar (val [b, c]) ∧ enc (val [b, c]) = [b, c] := by
  have hc := next_cont h2 (by omega)
  have hb : 194 ≤ b ∧ b ≤ 223 := by unfold manyv at hm; repeat' split at hm <;> omega
  have e : val [b, c] = (b - 192) * 64 + (c - 128) := rfl
  rw [e]
  refine ⟨⟨by omega, by omega, by omega⟩, ?_⟩
  rw [show enc ((b - 192) * 64 + (c - 128)) = _ from Lib.encodeRuneZ_two (by omega) (by omega)]
  congr 1
  · omega
  · congr 1
    omega
theorem lo3 {b c : Int} (hb : 224 ≤ b ∧ b ≤ 239) (h2 : next b 1 c) : (b = 224 → 160 ≤ c) ∧ (b = 237 → c ≤ 159) := by
  unfold next at h2
  rw [if_pos rfl] at h2
  unfold lowv highv at h2
  constructor
  · intro h; subst h; simpa using h2.1
  · intro h; subst h; simpa using h2.2
theorem lo4 {b c : Int} (hb : 240 ≤ b ∧ b ≤ 244) (h2 : next b 1 c) : (b = 240 → 144 ≤ c) ∧ (b = 244 → c ≤ 143) := by
  unfold next at h2
  rw [if_pos rfl] at h2
  unfold lowv highv at h2
  constructor
  · intro h; subst h; simpa using h2.1
  · intro h; subst h; simpa using h2.2
theorem val_three {b c d : Int} (hm : manyv b = 3) (h2 : next b 1 c) (h3 : next b 2 d) : isChar (val [b, c, d]) ∧ enc (val [b, c, d]) = [b, c, d] := by
  have hc := next_cont h2 (by omega)
  have hd := next_cont h3 (by omega)
  have hb : 224 ≤ b ∧ b ≤ 239 := by unfold manyv at hm; repeat' split at hm <;> omega
  obtain ⟨q1, q2⟩ := lo3 hb h2
  have e : val [b, c, d] = ((b - 224) * 64 + (c - 128)) * 64 + (d - 128) := rfl
  rw [e]
  refine ⟨⟨by omega, by omega, by omega⟩, ?_⟩
  rw [show enc (((b - 224) * 64 + (c - 128)) * 64 + (d - 128)) = _ from Lib.encodeRuneZ_three (by omega)]
  congr 1
  · omega
  · congr 1
    · omega
    · congr 1
      omega
theorem val_four {b c d f : Int} (hm : manyv b = 4) (h2 : next b 1 c) (h3 : next b 2 d) (h4 : next b 3 f) : isChar (val [b, c, d, f]) ∧ enc (val [b, c, d, f]) = [b, c, d, f] := by
  have hc := next_cont h2 (by omega)
  have hd := next_cont h3 (by omega)
  have hf := next_cont h4 (by omega)
  have hb : 240 ≤ b ∧ b ≤ 244 := by unfold manyv at hm; repeat' split at hm <;> omega
  obtain ⟨q1, q2⟩ := lo4 hb h2
  have e : val [b, c, d, f] = (((b - 240) * 64 + (c - 128)) * 64 + (d - 128)) * 64 + (f - 128) := rfl
  rw [e]
  refine ⟨⟨by omega, by omega, by omega⟩, ?_⟩
  rw [show enc ((((b - 240) * 64 + (c - 128)) * 64 + (d - 128)) * 64 + (f - 128)) = _ from Lib.encodeRuneZ_four (by omega) (by omega)]
  congr 1
  · omega
  · congr 1
    · omega
    · congr 1
      · omega
      · congr 1
        omega
theorem val_full {b : Int} {p : List Int} (hg : Good (b :: p)) (hm : manyv b = ((b :: p).length : Int)) (h2 : 2 ≤ (b :: p).length) : isChar (val (b :: p)) ∧ enc (val (b :: p)) = b :: p := by
  cases hg with
  | one => simp at h2
  | two _ c hc => exact val_two hm hc
  | three _ c d hc hd => exact val_three hm hc hd
  | four _ c d f hc hd hf => exact val_four hm hc hd hf
theorem step_len {l : List Int} {r : Int} {m : Nat} {ok : Bool} (h : Step l r m ok) : 1 ≤ m ∧ m ≤ l.length ∧ m ≤ 4 := by
  have hg : ∀ p : List Int, Good p → p.length ≤ 4 := fun p h => by cases h <;> simp
  cases h with
  | asc => simp
  | bad => simp
  | full b p t _ g _ _ => have := hg _ g; simp at this ⊢; omega
  | end_ b p _ g _ => have := hg _ g; simp at this ⊢; omega
  | cut b p c t _ g _ _ => have := hg _ g; simp at this ⊢; omega
/-- A step that is fine spells its character. -/
theorem step_ok {l : List Int} {r : Int} {m : Nat} (h : Step l r m true) : isChar r ∧ enc r = l.take m ∧ (enc r).length = m := by
  cases h with
  | asc _ t h0 h1 => exact ⟨⟨h0, by omega, by omega⟩, (Lib.encodeRuneZ_one h0 (by omega) : enc r = [r]), by rw [show enc r = [r] from Lib.encodeRuneZ_one h0 (by omega)]; rfl⟩
  | full b p t _ g hm h2 =>
    obtain ⟨a, e⟩ := val_full g hm h2
    refine ⟨a, ?_, by rw [e]⟩
    rw [e, List.take_left' rfl]
theorem step_bad {l : List Int} {r : Int} {m : Nat} (h : Step l r m false) : r = 65533 ∧ l.take m ≠ enc 65533 := by
  have e : enc 65533 = [239, 191, 189] := by decide
  rw [e]
  have m239 : manyv 239 = 3 := by decide
  have key : ∀ b p, Good (b :: p) → ((b :: p).length : Int) < manyv b → b :: p ≠ [239, 191, 189] := by
    intro b p g hl h
    injection h with h1 h2
    subst h1 h2
    rw [m239] at hl
    simp at hl
  cases h with
  | bad b t h0 hm =>
    refine ⟨rfl, fun h => ?_⟩
    simp at h
  | end_ b p _ g hl => exact ⟨rfl, by rw [List.take_length]; exact key b p g hl⟩
  | cut b p c t _ g hl _ => exact ⟨rfl, by rw [List.take_left' rfl]; exact key b p g hl⟩

/-! the program's first -/
theorem fl_next {l : List Int} {lo hi : Int} {many n : Nat} {c : Int} (k : Nat) (hn : n < many) (h4 : many ≤ 4) (hc : l[n]? = some c) (h1 : lo ≤ c) (h2 : c ≤ hi) : utf_first.l0 (k + 1) l lo hi (many : Int) (n : Int) = utf_first.l0 k l 128 191 (many : Int) ((n + 1 : Nat) : Int) := by
  have hlt := (List.getElem?_eq_some_iff.1 hc).1
  have hr : rd l (n : Int) = c := rd_at hc
  have hw : wrap64 ((n : Int) + 1) = ((n + 1 : Nat) : Int) := by rw [wrap_in (by omega) (by omega)]; omega
  rw [utf_first.l0, if_pos (by omega), if_pos (by omega), if_pos (by omega), hr, if_pos h1, if_pos h2, hw]
theorem fl_bad {l : List Int} {lo hi : Int} {many n : Nat} {c : Int} (k : Nat) (hn : n < many) (h4 : many ≤ 4) (hc : l[n]? = some c) (h1 : ¬ (lo ≤ c ∧ c ≤ hi)) : utf_first.l0 (k + 1) l lo hi (many : Int) (n : Int) = some (65533, (n : Int)) := by
  have hlt := (List.getElem?_eq_some_iff.1 hc).1
  have hr : rd l (n : Int) = c := rd_at hc
  rw [utf_first.l0, if_pos (by omega), if_pos (by omega), if_pos (by omega), hr]
  split
  · rw [if_neg (by omega), if_neg (by omega)]
  · rw [if_neg (by omega)]
theorem fl_end {l : List Int} {lo hi : Int} {many n : Nat} (k : Nat) (hn : n < many) (h4 : many ≤ 4) (hl : l.length ≤ n) : utf_first.l0 (k + 1) l lo hi (many : Int) (n : Int) = some (65533, (n : Int)) := by
  rw [utf_first.l0, if_pos (by omega), if_neg (by omega), if_neg (by omega)]
theorem many_toNat (b : Int) : manyv b = ((manyv b).toNat : Int) ∧ (manyv b).toNat ≤ 4 := by rcases many_cases b with h | h | h | h <;> rw [h] <;> decide
theorem next_one {b c : Int} : next b 1 c ↔ lowv b ≤ c ∧ c ≤ highv b := by unfold next; rw [if_pos rfl]
theorem next_two {b c : Int} : next b 2 c ↔ 128 ≤ c ∧ c ≤ 191 := by unfold next; rw [if_neg (by decide)]
theorem next_three {b c : Int} : next b 3 c ↔ 128 ≤ c ∧ c ≤ 191 := by unfold next; rw [if_neg (by decide)]
/-- The walk over the bytes that follow, up to where they end or stop. -/
theorem fl_good {b : Int} {p : List Int} (g : Good (b :: p)) (rest : List Int) (hm : ((b :: p).length : Int) < manyv b) (hr : rest = [] ∨ ∃ c t, rest = c :: t ∧ ¬ next b (b :: p).length c) (k : Nat) :
    utf_first.l0 (k + 5) (b :: p ++ rest) (lowv b) (highv b) (manyv b) 1 = some (65533, ((b :: p).length : Int)) := by
  obtain ⟨e, h4⟩ := many_toNat b
  rw [e] at hm ⊢
  generalize (manyv b).toNat = many at *
  cases g with
  | one =>
    have hm' : 1 < many := by simp at hm; omega
    rcases hr with rfl | ⟨c, t, rfl, hn⟩
    · exact fl_end (n := 1) _ hm' h4 (by simp)
    · exact fl_bad (n := 1) (c := c) _ hm' h4 rfl (fun h => hn (next_one.2 h))
  | two _ c hc =>
    have hm' : 2 < many := by simp at hm; omega
    obtain ⟨c1, c2⟩ := next_one.1 hc
    rw [show (1 : Int) = ((1 : Nat) : Int) from rfl, fl_next (n := 1) (c := c) _ (by omega) h4 rfl c1 c2]
    rcases hr with rfl | ⟨d, t, rfl, hn⟩
    · exact fl_end (n := 2) _ hm' h4 (by simp)
    · exact fl_bad (n := 2) (c := d) _ hm' h4 rfl (fun h => hn (next_two.2 h))
  | three _ c d hc hd =>
    have hm' : 3 < many := by simp at hm; omega
    obtain ⟨c1, c2⟩ := next_one.1 hc
    obtain ⟨d1, d2⟩ := next_two.1 hd
    rw [show (1 : Int) = ((1 : Nat) : Int) from rfl, fl_next (n := 1) (c := c) _ (by omega) h4 rfl c1 c2, fl_next (n := 2) (c := d) _ (by omega) h4 rfl d1 d2]
    rcases hr with rfl | ⟨f, t, rfl, hn⟩
    · exact fl_end (n := 3) _ hm' h4 (by simp)
    · exact fl_bad (n := 3) (c := f) _ hm' h4 rfl (fun h => hn (next_three.2 h))
  | four => simp at hm; omega
theorem first_step {l : List Int} {r : Int} {m : Nat} {ok : Bool} (hb : bytes l) (h : Step l r m ok) (k : Nat) (hk : 10 ≤ k) : utf_first.f k l = some (r, (m : Int)) := by
  obtain ⟨j, rfl⟩ : ∃ j, k = j + 5 := ⟨k - 5, by omega⟩
  have lead : ∀ (b : Int) (t : List Int), bytes (b :: t) → 128 ≤ b → utf_first.f (j + 5) (b :: t) = utf_first.l0 (j + 5) (b :: t) (lowv b) (highv b) (manyv b) 1 := by
    intro b t hbt h0
    unfold utf_first.f
    rw [if_pos (by rw [List.length_cons]; omega), rd0, if_neg (by omega), span_f (hbt b List.mem_cons_self) (j + 5) (by omega), Option.bind_some]
  cases ok with
  | true =>
    obtain ⟨h1, h2, h3⟩ := step_ok h
    have := first_enc h1 (l.drop m) (fun x hx => hb x (List.mem_of_mem_drop hx)) (j + 5) hk
    rw [h3, h2, List.take_append_drop] at this
    exact this
  | false =>
    cases h with
    | bad b t h0 hm =>
      rw [lead b t hb h0, hm]
      rw [utf_first.l0, if_neg (by omega), if_pos rfl]
      rfl
    | end_ b p h0 g hl =>
      have := fl_good g [] hl (.inl rfl) j
      rw [List.append_nil] at this
      rw [lead b p hb h0]
      exact this
    | cut b p c t h0 g hl hn =>
      have := fl_good g (c :: t) hl (.inr ⟨c, t, rfl, hn⟩) j
      rw [show b :: p ++ c :: t = b :: (p ++ c :: t) from rfl] at hb this ⊢
      rw [lead b _ hb h0]
      exact this
end Go.Proofs.YtkoddcihcoekgaaDoor.Dec
