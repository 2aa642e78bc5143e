/- What bytes are read as: the program's Decode, the reference's, and who is valid. -/
import Derived.Test.YtkoddcihcoekgaaDoorPx1
import Derived.Test.YtkoddcihcoekgaaDoorPx2
import Derived.Test.YtkoddcihcoekgaaDoorPx4
import Derived.Test.YtkoddcihcoekgaaDoorPx5
import Derived.Test.YtkoddcihcoekgaaDoorDecS
namespace Go.Proofs.YtkoddcihcoekgaaDoor.Dec
open Go.RowKit Go.Proofs.YtkoddcihcoekgaaDoor.P Go.Proofs.YtkoddcihcoekgaaDoor.Pl Go.Proofs.YtkoddcihcoekgaaDoor.Utf Go.Proofs.YtkoddcihcoekgaaDoorW.PrintWords Go.Proofs.YtkoddcihcoekgaaDoorW.PrintLast Go.Proofs.YtkoddcihcoekgaaDoorW.PrintMore
set_option linter.unusedVariables false
set_option linter.unusedSimpArgs false
theorem toU_len (l : List Int) : (toU l).length = l.length := by simp [toU]
theorem toU_drop (l : List Int) (m : Nat) : toU (l.drop m) = (toU l).drop m := by simp [toU, List.map_drop]
theorem toU_get (l : List Int) (hb : bytes l) (i : Nat) : (((toU l).getD i 0).toNat : Int) = l.getD i 0 := by
  unfold toU
  rw [List.getD_eq_getElem?_getD, List.getElem?_map, List.getD_eq_getElem?_getD]
  cases h : l[i]? with
  | none => rfl
  | some x => exact ofNat_of (hb x (List.mem_of_getElem? h))
def chk (n : Nat) : Bool := decide (n < 128) || ((!decide (manyv (n : Int) = 0) || (!decide (Lib.firstT n % 8 = 2) && !decide (Lib.firstT n % 8 = 3) && !decide (Lib.firstT n % 8 = 4))) && (decide (manyv (n : Int) < 2) || (decide (((Lib.firstT n % 8 : Nat) : Int) = manyv (n : Int)) && decide (((Lib.accLo (Lib.firstT n / 16) : Nat) : Int) = lowv (n : Int)) && decide (((Lib.accHi (Lib.firstT n / 16) : Nat) : Int) = highv (n : Int)))))
theorem tab (n : Nat) (hn : n < 256) (h1 : 128 ≤ n) : (manyv (n : Int) = 0 → Lib.firstT n % 8 ≠ 2 ∧ Lib.firstT n % 8 ≠ 3 ∧ Lib.firstT n % 8 ≠ 4) ∧ (2 ≤ manyv (n : Int) → ((Lib.firstT n % 8 : Nat) : Int) = manyv (n : Int) ∧ ((Lib.accLo (Lib.firstT n / 16) : Nat) : Int) = lowv (n : Int) ∧ ((Lib.accHi (Lib.firstT n / 16) : Nat) : Int) = highv (n : Int)) := by
  have H : ∀ n : Nat, n < 256 → chk n = true := by decide +kernel
  have h := H n hn
  unfold chk at h
  rw [decide_eq_false (by omega), Bool.false_or, Bool.and_eq_true] at h
  obtain ⟨a, b⟩ := h
  refine ⟨fun h0 => ?_, fun h2 => ?_⟩
  · rw [decide_eq_true h0] at a
    simpa [and_assoc] using a
  · rw [decide_eq_false (by omega), Bool.false_or] at b
    simpa [and_assoc] using b
theorem vd_lead {b : Int} {t : List Int} (hb : bytes (b :: t)) (h0 : 128 ≤ b) : ∃ SZ LO HI c1 c2 c3 : Nat, Lib.validD (toU (b :: t)) = (match Lib.checkN (t.length + 1) c1 c2 c3 SZ LO HI with | none => false | some k => Lib.validD (toU ((b :: t).drop k))) ∧ (c1 : Int) = (b :: t).getD 1 0 ∧ (c2 : Int) = (b :: t).getD 2 0 ∧ (c3 : Int) = (b :: t).getD 3 0 ∧ (manyv b = 0 → SZ ≠ 2 ∧ SZ ≠ 3 ∧ SZ ≠ 4) ∧ (2 ≤ manyv b → (SZ : Int) = manyv b ∧ (LO : Int) = lowv b ∧ (HI : Int) = highv b) := by
  obtain ⟨n, rfl, hn⟩ := nat_of (hb b List.mem_cons_self)
  have g := toU_get _ hb
  have g0 : ((toU ((n : Int) :: t)).getD 0 0).toNat = n := by have := g 0; rw [show ((n : Int) :: t).getD 0 0 = (n : Int) from rfl] at this; omega
  have h := Lib.validD_lead (toU ((n : Int) :: t)) (by simp [toU]) (by rw [g0]; omega)
  rw [g0, toU_len, List.length_cons] at h
  obtain ⟨T1, T2⟩ := tab n hn (by omega)
  refine ⟨_, _, _, _, _, _, ?_, g 1, g 2, g 3, T1, T2⟩
  rw [h]
  split <;> rename_i e <;> rw [e]
  simp only [toU_drop]
theorem vd_step {l : List Int} {r : Int} {m : Nat} {ok : Bool} (hb : bytes l) (s : Step l r m ok) : Lib.validD (toU l) = (if ok = true then Lib.validD (toU (l.drop m)) else false) := by
  cases s with
  | asc _ t h0 h1 =>
    have : (UInt8.ofNat r.toNat).toNat < 128 := by have := ofNat_of (hb r List.mem_cons_self); omega
    exact Lib.validD_cons _ _ this
  | bad b t h0 hm =>
    obtain ⟨SZ, LO, HI, c1, c2, c3, e, _, _, _, z, _⟩ := vd_lead hb h0
    obtain ⟨z1, z2, z3⟩ := z hm
    rw [e, Lib.checkN, if_neg z1, if_neg z2, if_neg z3]
    rfl
  | full b p t h0 g hm h2 =>
    obtain ⟨SZ, LO, HI, c1, c2, c3, e, e1, e2, e3, _, z⟩ := vd_lead (t := p ++ t) hb h0
    obtain ⟨z1, z2, z3⟩ := z (by omega)
    rw [show b :: p ++ t = b :: (p ++ t) from rfl, e]
    cases g with
    | one => simp at h2
    | two _ c hc =>
      obtain ⟨n1, n2⟩ := next_one.1 hc
      have e1' : (c1 : Int) = c := e1
      simp at hm
      rw [Lib.checkN, if_pos (by omega), if_neg (by simp; omega)]
      rfl
    | three _ c d hc hd =>
      obtain ⟨n1, n2⟩ := next_one.1 hc
      obtain ⟨n3, n4⟩ := next_two.1 hd
      have e1' : (c1 : Int) = c := e1
      have e2' : (c2 : Int) = d := e2
      simp at hm
      rw [Lib.checkN, if_neg (by omega), if_pos (by omega), if_neg (by simp; omega)]
      rfl
    | four _ c d f hc hd hf =>
      obtain ⟨n1, n2⟩ := next_one.1 hc
      obtain ⟨n3, n4⟩ := next_two.1 hd
      obtain ⟨n5, n6⟩ := next_three.1 hf
      have e1' : (c1 : Int) = c := e1
      have e2' : (c2 : Int) = d := e2
      have e3' : (c3 : Int) = f := e3
      simp at hm
      rw [Lib.checkN, if_neg (by omega), if_neg (by omega), if_pos (by omega), if_neg (by simp; omega)]
      rfl
  | end_ b p h0 g hm =>
    obtain ⟨SZ, LO, HI, c1, c2, c3, e, _, _, _, _, z⟩ := vd_lead (t := p) hb h0
    rw [List.length_cons] at hm
    obtain ⟨z1, z2, z3⟩ := z (by rcases many_cases b with h | h | h | h <;> omega)
    have : Lib.checkN (p.length + 1) c1 c2 c3 SZ LO HI = none := by
      unfold Lib.checkN
      repeat' split
      all_goals first | rfl | (exfalso; rename_i h; revert h; simp; omega) | (exfalso; omega)
    rw [e, this]
    rfl
  | cut b p c t h0 g hm hn =>
    obtain ⟨SZ, LO, HI, c1, c2, c3, e, e1, e2, e3, _, z⟩ := vd_lead (t := p ++ c :: t) hb h0
    rw [List.length_cons] at hm
    obtain ⟨z1, z2, z3⟩ := z (by rcases many_cases b with h | h | h | h <;> omega)
    have : Lib.checkN ((p ++ c :: t).length + 1) c1 c2 c3 SZ LO HI = none := by
      cases g with
      | one =>
        have e1' : (c1 : Int) = c := e1
        have hn' : ¬ (lowv b ≤ c ∧ c ≤ highv b) := fun h => hn (next_one.2 h)
        unfold Lib.checkN
        repeat' split
        all_goals first | rfl | (exfalso; omega)
      | two _ x hx =>
        have e2' : (c2 : Int) = c := e2
        have hn' : ¬ (128 ≤ c ∧ c ≤ 191) := fun h => hn (next_two.2 h)
        simp at hm
        unfold Lib.checkN
        repeat' split
        all_goals first | rfl | (exfalso; omega)
      | three _ x y hx hy =>
        have e3' : (c3 : Int) = c := e3
        have hn' : ¬ (128 ≤ c ∧ c ≤ 191) := fun h => hn (next_three.2 h)
        simp at hm
        unfold Lib.checkN
        repeat' split
        all_goals first | rfl | (exfalso; omega)
      | four => simp at hm; rcases many_cases b with h | h | h | h <;> omega
    rw [show b :: p ++ c :: t = b :: (p ++ c :: t) from rfl, e, this]
    rfl
theorem bad_len {l : List Int} {r : Int} {m : Nat} (h : Step l r m false) : m ≤ 3 := by
  cases h with
  | bad => omega
  | end_ b p _ _ hl => rcases many_cases b with h | h | h | h <;> omega
  | cut b p c t _ _ hl _ => rcases many_cases b with h | h | h | h <;> omega
/-- All of it: what bytes are read as, by both, and who is valid. -/
theorem both : ∀ (d : Nat) (l : List Int), l.length = d → bytes l → l.length ≤ 100000 → ∃ L, Reads l L ∧ (∀ acc : List Int, acc.length + l.length ≤ 1000000 → RE l acc (acc ++ L)) ∧ L.length ≤ l.length ∧ (∀ r ∈ L, isChar r) ∧ l.length ≤ (L.flatMap enc).length ∧ (Lib.validD (toU l) = true ↔ L.flatMap enc = l) := by
  intro d
  induction d using Nat.strongRecOn with
  | ind d ih =>
    intro l hd hb hl
    by_cases h0 : l = []
    · subst h0
      exact ⟨[], reads_nil, fun acc _ => ⟨1, fun k hk => by obtain ⟨j, rfl⟩ : ∃ j, k = j + 1 := ⟨k - 1, by omega⟩; rw [carryallref01_Decode.l0, if_neg (by simp), List.append_nil]⟩, Nat.le_refl _, fun r h => (by cases h), Nat.zero_le _, by simp [toU, Lib.validD_nil]⟩
    · obtain ⟨r, m, ok, s⟩ := step_any l hb h0
      obtain ⟨m1, m2, m4⟩ := step_len s
      have hbd : bytes (l.drop m) := fun x hx => hb x (List.mem_of_mem_drop hx)
      have hld : (l.drop m).length = l.length - m := List.length_drop ..
      obtain ⟨L, hR, hE, hL, hC, hF, hV⟩ := ih (l.length - m) (by omega) (l.drop m) hld hbd (by omega)
      have hsplit : l = l.take m ++ l.drop m := (List.take_append_drop m l).symm
      refine ⟨r :: L, reads_step (fun k hk => first_step hb s k hk) m1 m2 hR, fun acc ha => ?_, by rw [List.length_cons]; omega, fun x hx => ?_, ?_, ?_⟩
      · have := hE (acc ++ [r]) (by rw [List.length_append, List.length_singleton]; omega)
        rw [List.append_assoc] at this
        exact re_step hb ha s this
      · rcases List.mem_cons.1 hx with rfl | hx
        · cases ok with
          | true => exact (step_ok s).1
          | false => rw [(step_bad s).1]; exact ⟨by omega, by omega, by omega⟩
        · exact hC x hx
      · rw [List.flatMap_cons, List.length_append]
        cases ok with
        | true => rw [(step_ok s).2.2]; omega
        | false =>
          have := bad_len s
          have e : (enc r).length = 3 := by rw [(step_bad s).1]; decide
          omega
      · rw [vd_step hb s, List.flatMap_cons]
        cases ok with
        | true =>
          rw [if_pos rfl, hV, (step_ok s).2.1]
          constructor
          · intro h; rw [h]; exact List.take_append_drop m l
          · intro h
            exact List.append_cancel_left (h.trans hsplit)
        | false =>
          rw [if_neg Bool.false_ne_true]
          refine ⟨(fun h => by cases h), fun h => ?_⟩
          exfalso
          have e : (enc r).length = 3 := by rw [(step_bad s).1]; decide
          have hlen := congrArg List.length h
          rw [List.length_append, e] at hlen
          have h3 : m = 3 := by have := bad_len s; omega
          have htk : l.take m = enc r := by
            rw [← h, List.take_left' (by rw [e, h3])]
          rw [(step_bad s).1] at htk
          exact (step_bad s).2 htk
theorem uvalid_f {l : List Int} (hb : bytes l) : utf_Valid.f l = some (Lib.validD (toU l)) := by
  unfold utf_Valid.f utf8_Valid.f
  rw [if_pos]
  · rfl
  · refine List.all_eq_true.2 fun x hx => ?_
    obtain ⟨a, b⟩ := hb x hx
    rw [decide_eq_true a, decide_eq_true b]
    rfl
theorem rvalid_f {l L : List Int} (hb : bytes l) (hl : l.length ≤ 100000) (hL : L.length ≤ l.length) (h : RE l [] L) (hV : Lib.validD (toU l) = true ↔ L.flatMap enc = l) : ∃ k0, ∀ k, k0 ≤ k → carryallref01_Valid.f k l = some (Lib.validD (toU l)) := by
  obtain ⟨k0, hk⟩ := h
  refine ⟨k0 + L.length + 10, fun k hk' => ?_⟩
  unfold carryallref01_Valid.f carryallref01_Decode.f
  rw [hk k (by omega), Option.bind_some, renc_f L (by omega) k (by omega), Option.bind_some, beq_iff, bytes_str _ (flat_bytes L), bytes_str _ hb]
  congr 1
  by_cases h : L.flatMap enc = l
  · rw [decide_eq_true h, hV.2 h]
  · rw [decide_eq_false h]
    cases e : Lib.validD (toU l) with
    | false => rfl
    | true => exact absurd (hV.1 e) h
end Go.Proofs.YtkoddcihcoekgaaDoor.Dec
