/- Letters of three bytes each stand by themselves. -/
import Derived.Test.YtbobbbpjphkooaaDoorPx5
import Derived.Test.YtbobbbpjphkooaaDoorEnc
namespace Go.Proofs.YtbobbbpjphkooaaDoor.BaP
open Go.RowKit Go.Proofs.YtbobbbpjphkooaaDoor.P Go.Proofs.YtbobbbpjphkooaaDoor.Pl Go.Proofs.YtbobbbpjphkooaaDoor.En Go.Proofs.YtbobbbpjphkooaaDoorW.PrintWords Go.Proofs.YtbobbbpjphkooaaDoorW.PrintLast
theorem grp_len (a b c n : Nat) : (grp a b c n).length = 4 := rfl
theorem enc_len : ∀ l : List Int, (encL l).length = (l.length + 2) / 3 * 4
  | [] => rfl
  | [a] => by simp [encL, grp]
  | [a, b] => by simp [encL, grp]
  | a :: b :: c :: t => by
    rw [encL, List.length_append, enc_len t, grp_len]
    simp only [List.length_cons]
    omega
theorem enc_cut : ∀ (n : Nat) (l : List Int), 3 * n ≤ l.length → encL l = encL (l.take (3 * n)) ++ encL (l.drop (3 * n))
  | 0, l, _ => by simp [encL]
  | n + 1, a :: b :: c :: t, h => by
    have e : 3 * (n + 1) = 3 * n + 1 + 1 + 1 := by omega
    have ih := enc_cut n t (by simp only [List.length_cons] at h; omega)
    rw [e, List.take_succ_cons, List.take_succ_cons, List.take_succ_cons, List.drop_succ_cons, List.drop_succ_cons, List.drop_succ_cons, encL, encL, ih, List.append_assoc]
  | n + 1, [], h => by simp at h
  | n + 1, [_], h => by simp only [List.length_cons, List.length_nil] at h; omega
  | n + 1, [_, _], h => by simp only [List.length_cons, List.length_nil] at h; omega
theorem enc_f {l : List Int} (hl : l.length ≤ 100000) (hb : ∀ x ∈ l, byte x) : base_Encode.f l = some (strOfNums (encL l)) := by
  unfold base_Encode.f
  have H : (l.all fun x => decide (0 ≤ x) && decide (x ≤ 255)) = true := by
    rw [List.all_eq_true]
    intro x hx
    obtain ⟨h0, h1⟩ := hb x hx
    rw [decide_eq_true h0, decide_eq_true (by omega)]
    rfl
  rw [if_pos ⟨hl, H⟩]
theorem str_app (a b : List Int) : strOfNums (a ++ b) = strOfNums a ++ strOfNums b := by
  apply ByteArray.ext
  simp [strOfNums]
end Go.Proofs.YtbobbbpjphkooaaDoor.BaP
namespace Go.Proofs.YtbobbbpjphkooaaDoor.Pure
open Go.RowKit Go.Proofs.YtbobbbpjphkooaaDoor.P Go.Proofs.YtbobbbpjphkooaaDoor.Pl Go.Proofs.YtbobbbpjphkooaaDoor.En Go.Proofs.YtbobbbpjphkooaaDoor.BaP Go.Proofs.YtbobbbpjphkooaaDoorW.PrintWords Go.Proofs.YtbobbbpjphkooaaDoorW.PrintLast Go.Proofs.YtbobbbpjphkooaaDoorW.PrintMore
theorem BaseParts : carryalllaw03_BaseParts.Pure := by
  intro l a _ _ hw ha
  obtain ⟨n, rfl, hn⟩ := u8_of ha
  have hb : ∀ x ∈ l, byte x := fun x hx => byte_of (hw x hx)
  refine ⟨2, ?_⟩
  unfold carryalllaw03_BaseParts.f carryalllaw03_awake.f
  rw [Option.bind_some, if_pos rfl]
  by_cases hl : l.length ≤ 300
  · have h1 : wrap64 ((l.length : Int) + 2) = ((l.length + 2 : Nat) : Int) := by rw [wrap_in (by omega) (by omega)]; omega
    have h2 : wrap64 (Int.tdiv ((l.length + 2 : Nat) : Int) 3) = (((l.length + 2) / 3 : Nat) : Int) := by
      rw [Int.tdiv_eq_ediv_of_nonneg (by omega), wrap_in (by omega) (by omega)]; omega
    have h3 : wrap64 ((((l.length + 2) / 3 : Nat) : Int) * 4) = (((l.length + 2) / 3 * 4 : Nat) : Int) := by rw [wrap_in (by omega) (by omega)]; omega
    have h4 : wrap64 (n : Int) = (n : Int) := wrap_in (by omega) (by omega)
    have h5 : wrap64 (3 * (n : Int)) = ((3 * n : Nat) : Int) := by rw [wrap_in (by omega) (by omega)]; omega
    have h6 : wrap64 ((l.length : Int) / 3) = ((l.length / 3 : Nat) : Int) := by rw [wrap_in (by omega) (by omega)]; omega
    have h7 : wrap64 (((l.length / 3 : Nat) : Int) * 3) = ((l.length / 3 * 3 : Nat) : Int) := by rw [wrap_in (by omega) (by omega)]; omega
    obtain ⟨q, hq, hql⟩ : ∃ q : Nat, mn ((3 * n : Nat) : Int) ((l.length / 3 * 3 : Nat) : Int) = ((3 * q : Nat) : Int) ∧ 3 * q ≤ l.length := by
      unfold mn
      split
      · exact ⟨l.length / 3, by omega, by omega⟩
      · exact ⟨n, rfl, by omega⟩
    rw [decide_eq_false (by omega), carryalllaw03_BaseParts.j0, if_neg Bool.false_ne_true, enc_f (by omega) hb, Option.bind_some, h1, h2, h3, h4, h5]
    try rw [h6]
    rw [h7, hq, if_pos (by rw [strOfNums_size, enc_len]), if_pos (by omega), if_pos (by omega), Int.toNat_natCast, enc_f (by rw [List.length_take]; omega) (fun x hx => hb x (List.mem_of_mem_take hx)), Option.bind_some, enc_f (by rw [List.length_drop]; omega) (fun x hx => hb x (List.mem_of_mem_drop hx)), Option.bind_some, if_pos (by rw [strOfNums_size, strOfNums_size, enc_len, enc_len, List.length_take, List.length_drop]; omega), enc_cut q l hql, str_app]
    simp
  · rw [decide_eq_true (by omega), carryalllaw03_BaseParts.j0, if_pos rfl]
    rfl
end Go.Proofs.YtbobbbpjphkooaaDoor.Pure
