/- Bytes' letters are what the document says, and are read as they were, with or without = at their end. -/
import Derived.Test.YtbobbbpjphkooaaDoorPx2
import Derived.Test.YtbobbbpjphkooaaDoorBaW
namespace Go.Proofs.YtbobbbpjphkooaaDoor.BaX
open Go.RowKit Go.Proofs.YtbobbbpjphkooaaDoor.P Go.Proofs.YtbobbbpjphkooaaDoor.Pl Go.Proofs.YtbobbbpjphkooaaDoor.Mp Go.Proofs.YtbobbbpjphkooaaDoor.En Go.Proofs.YtbobbbpjphkooaaDoor.BaD Go.Proofs.YtbobbbpjphkooaaDoor.BaG Go.Proofs.YtbobbbpjphkooaaDoor.BaP2 Go.Proofs.YtbobbbpjphkooaaDoor.BaV Go.Proofs.YtbobbbpjphkooaaDoor.BaW Go.Proofs.YtbobbbpjphkooaaDoorW.PrintWords Go.Proofs.YtbobbbpjphkooaaDoorW.PrintLast Go.Proofs.YtbobbbpjphkooaaDoorW.PrintMore
theorem enc_f {l : List Int} (hl : l.length ≤ 100000) (hb : ∀ x ∈ l, byte x) : base_Encode.f l = some (strOfNums (encL l)) := by
  unfold base_Encode.f
  have H : (l.all fun x => decide (0 ≤ x) && decide (x ≤ 255)) = true := by
    rw [List.all_eq_true]
    intro x hx
    obtain ⟨h0, h1⟩ := hb x hx
    rw [decide_eq_true h0, decide_eq_true (by omega)]
    rfl
  rw [if_pos ⟨hl, H⟩]
theorem empty_iff {s : ByteArray} (h : s.toList = ([] : List UInt8)) : s.size = 0 := by
  rw [ByteArray.toList_eq] at h
  rw [Lib.size_eq, h]
  rfl
/-- All = at the end go. -/
theorem loop_f (l : List Int) (hl : l.length ≤ 300) (hb : ∀ x ∈ l, byte x) : ∀ (p k : Nat), p ≤ 2 → 20000 + p ≤ k →
    carryalllaw03_BaseWrites.l0 k l (strOfNums (encL l)) l true (strOfNums (lets l ++ List.replicate p 61)) = some true := by
  have hz : ∀ p, (strOfNums (lets l ++ List.replicate p 61)).size = (lets l).length + p := fun p => by rw [size_str, List.length_append, List.length_replicate]
  have hlen := lets_len l
  intro p
  induction p with
  | zero =>
    intro k _ hk
    obtain ⟨k, rfl⟩ : ∃ i, k = i + 1 := ⟨k - 1, by omega⟩
    have hz0 := hz 0
    rw [List.replicate_zero, List.append_nil] at hz0 ⊢
    have hby : ∀ c ∈ lets l, byte c := (text_low fun c hc => .inl (lets_all l hb c hc)).1
    have hd : base_Decode.f k (strOfNums (lets l)) = some (l, true) := by rw [dec_small _ k (by omega) (by omega), dec_bare l hb]
    have hr := ref_f l k hl hb (by omega)
    have w1 : 0 < (lets l).length → wrap64 (((strOfNums (lets l)).size : Int) - 1) = (((lets l).length - 1 : Nat) : Int) := fun h => by rw [wrap_in (by omega) (by omega)]; omega
    rw [carryalllaw03_BaseWrites.l0]
    by_cases h0 : (strOfNums (lets l)).toList = ([] : List UInt8)
    · rw [if_pos h0, hd, Option.bind_some, hr, Option.bind_some, if_pos rfl, if_pos rfl, if_pos rfl, if_pos rfl]
      simp
    · have hpos : 0 < (lets l).length := by
        rcases Nat.eq_zero_or_pos (lets l).length with h | h
        · exfalso
          apply h0
          rw [ByteArray.toList_eq, strOfNums_data, List.eq_nil_of_length_eq_zero h]
          rfl
        · exact h
      rw [if_neg h0, w1 hpos, if_pos (by omega), if_pos (by omega), if_neg (by
        rw [bt_get _ _ (by rw [bytesOf_length]; omega)]
        intro hh
        have hm : (bytesOf (strOfNums (lets l)))[(lets l).length - 1]'(by rw [bytesOf_length]; omega) ∈ bytesOf (strOfNums (lets l)) := List.getElem_mem _
        rw [hh, bytes_str _ hby] at hm
        exact lets_ne l hb _ hm rfl), hd, Option.bind_some, hr, Option.bind_some, if_pos rfl, if_pos rfl, if_pos rfl, if_pos rfl]
      simp
  | succ p ih =>
    intro k hp hk
    obtain ⟨k, rfl⟩ : ∃ i, k = i + 1 := ⟨k - 1, by omega⟩
    have hzp := hz (p + 1)
    have hby : ∀ c ∈ lets l ++ List.replicate (p + 1) 61, byte c := (text_low fun c hc => by
      rcases List.mem_append.1 hc with h | h
      · exact .inl (lets_all l hb c h)
      · exact .inr (List.eq_of_mem_replicate h)).1
    have w1 : wrap64 (((strOfNums (lets l ++ List.replicate (p + 1) 61)).size : Int) - 1) = (((lets l).length + p : Nat) : Int) := by rw [wrap_in (by omega) (by omega)]; omega
    have e : lets l ++ List.replicate (p + 1) (61 : Int) = (lets l ++ List.replicate p 61) ++ [61] := by rw [List.replicate_succ', List.append_assoc]
    have e2 : (strOfNums (lets l ++ List.replicate (p + 1) 61)).extract 0 ((lets l).length + p) = strOfNums (lets l ++ List.replicate p 61) := by
      apply bytes_inj
      rw [bytes_to, bytes_str _ hby, e, bytes_str _ (fun c hc => hby c (by rw [e]; exact List.mem_append_left _ hc))]
      exact List.take_left' (by simp)
    rw [carryalllaw03_BaseWrites.l0, if_neg (fun h => by have := empty_iff h; omega), w1, if_pos (by omega), if_pos (by omega), if_pos (by
      rw [bt_get _ _ (by rw [bytesOf_length]; omega)]
      have : (bytesOf (strOfNums (lets l ++ List.replicate (p + 1) 61)))[(lets l).length + p]? = some 61 := by
        rw [bytes_str _ hby, e, List.getElem?_append_right (by simp)]
        simp
      exact (List.getElem?_eq_some_iff.1 this).2), if_pos (by omega), Int.toNat_natCast, e2]
    exact ih k (by omega) (by omega)
end Go.Proofs.YtbobbbpjphkooaaDoor.BaX
namespace Go.Proofs.YtbobbbpjphkooaaDoor.Pure
open Go.RowKit Go.Proofs.YtbobbbpjphkooaaDoor.P Go.Proofs.YtbobbbpjphkooaaDoor.Pl Go.Proofs.YtbobbbpjphkooaaDoor.Mp Go.Proofs.YtbobbbpjphkooaaDoor.En Go.Proofs.YtbobbbpjphkooaaDoor.BaG Go.Proofs.YtbobbbpjphkooaaDoor.BaP2 Go.Proofs.YtbobbbpjphkooaaDoor.BaW Go.Proofs.YtbobbbpjphkooaaDoor.BaX Go.Proofs.YtbobbbpjphkooaaDoorW.PrintWords Go.Proofs.YtbobbbpjphkooaaDoorW.PrintLast Go.Proofs.YtbobbbpjphkooaaDoorW.PrintMore
theorem BaseWrites : carryalllaw03_BaseWrites.Pure := by
  intro l _ _ hw
  have hb : ∀ x ∈ l, byte x := fun x hx => byte_of (hw x hx)
  refine ⟨30001, ?_⟩
  unfold carryalllaw03_BaseWrites.f carryalllaw03_awake.f
  rw [Option.bind_some, if_pos rfl]
  by_cases hl : l.length ≤ 300
  · have hp := pads_of l.length
    have hz : (strOfNums (encL l)).size ≤ 2000 := by
      rw [size_str, encL_lets, List.length_append, List.length_replicate, lets_len]
      omega
    have := loop_f l hl hb (pads l.length) 30000 (by omega) (by omega)
    rw [← encL_lets] at this
    rw [decide_eq_false (by omega), carryalllaw03_BaseWrites.j0, if_neg Bool.false_ne_true, enc_f (by omega) hb, Option.bind_some, dec_small _ _ hz (by omega), dec_full l hb, Option.bind_some]
    exact this
  · rw [decide_eq_true (by omega), carryalllaw03_BaseWrites.j0, if_pos rfl]
    rfl
end Go.Proofs.YtbobbbpjphkooaaDoor.Pure
