/- A byte that is no letter, no blank, no =: not forgiven. -/
import Derived.Test.YtbobbbpjphkooaaDoorPx6
import Derived.Test.YtbobbbpjphkooaaDoorBaG
import Derived.Test.YtbobbbpjphkooaaDoorPureBaseParts
namespace Go.Proofs.YtbobbbpjphkooaaDoor.BaO
open Go.RowKit Go.Proofs.YtbobbbpjphkooaaDoor.P Go.Proofs.YtbobbbpjphkooaaDoor.Pl Go.Proofs.YtbobbbpjphkooaaDoor.Mp Go.Proofs.YtbobbbpjphkooaaDoor.BaD Go.Proofs.YtbobbbpjphkooaaDoor.BaG Go.Proofs.YtbobbbpjphkooaaDoorW.PrintWords Go.Proofs.YtbobbbpjphkooaaDoorW.PrintLast Go.Proofs.YtbobbbpjphkooaaDoorW.PrintMore
theorem cut1_odd {t : ByteArray} {b : UInt8} (h : b ∈ t.data.toList) (h61 : b ≠ 61) (he : eqEnd t = true) : b ∈ (cut1 t).data.toList := by
  rw [cut1_data]
  have hs := Lib.size_eq t
  obtain ⟨l, hl⟩ : ∃ l, t.data.toList = l := ⟨_, rfl⟩
  rw [hl] at h hs ⊢
  unfold eqEnd at he
  rw [hl] at he
  have hd : l.drop (t.size - 1) = [61] := by
    obtain ⟨q, hq⟩ := List.isSuffixOf_iff_suffix.1 he
    have hq2 : l.length = q.length + 1 := by rw [← hq, List.length_append]; rfl
    rw [hs, hq2, ← hq]
    exact List.drop_left' (by omega)
  rw [← List.take_append_drop (t.size - 1) l, hd] at h
  rcases List.mem_append.1 h with h | h
  · exact h
  · simp at h
    exact absurd h h61
theorem trim_odd {t : ByteArray} {b : UInt8} (h : b ∈ t.data.toList) (h61 : b ≠ 61) : b ∈ (trimEq t).data.toList := by
  unfold trimEq
  split
  · rename_i h1
    split
    · rename_i h2
      exact cut1_odd (cut1_odd h h61 h1.2) h61 h2
    · exact cut1_odd h h61 h1.2
  · exact h
theorem dec_odd (s : ByteArray) (b : UInt8) (h : b ∈ s.data.toList) (h61 : b ≠ 61) (hbl : isBl b = false) (hi : idx (b.toNat : Int) < 0) : decB (bytesOf (sqz s)) = ([], false) := by
  rcases low_or s.data.toList with hl | hh
  · have h2 : b ∈ (blankless s).data.toList := by
      rw [blank_data, mapD_low _ hl, List.mem_filter]
      exact ⟨h, by rw [hbl]; rfl⟩
    exact dec_bad _ ⟨_, List.mem_map.2 ⟨b, trim_odd h2 h61, rfl⟩, hi⟩
  · obtain ⟨x, hx, hx2⟩ := sqz_high s hh
    exact dec_bad _ ⟨(x.toNat : Int), List.mem_map.2 ⟨x, hx, rfl⟩, idx_high _ (UInt8.toNat_lt x) hx2⟩
def odd (n : Nat) : Bool := decide (idx (n : Int) < 0) && !isBl (UInt8.ofNat n) && !(n == 61)
def chk (n : Nat) : Bool := match carryallref03_Decode.f 1001 (strOfNums [(n : Int), 65]) with
  | none => false
  | some (_, b) => b || decide ((n : Int) = 32) || decide ((n : Int) = 9) || decide ((n : Int) = 10) || decide ((n : Int) = 12) || decide ((n : Int) = 13) || (n == 61) || odd n
set_option maxRecDepth 100000 in
theorem chk_all : ∀ n : Nat, n < 256 → chk n = true := by decide +kernel
theorem odd_ref (n : Nat) (h : n < 256) : ∃ o b, carryallref03_Decode.f 1001 (strOfNums [(n : Int), 65]) = some (o, b) ∧ (b = true ∨ (n : Int) = 32 ∨ (n : Int) = 9 ∨ (n : Int) = 10 ∨ (n : Int) = 12 ∨ (n : Int) = 13 ∨ n = 61 ∨ odd n = true) := by
  have hc := chk_all n h
  unfold chk at hc
  cases hr : carryallref03_Decode.f 1001 (strOfNums [(n : Int), 65]) with
  | none => rw [hr] at hc; cases hc
  | some p =>
    obtain ⟨o, b⟩ := p
    rw [hr] at hc
    refine ⟨o, b, rfl, ?_⟩
    simp only [Bool.or_eq_true, decide_eq_true_eq, beq_iff_eq, or_assoc] at hc
    exact hc
end Go.Proofs.YtbobbbpjphkooaaDoor.BaO
namespace Go.Proofs.YtbobbbpjphkooaaDoor.Pure
open Go.RowKit Go.Proofs.YtbobbbpjphkooaaDoor.P Go.Proofs.YtbobbbpjphkooaaDoor.Pl Go.Proofs.YtbobbbpjphkooaaDoor.En Go.Proofs.YtbobbbpjphkooaaDoor.BaP Go.Proofs.YtbobbbpjphkooaaDoor.Mp Go.Proofs.YtbobbbpjphkooaaDoor.BaD Go.Proofs.YtbobbbpjphkooaaDoor.BaG Go.Proofs.YtbobbbpjphkooaaDoor.BaO Go.Proofs.YtbobbbpjphkooaaDoorW.PrintWords Go.Proofs.YtbobbbpjphkooaaDoorW.PrintLast Go.Proofs.YtbobbbpjphkooaaDoorW.PrintMore
theorem BaseOdd : carryalllaw03_BaseOdd.Pure := by
  intro l a1 a2 _ _ hw ha1 ha2
  obtain ⟨m, rfl, hm⟩ := u8_of ha1
  obtain ⟨n, rfl, hn⟩ := u8_of ha2
  have hb : ∀ x ∈ l, byte x := fun x hx => byte_of (hw x hx)
  refine ⟨1002, ?_⟩
  unfold carryalllaw03_BaseOdd.f carryalllaw03_awake.f
  rw [Option.bind_some, if_pos rfl]
  by_cases hl : l.length ≤ 100
  · obtain ⟨o, b, hr, hor⟩ := odd_ref n hn
    have jt : carryalllaw03_BaseOdd.j1 1001 l (m : Int) (n : Int) true = some true := by rw [carryalllaw03_BaseOdd.j1, if_pos rfl]
    rw [decide_eq_false (by omega), carryalllaw03_BaseOdd.j0, if_neg Bool.false_ne_true, hr, Option.bind_some]
    by_cases h0 : b = true
    · rw [if_pos h0, jt]
    · rw [if_neg h0]
      by_cases h1 : (n : Int) = 32
      · rw [if_pos h1, jt]
      · rw [if_neg h1]
        by_cases h2 : (n : Int) = 9
        · rw [if_pos h2, jt]
        · rw [if_neg h2]
          by_cases h3 : (n : Int) = 10
          · rw [if_pos h3, jt]
          · rw [if_neg h3]
            by_cases h4 : (n : Int) = 12
            · rw [if_pos h4, jt]
            · rw [if_neg h4]
              by_cases h5 : (n : Int) = 13
              · rw [if_pos h5, jt]
              · rw [if_neg h5]
                by_cases h6 : n = 61
                · subst h6
                  exact jt
                · have hodd : odd n = true := by
                    rcases hor with h | h | h | h | h | h | h | h
                    · exact absurd h h0
                    · exact absurd h h1
                    · exact absurd h h2
                    · exact absurd h h3
                    · exact absurd h h4
                    · exact absurd h h5
                    · exact absurd h h6
                    · exact h
                  unfold odd at hodd
                  simp only [Bool.and_eq_true, decide_eq_true_eq, Bool.not_eq_true'] at hodd
                  obtain ⟨⟨hi, hbl⟩, _⟩ := hodd
                  have hne : ((n : Int) == 61) = false := by rw [beq_eq_false_iff_ne]; omega
                  obtain ⟨S, hS⟩ : ∃ S, strOfNums (encL l) = S := ⟨_, rfl⟩
                  have hSz : S.size ≤ 136 := by rw [← hS, strOfNums_size, enc_len]; omega
                  have w1 : wrap64 ((S.size : Int) + 1) = ((S.size + 1 : Nat) : Int) := by rw [wrap_in (by omega) (by omega)]; omega
                  have w2 : wrap64 (m : Int) = (m : Int) := wrap_in (by omega) (by omega)
                  have t1 : Int.tmod (m : Int) ((S.size + 1 : Nat) : Int) = ((m % (S.size + 1) : Nat) : Int) := by
                    rw [Int.tmod_eq_emod_of_nonneg (by omega)]
                    exact (Int.natCast_emod _ _).symm
                  obtain ⟨p, hp⟩ : ∃ p, m % (S.size + 1) = p := ⟨_, rfl⟩
                  have hp2 : p < S.size + 1 := by rw [← hp]; exact Nat.mod_lt _ (by omega)
                  have z1 : (S.extract 0 p).size = p := by rw [ByteArray.size_extract]; omega
                  have z2 : (S.extract p S.size).size = S.size - p := by rw [ByteArray.size_extract]; omega
                  have z3 : (strOfNums [(n : Int)]).size = 1 := by rw [strOfNums_size]; rfl
                  have hz : ((S.extract 0 p ++ strOfNums [(n : Int)]) ++ S.extract p S.size).size ≤ 200 := by rw [ByteArray.size_append, ByteArray.size_append, z1, z2, z3]; omega
                  have hmem : UInt8.ofNat n ∈ ((S.extract 0 p ++ strOfNums [(n : Int)]) ++ S.extract p S.size).data.toList := by
                    rw [ByteArray.data_append, ByteArray.data_append, Array.toList_append, Array.toList_append]
                    refine List.mem_append_left _ (List.mem_append_right _ ?_)
                    simp [strOfNums]
                  have hnn : (UInt8.ofNat n).toNat = n := by simp; omega
                  have hdec := dec_odd _ (UInt8.ofNat n) hmem (fun e => by
                    have := congrArg UInt8.toNat e
                    rw [hnn] at this
                    exact h6 this) hbl (by rw [hnn]; exact hi)
                  have b1 := blank_size ((S.extract 0 p ++ strOfNums [(n : Int)]) ++ S.extract p S.size)
                  have b2 := sqz_le ((S.extract 0 p ++ strOfNums [(n : Int)]) ++ S.extract p S.size)
                  have hdf := dec_f ((S.extract 0 p ++ strOfNums [(n : Int)]) ++ S.extract p S.size) 1000 (by omega) (by omega) (by omega) (by omega)
                  rw [hdec] at hdf
                  rw [hne, carryalllaw03_BaseOdd.j1, if_neg Bool.false_ne_true, enc_f (by omega) hb, Option.bind_some, hS, w1, w2, t1, hp, if_neg (by omega), if_pos (by omega), if_pos (by omega), Option.bind_some, Int.toNat_natCast, if_pos (by rw [z1, z3]; omega), if_pos (by rw [ByteArray.size_append, z1, z2, z3]; omega), hdf, Option.bind_some, if_neg Bool.false_ne_true]
                  rfl
  · rw [decide_eq_true (by omega), carryalllaw03_BaseOdd.j0, if_pos rfl]
    rfl
end Go.Proofs.YtbobbbpjphkooaaDoor.Pure
