/- A blank more or less: the same bytes. (Its printed law does not build yet: see NOTES.md) -/
import Derived.Test.YtbobbbpjphkooaaDoorPx1
import Derived.Test.YtbobbbpjphkooaaDoorBaS
namespace Go.Proofs.YtbobbbpjphkooaaDoor.Pure
open Go.RowKit Go.Proofs.YtbobbbpjphkooaaDoor.P Go.Proofs.YtbobbbpjphkooaaDoor.Pl Go.Proofs.YtbobbbpjphkooaaDoor.BaD Go.Proofs.YtbobbbpjphkooaaDoor.BaG Go.Proofs.YtbobbbpjphkooaaDoor.BaP2 Go.Proofs.YtbobbbpjphkooaaDoorW.PrintWords Go.Proofs.YtbobbbpjphkooaaDoorW.PrintLast Go.Proofs.YtbobbbpjphkooaaDoorW.PrintMore
theorem BaseBlanks : carryalllaw03_BaseBlanks.Pure := by
  intro s a1 a2 _ h1 h2
  have hr : 0 ≤ a1 ∧ a1 ≤ 65535 := by simpa [Lit.wf, IntKind.min, IntKind.max, IntKind.bits, IntKind.signed] using h1
  obtain ⟨m, rfl⟩ := Int.eq_ofNat_of_zero_le hr.1
  obtain ⟨n, rfl, hn⟩ := u8_of h2
  refine ⟨20001, ?_⟩
  unfold carryalllaw03_BaseBlanks.f carryalllaw03_awake.f
  rw [Option.bind_some, if_pos rfl]
  by_cases hl : s.size ≤ 400
  · have w1 : wrap64 ((s.size : Int) + 1) = ((s.size + 1 : Nat) : Int) := by rw [wrap_in (by omega) (by omega)]; omega
    have w2 : wrap64 ((m : Nat) : Int) = (m : Int) := wrap_in (by omega) (by omega)
    have t1 : Int.tmod (m : Int) ((s.size + 1 : Nat) : Int) = ((m % (s.size + 1) : Nat) : Int) := by
      rw [Int.tmod_eq_emod_of_nonneg (by omega)]
      exact (Int.natCast_emod _ _).symm
    have t2 : Int.tmod (n : Int) 5 = ((n % 5 : Nat) : Int) := by rw [Int.tmod_eq_emod_of_nonneg (by omega)]; omega
    obtain ⟨p, hp⟩ : ∃ p, m % (s.size + 1) = p := ⟨_, rfl⟩
    have hp2 : p < s.size + 1 := by rw [← hp]; exact Nat.mod_lt _ (by omega)
    obtain ⟨b, hb, hb1, hb2⟩ := rd_bl (n % 5) (Nat.mod_lt _ (by omega))
    have z1 : (s.extract 0 p).size = p := by rw [ByteArray.size_extract]; omega
    have z2 : (s.extract p s.size).size = s.size - p := by rw [ByteArray.size_extract]; omega
    have z3 : (⟨#[b]⟩ : ByteArray).size = 1 := rfl
    have hz : ((s.extract 0 p ++ ⟨#[b]⟩) ++ s.extract p s.size).size ≤ 2000 := by rw [ByteArray.size_append, ByteArray.size_append, z1, z2, z3]; omega
    have e1 : (s.extract 0 p).data.toList = s.data.toList.take p := by rw [Lib.extract_data]; simp
    have e2 : (s.extract p s.size).data.toList = s.data.toList.drop p := by rw [Lib.extract_data, List.take_of_length_le (by rw [List.length_drop, ← Lib.size_eq]; omega)]
    have hS := same s ((s.extract 0 p ++ ⟨#[b]⟩) ++ s.extract p s.size) (s.data.toList.take p) (s.data.toList.drop p) b hb1 hb2 (List.take_append_drop _ _).symm (by rw [ByteArray.data_append, ByteArray.data_append, Array.toList_append, Array.toList_append, e1, e2])
    rw [decide_eq_false (by omega), carryalllaw03_BaseBlanks.j0, if_neg Bool.false_ne_true, w1, w2, t1, t2, hp, if_neg (by omega), dec_small s _ (by omega) (by omega), Option.bind_some, if_pos (by omega), if_pos (by omega), Option.bind_some, if_pos (by omega), if_pos (by simp only [List.length_cons, List.length_nil]; omega), Int.toNat_natCast, hb, if_pos (by rw [z1, z3]; omega), if_pos (by rw [ByteArray.size_append, z1, z2, z3]; omega), dec_small _ _ hz (by omega), Option.bind_some, ← hS]
    simp
  · rw [decide_eq_true (by omega), carryalllaw03_BaseBlanks.j0, if_pos rfl]
    rfl
end Go.Proofs.YtbobbbpjphkooaaDoor.Pure
