/- More than four parts, or one that is too great, are no address, but end in a number. -/
import Derived.Test.YtniiccdonafhmaaDoorPx6
import Derived.Test.YtniiccdonafhmaaDoorQuadB
import Derived.Test.YtniiccdonafhmaaDoorQuadAwake
import Derived.OpenShut
namespace Go.Proofs.YtniiccdonafhmaaDoor.Pure
open Go.RowKit Go.Proofs.YtniiccdonafhmaaDoor.P Go.Proofs.YtniiccdonafhmaaDoor.Pl Go.Proofs.YtniiccdonafhmaaDoor.Spl Go.Proofs.YtniiccdonafhmaaDoor.Quad Go.Proofs.YtniiccdonafhmaaDoorW.PrintWords Go.Proofs.YtniiccdonafhmaaDoorW.PrintLast
theorem QuadMany : carryalllaw07_QuadMany.Pure := by
  intro a b c d n _ _ _ _ hw
  have hr : 0 ≤ n ∧ n ≤ 65535 := by simpa [Lit.wf, IntKind.min, IntKind.max, IntKind.bits, IntKind.signed] using hw
  obtain ⟨m, rfl⟩ := Int.eq_ofNat_of_zero_le hr.1
  obtain ⟨K, hK⟩ : ∃ K : Nat, 2000 ≤ K := ⟨2000, Nat.le_refl _⟩
  refine ⟨K, ?_⟩
  unfold carryalllaw07_QuadMany.f
  rw [awake_at K (by omega), Option.bind_some, if_pos rfl]
  have hx := wf_bits .or .u32 (Go.bits .or .u32 (Go.bits .or .u32 ((((a) % 4294967296) * 16777216) % 4294967296) ((((b) % 4294967296) * 65536) % 4294967296)) ((((c) % 4294967296) * 256) % 4294967296)) ((d) % 4294967296)
  generalize Go.bits .or .u32 (Go.bits .or .u32 (Go.bits .or .u32 ((((a) % 4294967296) * 16777216) % 4294967296) ((((b) % 4294967296) * 65536) % 4294967296)) ((((c) % 4294967296) * 256) % 4294967296)) ((d) % 4294967296) = x at *
  have hxr : 0 ≤ x ∧ x ≤ 4294967295 := by simpa [Lit.wf, IntKind.min, IntKind.max, IntKind.bits, IntKind.signed] using hx
  obtain ⟨y, rfl⟩ := Int.eq_ofNat_of_zero_le hxr.1
  obtain ⟨S, f1, b1, z1⟩ := rprint_f y K (by omega) (by omega)
  obtain ⟨D, f2, b2, z2⟩ := decimal m K (by omega) (by omega)
  obtain ⟨G, f3, b3, z3⟩ := decimal (256 + m) K (by omega) (by omega)
  have l1 : (⟨#[46]⟩ : ByteArray).size = 1 := rfl
  have e1 : bytesOf (⟨#[46]⟩ : ByteArray) = [46] := rfl
  obtain ⟨c0, t, hc, h0, _, _⟩ := decI_head (y / 16777216)
  have hS : bytesOf S = c0 :: (t ++ 46 :: (decI (y / 65536 % 256) ++ 46 :: (decI (y / 256 % 256) ++ 46 :: decI (y % 256)))) := by rw [b1]; unfold printQ; rw [hc]; rfl
  have hz : 1 ≤ S.size := by rw [← bytesOf_length, hS]; simp
  have hx1 : bytesOf (S.extract 0 1) = [c0] := by rw [bytes_to, hS]; rfl
  have zx : (S.extract 0 1).size = 1 := by rw [← bytesOf_length, hx1]; rfl
  have hm : bytesOf (S ++ ⟨#[46]⟩ ++ D) = printQ y ++ 46 :: decI m := by rw [bytes_append, bytes_append, b1, e1, b2, List.append_assoc]; rfl
  have hg : bytesOf (G ++ ⟨#[46]⟩ ++ S.extract 0 1) = decI (256 + m) ++ 46 :: [c0] := by rw [bytes_append, bytes_append, b3, e1, hx1, List.append_assoc]; rfl
  obtain ⟨q1, q2⟩ := many_no hm
  have q3 := great_no (by omega) (by omega) h0 hg
  have zm : (S ++ ⟨#[46]⟩ ++ D).size ≤ 26 := by rw [ByteArray.size_append, ByteArray.size_append, l1]; omega
  have zg : (G ++ ⟨#[46]⟩ ++ S.extract 0 1).size ≤ 26 := by rw [ByteArray.size_append, ByteArray.size_append, l1]; omega
  have ew : IntKind.u64.wrap (256 + ((m : Nat) : Int)) = ((256 + m : Nat) : Int) := by rw [IntWalk.u64_in _ (by omega)]; omega
  have s1 : (S ++ ⟨#[46]⟩ : ByteArray).size + D.size ≤ 9223372036854775807 := by rw [ByteArray.size_append, l1]; omega
  have s2 : (G ++ ⟨#[46]⟩ : ByteArray).size + (S.extract 0 1).size ≤ 9223372036854775807 := by rw [ByteArray.size_append, l1]; omega
  rw [f1, Option.bind_some, if_pos (by omega), IntWalk.u64_in ((m : Nat) : Int) (by omega), f2, Option.bind_some, if_pos s1, parse_f _ (by omega) K (by omega), Option.bind_some, ew, f3, Option.bind_some, if_pos (by omega), if_pos (by decide), if_pos (by omega), if_pos s2, parse_f _ (by omega) K (by omega), Option.bind_some, q1, q3, if_pos rfl, if_neg Bool.false_ne_true, if_pos rfl, if_neg Bool.false_ne_true, Option.bind_some, if_pos s1, ends_f _ (by omega) K (by omega), q2]
  rfl
end Go.Proofs.YtniiccdonafhmaaDoor.Pure
